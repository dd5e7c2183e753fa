import Derived.Test.YtdghpfejmlpjhaaRY2
import Derived.Test.YtdghpfejmlpjhaaRYT
import Derived.Test.YtdghpfejmlpjhaaRCon3
import Derived.Test.YtdghpfejmlpjhaaRL3
import Derived.OwnWalk
import Derived.Test.YtdghpfejmlpjhaaAWq
import Derived.Test.YtdghpfejmlpjhaaChecked
import Derived.Test.YtdghpfejmlpjhaaRAT
import Derived.Test.YtdghpfejmlpjhaaASimM
set_option linter.all false
set_option maxRecDepth 100000
open Option renaming bind_some→A0
open List renaming replicate→A1, mem_cons_of_mem→A2, mem_cons_self→A3, length_map→A4, map_cons→A5, map→A6, filter_cons→A8, getElem?_eq_getElem→B0, getD_eq_getElem?_getD→B4, map_congr_left→B7, eq_nil_of_length_eq_zero→C0, length_set→C7, length_cons→C8, drop_zero→C9, map_nil→D0, getElem?_replicate→D2, take_of_length_le→D4, drop_of_length_le→D5, getElem_mem→D7, drop_eq_getElem_cons→D8
open Bool renaming not_true→A7, not_false→A9, eq_iff_iff→D6
open Int renaming toNat→B1, toNat_natCast→D1
open Nat renaming zero_add→D3
namespace Go.AM
open Go.Proofs
def NS (fuel:Nat) (a1:qq) (a2:Int):Option ruProof :=
 ((jY fuel a1 a2 510).bind fun w6=>(some w6.1))
theorem qcs (fuel:Nat) (a1:qq) (a2:Int) (r:ruProof) (h:NS fuel a1 a2=some r):Run Try.prog (.call 54 [.agg [I6 a1.ql,I6 a1.qf.qb,l3 none a1.qf.qa,l85 none a1.qh],I6 a2] (.agg [I6 r.ql,I6 r.qf.qb,l3 none r.qf.qa,l77 none r.qh])):=by
 refine cW Try.func54 rfl (env0:=[(0,.agg [I6 a1.ql,I6 a1.qf.qb,l3 none a1.qf.qa,l85 none a1.qh]),(1,I6 a2)]) ?_;unfold NS at h;refine W.seq ?_;let z0:=fun t=>EN ((1,I6 a2)::(2,.ptr (.agg [I6 a1.ql,I6 a1.qf.qb,l3 none a1.qf.qa,l85 none a1.qh]))::(4,.box [.int .i64 0,.int .i64 0,.nils,.nils])::t);refine W.rT [1,2,4] [2] (e2:=z0 []) ?_;refine W.seq<|W.rt (e2:=z0 [(5,.box [.int .i64 510])]) ?_;refine W.sr ?_;obtain⟨w6,hw6,h⟩:=qe h;refine WO.cm 2 [(5,2000002)] [] (F:=100) (args:=[.agg [I6 a1.ql,I6 a1.qf.qb,l3 none a1.qf.qa,l85 none a1.qh],I6 a2,.pb 2000002 0]) (hp:=[(2000002,.box [.int .i64 510])]) (hp2:=[(2000002,.box [I6 w6.2])]) (r:=.agg [I6 w6.1.ql,I6 w6.1.qf.qb,l3 none w6.1.qf.qa,l77 none w6.1.qh]) (Dj fuel a1 a2 510 w6 hw6) (e1:=z0 [(5,.box [I6 w6.2]),(6,.agg [I6 a1.ql,I6 a1.qf.qb,l3 none a1.qf.qa,l85 none a1.qh]),(7,I6 a2),(8,.agg [I6 w6.1.ql,I6 w6.1.qf.qb,l3 none w6.1.qf.qa,l77 none w6.1.qh])]) ?_;let z1:=fun t=>EN ((4,.box [I6 w6.1.ql,I6 w6.1.qf.qb,l3 none w6.1.qf.qa,l77 none w6.1.qh])::t);refine WO.fn (e2:=z1 []) ?_;refine W.wk (e:=z1 []) ?_;cases h;exact W.rr
def Ht (a1:(List Int)) (a2:qo) (a3:apiFact):Option ((List Int)×Bool) :=
 (chk (!a1.isEmpty) (bif ((a3.qa.length:Int) != (a2.qa.length:Int)) then (chk (decide (a1.length=8)) (chk (decide (a1.length=8∧(A1 8 0).length=8)) (chk (decide (a1.length=8)) (some (a1,false))))) else (chk (decide (a1.length=8)) ((VX a3).bind fun w14=>((jT a1 a2 w14).bind fun w15=>(chk (decide (w15.1.length=8∧(A1 8 0).length=8)) (chk (decide (w15.1.length=8)) (some (w15.1,w15.2)))))))))
theorem qbp (a1:(List Int)) (a2:qo) (a3:apiFact) (r:((List Int)×Bool)) (h:Ht a1 a2 a3=some r):Run Try.prog (.call 122 [.agg (M6 a1),.agg [I6 a2.qb,l3 none a2.qa],.agg [I6 a3.qb,l3 none a3.qa]] (.tup [.agg (M6 r.1),.bool r.2])):=by
 refine cW Try.func122 rfl (env0:=[(0,.agg (M6 a1)),(1,.agg [I6 a2.qb,l3 none a2.qa]),(2,.agg [I6 a3.qb,l3 none a3.qa])]) ?_;unfold Ht at h;refine W.sr ?_;obtain⟨hc5,h⟩:=qi h;let z0:=fun t=>EN ((0,.agg (M6 a1))::(1,.agg [I6 a2.qb,l3 none a2.qa])::(2,.agg [I6 a3.qb,l3 none a3.qa])::(3,.pb 1000003 0)::t);refine WO.boxA (enc:=(AV.int .i64)) (l:=a1) (d:=3) 0 (qt .i64) hc5 (e1:=z0 [(1000003,.hob 3 [] (M6 a1))]) ?_;let z1:=fun t=>z0 ((4,.box [I6 a2.qb,l3 none a2.qa])::(5,.box [I6 a3.qb,l3 none a3.qa])::t);refine WO.steps 3 (e1:=z1 [(6,.box [.int .i64 0,.int .i64 0,.int .i64 0,.int .i64 0,.int .i64 0,.int .i64 0,.int .i64 0,.int .i64 0]),(1000003,.hob 3 [] (M6 a1))]) (by kernel_rfl)<|WO.mv [.arr 6] (env':=z1 [(6,.pb 1000006 0),(1000003,.hob 3 [] (M6 a1)),(1000006,.hob 3 [] (M6 (A1 8 0)))]) (by kernel_rfl) ?_;let z2:=fun t=>EN ((3,.pb 1000003 0)::(4,.ptr (.agg [I6 a2.qb,l3 none a2.qa]))::(5,.ptr (.agg [I6 a3.qb,l3 none a3.qa]))::(6,.pb 1000006 0)::t);let z3:=fun t=>z2 ((1000003,.hob 3 [] (M6 a1))::(1000006,.hob 3 [] (M6 (A1 8 0)))::t);refine WO.fi [3,4,5,6,1000003,1000006] [4,5] (e2:=z3 []) ?_;refine W.seq<|W.sr ?_;let z4:=fun t=>z2 ((8,.ptr (l3 none a3.qa))::(9,l3 none a3.qa)::(10,I6 (a3.qa.length:Int))::t);refine WO.pq 2 (jM (.int .i64) a3.qa) (e1:=z4 [(1000003,.hob 3 [] (M6 a1)),(1000006,.hob 3 [] (M6 (A1 8 0)))])<|WO.pq 2 (jM (.int .i64) a2.qa) (e1:=z4 [(11,.ptr (l3 none a2.qa)),(12,l3 none a2.qa),(13,I6 (a2.qa.length:Int)),(1000003,.hob 3 [] (M6 a1)),(1000006,.hob 3 [] (M6 (A1 8 0)))]) ?_;let z5:=fun t=>z2 ((14,.bool ((a3.qa.length:Int) != (a2.qa.length:Int)))::t);refine WO.fn (e2:=z5 [(1000003,.hob 3 [] (M6 a1)),(1000006,.hob 3 [] (M6 (A1 8 0)))]) ?_;refine W.ch ((a3.qa.length:Int) != (a2.qa.length:Int)) h (fun h=>?_) (fun h=>?_)
 ·refine W.sr ?_;obtain⟨hc9,h⟩:=qi h;let z6:=fun t=>z5 ((15,.agg (M6 a1))::(1000003,.hob 3 [] (M6 a1))::t);refine WO.pk 0 (cut Try.prog 178 (M6 a1) 0) (qA (qt .i64) (sz:=8) (by kernel_rfl) (oT hc9)) (e1:=z6 [(1000006,.hob 3 [] (M6 (A1 8 0)))]) ?_;obtain⟨hc10,h⟩:=qi h;refine WO.storeA (enc:=(AV.int .i64)) (l:=a1) (l':=(A1 8 0)) (s:=1000006) (sz:=8) 0 (qt .i64) hc10 (e1:=z6 [(1000006,.hob 3 [] (M6 a1))]) ?_;let z7:=fun t=>EN ((6,.pb 1000006 0)::(7,.bool false)::(1000006,.hob 3 [] (M6 a1))::t);refine WO.fn (e2:=z7 []) ?_;refine W.wk (e:=z7 []) ?_;obtain⟨hn11,h⟩:=qi h;have hr:ju Try.prog Try.f122 [(6,.pb 1000006 0),(7,.bool false),(1000006,.hob 3 [] (M6 a1))]=some (.tup [.agg (M6 a1),.bool false]):=(by kernel_rfl:ju Try.prog Try.f122 [(6,.pb 1000006 0),(7,.bool false),(1000006,.hob 3 [] (M6 a1))]=match optAll [(cut Try.prog 178 (M6 a1) 0).map AV.strip,some (.bool false)] with | some l=>some (.tup (l.map AV.strip)) | none=>none).trans (by rw[qA (qt .i64) (sz:=8) (by kernel_rfl) (oT hn11)];rfl);cases h;exact W.ret hr
 refine W.sw (e:=z3 []) ?_;refine W.sr ?_;obtain⟨hc13,h⟩:=qi h;let z8:=fun t=>z2 ((16,.agg (M6 a1))::t);refine WO.pk 0 (cut Try.prog 178 (M6 a1) 0) (qA (qt .i64) (sz:=8) (by kernel_rfl) (oT hc13)) (e1:=z8 [(1000003,.hob 3 [] (M6 a1)),(1000006,.hob 3 [] (M6 (A1 8 0)))]) ?_;obtain⟨w14,hw14,h⟩:=qe h;let z9:=fun t=>z8 ((17,.agg [I6 a2.qb,l3 none a2.qa])::(18,.agg [I6 a3.qb,l3 none a3.qa])::(19,.agg [I6 w14.qr,I6 w14.f_a,I6 w14.f_b])::t);refine WO.ck 2 (F:=81) (l:=[.agg [I6 a3.qb,l3 none a3.qa]]) (C:=[]) (r:=.agg [I6 w14.qr,I6 w14.f_a,I6 w14.f_b]) (Hq a3 w14 hw14) (e1:=z9 [(1000003,.hob 3 [] (M6 a1)),(1000006,.hob 3 [] (M6 (A1 8 0)))]) ?_;obtain⟨w15,hw15,h⟩:=qe h;let z10:=fun t=>z9 ((20,.tup [.agg (M6 w15.1),.bool w15.2])::t);refine WO.ck 0 (F:=129) (l:=[.agg (M6 a1),.agg [I6 a2.qb,l3 none a2.qa],.agg [I6 w14.qr,I6 w14.f_a,I6 w14.f_b]]) (C:=[]) (r:=.tup [.agg (M6 w15.1),.bool w15.2]) (Vp a1 a2 w14 w15 hw15) (e1:=z10 [(1000003,.hob 3 [] (M6 a1)),(1000006,.hob 3 [] (M6 (A1 8 0)))]) ?_;obtain⟨hc16,h⟩:=qi h;refine WO.storeA (enc:=(AV.int .i64)) (l:=w15.1) (l':=(A1 8 0)) (s:=1000006) (sz:=8) 2 (qt .i64) hc16 (e1:=z10 [(21,.agg (M6 w15.1)),(22,.bool w15.2),(1000003,.hob 3 [] (M6 a1)),(1000006,.hob 3 [] (M6 w15.1))]) ?_;let z11:=fun t=>EN ((6,.pb 1000006 0)::(7,.bool w15.2)::(1000006,.hob 3 [] (M6 w15.1))::t);refine WO.fn (e2:=z11 []) ?_;refine W.wk (e:=z11 []) ?_;obtain⟨hn17,h⟩:=qi h;have hr:ju Try.prog Try.f122 [(6,.pb 1000006 0),(7,.bool w15.2),(1000006,.hob 3 [] (M6 w15.1))]=some (.tup [.agg (M6 w15.1),.bool w15.2]):=(by kernel_rfl:ju Try.prog Try.f122 [(6,.pb 1000006 0),(7,.bool w15.2),(1000006,.hob 3 [] (M6 w15.1))]=match optAll [(cut Try.prog 178 (M6 w15.1) 0).map AV.strip,some (.bool w15.2)] with | some l=>some (.tup (l.map AV.strip)) | none=>none).trans (by rw[qA (qt .i64) (sz:=8) (by kernel_rfl) (oT hn17)];rfl);cases h;exact W.ret hr
def JC:Option Int :=
 (some (-1))
def jj (g2:(ruProof→Option Bool)) (K4:(Option Int)):List ruProof→Nat→Option Int
 | [],k1=>K4
 | x1::r1,k1=>((g2 x1).bind fun w9=>(bif w9 then (some (k1:Int)) else (jj g2 K4 r1 (k1+1))))
def Xd (a1:(List ruProof)) (g2:(ruProof→Option Bool)):Option Int :=
 (chk (lenOk a1) (jj g2 (JC) a1 0))
theorem VS (a1:(List ruProof)) (g2:(ruProof→Option Bool)) (F_g2:Nat) (C_g2:List AV) (hok_g2:okFn Try.prog F_g2=true) (hrun_g2:∀ (x0:ruProof) r,g2 x0=some r→Run Try.prog (.call F_g2 ([.agg [I6 x0.ql,I6 x0.qf.qb,l3 none x0.qf.qa,l77 none x0.qh]]++C_g2) (.bool r))) (r:Int) (h:Xd a1 g2=some r):Run Try.prog (.call 130 [l77 none a1,.clo F_g2 C_g2] (I6 r)):=by
 refine cW Try.func130 rfl (env0:=[(0,l77 none a1),(1,.clo F_g2 C_g2)]) ?_;unfold Xd at h;refine W.seq ?_;let z0:=fun t=>EN ((0,l77 none a1)::(1,.clo F_g2 C_g2)::t);refine W.rt (e2:=z0 []) ?_;refine W.seq<|W.join (σ:=Unit) (fun s=>[]) (fun s=>(JC)=some r) (fun s h=>?_) (fun hK4=>?_)
 ·unfold JC at h;refine W.seq<|W.rt (e2:=[(4,I6 (-1))]) ?_;refine W.wk (e:=[(4,I6 (-1))]) ?_;cases h;exact W.rr
 refine W.sr<|WO.pq 1 (jM jw a1) (e1:=z0 [(6,l77 none a1),(7,I6 (a1.length:Int))]) ?_;let z1:=fun t=>z0 ((7,I6 (a1.length:Int))::t);refine WO.fn (e2:=z1 [(8,.int .i64 0)]) ?_;refine W.block ?_;obtain⟨hl1,h⟩:=qi h;refine W.wk (e:=z1 [(8,I6 ((0:Nat):Int))])<|W.range (σ:=Unit) a1 (fun k1 s=>z1 [(8,I6 (k1:Int))]) (fun r0 k0 s=>jj g2 (JC) r0 k0=some r) (fun s h=>?_) (fun x1 r1 k1 s hx1 hk1 h hN1=>?_) () h
 ·rw[jj.eq_1]at h;refine W.sr ?_;let z2:=fun t=>z1 ((8,I6 ((a1).length:Int))::(9,.bool false)::t);refine WO.pq 0 (jB (qJ (l:=a1))) (e1:=z2 [])<|WO.fn (e2:=z2 []) ?_;refine W.seq<|W.cF<|W.exit<|W.wk (e:=[]) ?_;exact hK4 () h
 ·rw[jj.eq_2]at h;refine W.sr ?_;let z3:=fun t=>z1 ((8,I6 (k1:Int))::t);refine WO.pq 0 (jB (qU hk1)) (e1:=z3 [(9,.bool true)])<|WO.fn (e2:=z3 [(9,.bool true)]) ?_;refine W.seq<|W.cT<|W.sw (e:=z3 []) ?_;refine W.seq<|W.block<|W.seq ?_;let z4:=fun t=>z0 ((5,I6 (k1:Int))::(7,I6 (a1.length:Int))::(8,I6 (k1:Int))::t);refine W.rt (e2:=z4 []) ?_;refine W.sr ?_;let z5:=fun t=>z4 ((11,.clo F_g2 C_g2)::(12,l77 none a1)::(13,I6 (k1:Int))::(14,.ptr (.agg [I6 x1.ql,I6 x1.qf.qb,l3 none x1.qf.qa,l77 none x1.qh]))::t);refine WO.pk 3 (if (0:Int)≤(k1:Int) then ((A6 jw a1)[B1 (k1:Int)]?).map AV.ptr else none) ((qV (f:=jw) hx1).trans (congrArg (fun y=>some (AV.ptr y)) (Xm x1))) (e1:=z5 []) ?_;obtain⟨w9,hw9,h⟩:=qe h;refine WO.callK 1 (F:=F_g2) (l:=[.agg [I6 x1.ql,I6 x1.qf.qb,l3 none x1.qf.qa,l77 none x1.qh]]) (C:=C_g2) (r:=.bool w9) (by kernel_rfl) hok_g2 (hrun_g2 x1 w9 hw9) (e1:=z5 [(15,.agg [I6 x1.ql,I6 x1.qf.qb,l3 none x1.qf.qa,l77 none x1.qh]),(16,.bool w9)]) (by kernel_rfl)<|WO.fn (e2:=z4 [(16,.bool w9)]) ?_;refine W.ch w9 h (fun h=>?_) (fun h=>?_)
  ·refine W.seq<|W.rt (e2:=[(4,I6 (k1:Int))]) ?_;refine W.wk (e:=[(4,I6 (k1:Int))]) ?_;cases h;exact W.rr
  refine W.sw (e:=z3 []) ?_;refine W.rg<|WO.pq 0 (jI (qy hl1 hk1)) (e1:=z3 [(18,I6 ((k1+1:Nat):Int))])<|WO.fn (e2:=z1 [(8,I6 ((k1+1:Nat):Int))]) ?_;exact hN1 () h
def JE (a1:(List ruProof)) (g2:(ruProof→Option Bool)):Option Bool :=
 ((Xd a1 g2).bind fun w5=>(some (decide (w5≥0))))
theorem Vb (a1:(List ruProof)) (g2:(ruProof→Option Bool)) (F_g2:Nat) (C_g2:List AV) (hok_g2:okFn Try.prog F_g2=true) (hrun_g2:∀ (x0:ruProof) r,g2 x0=some r→Run Try.prog (.call F_g2 ([.agg [I6 x0.ql,I6 x0.qf.qb,l3 none x0.qf.qa,l77 none x0.qh]]++C_g2) (.bool r))) (r:Bool) (h:JE a1 g2=some r):Run Try.prog (.call 123 [l77 none a1,.clo F_g2 C_g2] (.bool r)):=by
 refine cW Try.func123 rfl (env0:=[(0,l77 none a1),(1,.clo F_g2 C_g2)]) ?_;unfold JE at h;refine W.seq<|W.rt (e2:=[(0,l77 none a1),(1,.clo F_g2 C_g2)]) ?_;refine W.sr ?_;obtain⟨w5,hw5,h⟩:=qe h;refine WO.ck 2 (F:=130) (l:=[l77 none a1,.clo F_g2 C_g2]) (C:=[]) (r:=I6 w5) (VS a1 g2 F_g2 C_g2 hok_g2 hrun_g2 w5 hw5) (e1:=[(0,l77 none a1),(1,.clo F_g2 C_g2),(5,l77 none a1),(6,.clo F_g2 C_g2),(7,I6 w5)])<|WO.fn (e2:=[(4,.bool (decide (w5≥0)))]) ?_;refine W.wk (e:=[(4,.bool (decide (w5≥0)))]) ?_;cases h;exact W.rr
def Xt (R0:(ruProof→(List ruRule)→(List (rufact×Bool))→(List (rufact×Bool))→Option Bool)) (a1:ruProof) (c2:(List ruRule)) (c3:(List (rufact×Bool))) (c4:(List (rufact×Bool))):Option Bool :=
 ((R0 a1 c2 c3 c4).bind fun w7=>(some (!w7)))
theorem Nb (R0:(ruProof→(List ruRule)→(List (rufact×Bool))→(List (rufact×Bool))→Option Bool)) (hR0:∀ (x0:ruProof) (x1:(List ruRule)) (x2:(List (rufact×Bool))) (x3:(List (rufact×Bool))) r,R0 x0 x1 x2 x3=some r→Run Try.prog (.call 102 [.agg [I6 x0.ql,I6 x0.qf.qb,l3 none x0.qf.qa,l77 none x0.qh],l54 none x1,mpE qj AV.bool x2,mpE qj AV.bool x3] (.bool r))) (a1:ruProof) (c2:(List ruRule)) (c3:(List (rufact×Bool))) (c4:(List (rufact×Bool))) (r:Bool) (h:Xt R0 a1 c2 c3 c4=some r):Run Try.prog (.call 124 [.agg [I6 a1.ql,I6 a1.qf.qb,l3 none a1.qf.qa,l77 none a1.qh],.ptr (l54 none c2),.ptr (mpE qj AV.bool c3),.ptr (mpE qj AV.bool c4)] (.bool r)):=by
 refine cW Try.func124 rfl (env0:=[(0,.agg [I6 a1.ql,I6 a1.qf.qb,l3 none a1.qf.qa,l77 none a1.qh]),(1,.ptr (l54 none c2)),(2,.ptr (mpE qj AV.bool c3)),(3,.ptr (mpE qj AV.bool c4))]) ?_;unfold Xt at h;refine W.seq ?_;let z0:=fun t=>EN ((1,.ptr (l54 none c2))::(2,.ptr (mpE qj AV.bool c3))::(3,.ptr (mpE qj AV.bool c4))::(4,.ptr (.agg [I6 a1.ql,I6 a1.qf.qb,l3 none a1.qf.qa,l77 none a1.qh]))::t);refine W.rT [1,2,3,4] [4] (e2:=z0 []) ?_;refine W.sr ?_;obtain⟨w7,hw7,h⟩:=qe h;refine WO.ck 4 (F:=102) (l:=[.agg [I6 a1.ql,I6 a1.qf.qb,l3 none a1.qf.qa,l77 none a1.qh],l54 none c2,mpE qj AV.bool c3,mpE qj AV.bool c4]) (C:=[]) (r:=.bool w7) (hR0 a1 c2 c3 c4 w7 hw7) (e1:=z0 [(6,.agg [I6 a1.ql,I6 a1.qf.qb,l3 none a1.qf.qa,l77 none a1.qh]),(7,l54 none c2),(8,mpE qj AV.bool c3),(9,mpE qj AV.bool c4),(10,.bool w7)])<|WO.fn (e2:=[(5,.bool (!w7))]) ?_;refine W.wk (e:=[(5,.bool (!w7))]) ?_;cases h;exact W.rr
def QU (v15:Bool):Option Bool :=
 (some v15)
def JB (a1:ruProof) (a2:(List ruRule)) (a3:(List (rufact×Bool))) (a4:(List (rufact×Bool))) (K0:(ruProof→(List ruRule)→(List (rufact×Bool))→(List (rufact×Bool))→Option Bool)):Option Bool :=
 ((JE a1.qh (fun y1=>Xt K0 y1 a2 a3 a4)).bind fun w68=>(some (!w68)))
def QS (N2:(Option Bool)) (v65:Bool):Option Bool :=
 (bif v65 then (some false) else N2)
def jG (a4:(List (rufact×Bool))) (v50:(List Int)) (K57:(Option Bool)):List ruLit→Nat→Option Bool
 | [],k2=>K57
 | x2::r2,k2=>(bif x2.qp then (chk (decide (v50.length=8)) ((ja v50 x2.qc).bind fun w63=>(chk (wfI .i64 w63.qr&&wfI .i64 w63.f_a&&wfI .i64 w63.f_b) ((QS (jG a4 v50 K57 r2 (k2+1))) (mget qu false w63 a4))))) else ((QS (jG a4 v50 K57 r2 (k2+1))) false))
def JU (a1:ruProof) (a2:(List ruRule)) (a3:(List (rufact×Bool))) (a4:(List (rufact×Bool))) (e21:ruRule) (v50:(List Int)) (K0:(ruProof→(List ruRule)→(List (rufact×Bool))→(List (rufact×Bool))→Option Bool)) (v55:Bool):Option Bool :=
 (bif v55 then (some false) else (chk (lenOk e21.qd) (jG a4 v50 (JB a1 a2 a3 a4 K0) e21.qd 0)))
def qT (a1:ruProof) (a2:(List ruRule)) (a3:(List (rufact×Bool))) (a4:(List (rufact×Bool))) (e21:ruRule) (K0:(ruProof→(List ruRule)→(List (rufact×Bool))→(List (rufact×Bool))→Option Bool)) (v50:(List Int)) (v51:Bool) (v52:Int):Option Bool :=
 (bif (!v51) then ((JU a1 a2 a3 a4 e21 v50 K0) true) else ((JU a1 a2 a3 a4 e21 v50 K0) (v52 != (a1.qh.length:Int))))
def jR (N1:((List Int)→Bool→Int→Option Bool)) (v47:(List Int)) (v48:Bool) (v49:Int):Option Bool :=
 (N1 v47 v48 v49)
def QT (a1:ruProof) (x1:ruLit) (v28:(List Int)) (v30:Int) (K31:((List Int)→Bool→Int→Option Bool)) (v40:Bool):Option Bool :=
 (bif v40 then (some false) else (chk (decide (v28.length=8)) ((idx a1.qh v30).bind fun e44=>((Ht v28 x1.qc e44.qf).bind fun w45=>(chk (decide (w45.1.length=8∧v28.length=8)) (K31 w45.1 w45.2 (IntKind.wrap .i64 (v30+1))))))))
def JV (fuel:Nat) (a1:ruProof) (x1:ruLit) (v28:(List Int)) (v29:Bool) (v30:Int) (K31:((List Int)→Bool→Int→Option Bool)) (v35:Bool):Option Bool :=
 (bif v35 then (K31 v28 v29 v30) else (bif (v30 == (a1.qh.length:Int)) then ((QT a1 x1 v28 v30 K31) true) else ((idx a1.qh v30).bind fun e38=>((Zv fuel e38.qf).bind fun w39=>((QT a1 x1 v28 v30 K31) (!w39))))))
def qK (fuel:Nat) (a1:ruProof) (K26:((List Int)→Bool→Int→Option Bool)):List ruLit→Nat→(List Int)→Bool→Int→Option Bool
 | [],k1,v28,v29,v30=>(K26 v28 v29 v30)
 | x1::r1,k1,v28,v29,v30=>(bif x1.qp then ((JV fuel a1 x1 v28 v29 v30 (jR (qK fuel a1 K26 r1 (k1+1)))) true) else ((JV fuel a1 x1 v28 v29 v30 (jR (qK fuel a1 K26 r1 (k1+1)))) (!v29)))
def JW (fuel:Nat) (a1:ruProof) (a2:(List ruRule)) (a3:(List (rufact×Bool))) (a4:(List (rufact×Bool))) (K0:(ruProof→(List ruRule)→(List (rufact×Bool))→(List (rufact×Bool))→Option Bool)) (v18:Bool):Option Bool :=
 (bif v18 then (some false) else ((idx a2 a1.ql).bind fun e21=>((Ht (A1 8 0) e21.qg a1.qf).bind fun w23=>(chk (decide (w23.1.length=8∧(A1 8 0).length=8)) (chk (lenOk e21.qd) (qK fuel a1 (qT a1 a2 a3 a4 e21 K0) e21.qd 0 w23.1 w23.2 0))))))
def qF:Nat→ruProof→(List ruRule)→(List (rufact×Bool))→(List (rufact×Bool))→Option Bool
 | 0,_,_,_,_=>none
 | fuel+1,a1,a2,a3,a4=>((Zv fuel a1.qf).bind fun w8=>(bif (!w8) then (some false) else (bif (a1.ql == (-1)) then (bif ((a1.qh.length:Int) == 0) then ((VX a1.qf).bind fun w13=>(chk (wfI .i64 w13.qr&&wfI .i64 w13.f_a&&wfI .i64 w13.f_b) ((QU) (mget qu false w13 a3)))) else ((QU) false)) else (bif (decide (a1.ql<0)) then ((JW fuel a1 a2 a3 a4 (qF fuel)) true) else ((JW fuel a1 a2 a3 a4 (qF fuel)) (decide (a1.ql≥(a2.length:Int))))))))
theorem Hs:∀ (fuel:Nat) (a1:ruProof) (a2:(List ruRule)) (a3:(List (rufact×Bool))) (a4:(List (rufact×Bool))) (r:Bool) (h:qF fuel a1 a2 a3 a4=some r),Run Try.prog (.call 102 [.agg [I6 a1.ql,I6 a1.qf.qb,l3 none a1.qf.qa,l77 none a1.qh],l54 none a2,mpE qj AV.bool a3,mpE qj AV.bool a4] (.bool r)):=by
 intro fuel
 induction fuel with
 | zero=>intro a1 a2 a3 a4 r h;cases h
 | succ fuel ih =>
  intro a1 a2 a3 a4 r h;refine cW Try.func102 rfl (env0:=[(0,.agg [I6 a1.ql,I6 a1.qf.qb,l3 none a1.qf.qa,l77 none a1.qh]),(1,l54 none a2),(2,mpE qj AV.bool a3),(3,mpE qj AV.bool a4)]) ?_;rw[qF.eq_2]at h;refine W.seq ?_;let z0:=fun t=>EN ((4,.ptr (.agg [I6 a1.ql,I6 a1.qf.qb,l3 none a1.qf.qa,l77 none a1.qh]))::(5,.ptr (l54 none a2))::(6,.ptr (mpE qj AV.bool a3))::(7,.ptr (mpE qj AV.bool a4))::t);refine W.rT [4,5,6,7] [4,5,6,7] (e2:=z0 []) ?_;refine W.seq<|W.sr ?_;obtain⟨w8,hw8,h⟩:=qe h;refine WO.ck 2 (F:=75) (l:=[.agg [I6 a1.qf.qb,l3 none a1.qf.qa]]) (C:=[]) (r:=.bool w8) (VV fuel a1.qf w8 hw8) (e1:=z0 [(17,.ptr (.agg [I6 a1.qf.qb,l3 none a1.qf.qa])),(18,.agg [I6 a1.qf.qb,l3 none a1.qf.qa]),(19,.bool w8)])<|WO.fn (e2:=z0 [(20,.bool (!w8))]) ?_;refine W.ch (!w8) h (fun h=>?_) (fun h=>?_)
  ·refine W.seq<|W.rt (e2:=[(8,.bool false)]) ?_;refine W.wk (e:=[(8,.bool false)]) ?_;cases h;exact W.rr
  refine W.sw (e:=z0 []) ?_;refine W.seq<|W.seq ?_;let z1:=fun t=>z0 ((23,.bool (a1.ql == (-1)))::t);refine W.rt (e2:=z1 []) ?_;refine W.ch (a1.ql == (-1)) h (fun h=>?_) (fun h=>?_)
  ·refine W.seq<|W.join (σ:=(Bool)) (fun s=>[(8,.bool s)]) (fun s=>(QU) s=some r) (fun v15 h=>?_) (fun hK12=>?_)
   ·unfold QU at h;refine W.wk (e:=[(8,.bool v15)]) ?_;cases h;exact W.rr
   refine W.rg ?_;let z2:=fun t=>z1 ((24,.ptr (l77 none a1.qh))::(25,l77 none a1.qh)::(26,I6 (a1.qh.length:Int))::t);refine WO.pq 2 (jM jw a1.qh) (e1:=z2 [])<|WO.bh 2 (fun b=>z2 [(27,.bool b),(28,.bool b)]) ((a1.qh.length:Int) == 0) h (fun h=>?_) (fun h=>?_)
   ·obtain⟨w13,hw13,h⟩:=qe h;let z3:=fun t=>z2 ((27,.bool true)::(28,.bool true)::(29,mpE qj AV.bool a3)::(30,.ptr (.agg [I6 a1.qf.qb,l3 none a1.qf.qa]))::(31,.agg [I6 a1.qf.qb,l3 none a1.qf.qa])::(32,.agg [I6 w13.qr,I6 w13.f_a,I6 w13.f_b])::t);refine WO.ck 3 (F:=81) (l:=[.agg [I6 a1.qf.qb,l3 none a1.qf.qa]]) (C:=[]) (r:=.agg [I6 w13.qr,I6 w13.f_a,I6 w13.f_b]) (Hq a1.qf w13 hw13) (e1:=z3 []) ?_;obtain⟨hc14,h⟩:=qi h;refine WO.pk 0 ((alookup Try.prog 105 [] (mpE qj AV.bool a3) (.agg [I6 w13.qr,I6 w13.f_a,I6 w13.f_b])).map AV.strip) (congrArg (Option.map AV.strip) (VD (F:=qj) (G:=AV.bool) (eq:=qu) (l:=a3) (k:=w13) (z:=false) (kt:=127) (e:=4) (HF hc14) (by kernel_rfl) (fun x=>by kernel_rfl) (fun x y=>by kernel_rfl) (by kernel_rfl))) (e1:=z3 [(33,.bool (mget qu false w13 a3))]) ?_;refine WO.fn (e2:=[(8,.bool (mget qu false w13 a3))]) ?_;exact hK12 (mget qu false w13 a3) h
   refine WO.fn (e2:=[(8,.bool false)]) ?_;exact hK12 false h
  refine W.sw (e:=z0 []) ?_;refine W.seq<|W.seq<|W.join (σ:=(Bool)) (fun s=>z0 [(44,.bool s)]) (fun s=>(JW fuel a1 a2 a3 a4 (qF fuel)) s=some r) (fun v18 h=>?_) (fun hK17=>?_)
  ·unfold JW at h;refine W.ch v18 h (fun h=>?_) (fun h=>?_)
   ·refine W.seq<|W.rt (e2:=[(8,.bool false)]) ?_;refine W.wk (e:=[(8,.bool false)]) ?_;cases h;exact W.rr
   refine W.sw (e:=z0 []) ?_;refine W.sr ?_;obtain⟨e21,he21,h⟩:=qe h;refine WO.pq 3 (QZ (f:=Qp) he21) (e1:=z0 [(45,l54 none a2),(46,.ptr (I6 a1.ql)),(47,I6 a1.ql),(48,.ptr (.agg [I6 e21.qg.qb,l3 none e21.qg.qa,l56 none e21.qd]))]) ?_;let z4:=fun t=>z0 ((9,.ptr (.agg [I6 e21.qg.qb,l3 none e21.qg.qa,l56 none e21.qd]))::t);refine WO.fi [4,5,6,7,9] [9] (e2:=z4 []) ?_;refine W.sr ?_;obtain⟨w23,hw23,h⟩:=qe h;refine WO.ck 5 (F:=122) (l:=[.agg (M6 (A1 8 0)),.agg [I6 e21.qg.qb,l3 none e21.qg.qa],.agg [I6 a1.qf.qb,l3 none a1.qf.qa]]) (C:=[]) (r:=.tup [.agg (M6 w23.1),.bool w23.2]) (qbp (A1 8 0) e21.qg a1.qf w23 hw23) (e1:=z4 [(51,.agg (M6 (A1 8 0))),(52,.ptr (.agg [I6 e21.qg.qb,l3 none e21.qg.qa])),(53,.agg [I6 e21.qg.qb,l3 none e21.qg.qa]),(54,.ptr (.agg [I6 a1.qf.qb,l3 none a1.qf.qa])),(55,.agg [I6 a1.qf.qb,l3 none a1.qf.qa]),(56,.tup [.agg (M6 w23.1),.bool w23.2])])<|WO.steps 4 (e1:=z4 [(10,.box [.int .i64 0,.int .i64 0,.int .i64 0,.int .i64 0,.int .i64 0,.int .i64 0,.int .i64 0,.int .i64 0]),(50,.tup [.agg (M6 w23.1),.bool w23.2]),(51,.agg (M6 (A1 8 0))),(52,.ptr (.agg [I6 e21.qg.qb,l3 none e21.qg.qa])),(53,.agg [I6 e21.qg.qb,l3 none e21.qg.qa]),(54,.ptr (.agg [I6 a1.qf.qb,l3 none a1.qf.qa])),(55,.agg [I6 a1.qf.qb,l3 none a1.qf.qa]),(56,.tup [.agg (M6 w23.1),.bool w23.2]),(57,.agg (M6 w23.1)),(58,.bool w23.2)]) (by kernel_rfl) ?_;let z5:=fun t=>z4 ((10,.pb 1000010 0)::t);let z6:=fun t=>z5 ((50,.tup [.agg (M6 w23.1),.bool w23.2])::(51,.agg (M6 (A1 8 0)))::(52,.ptr (.agg [I6 e21.qg.qb,l3 none e21.qg.qa]))::(53,.agg [I6 e21.qg.qb,l3 none e21.qg.qa])::(54,.ptr (.agg [I6 a1.qf.qb,l3 none a1.qf.qa]))::(55,.agg [I6 a1.qf.qb,l3 none a1.qf.qa])::(56,.tup [.agg (M6 w23.1),.bool w23.2])::(57,.agg (M6 w23.1))::(58,.bool w23.2)::t);refine WO.mv [.arr 10] (env':=z6 [(1000010,.hob 3 [] (M6 (A1 8 0)))]) (by kernel_rfl) ?_;obtain⟨hc24,h⟩:=qi h;refine WO.storeA (enc:=(AV.int .i64)) (l:=w23.1) (l':=(A1 8 0)) (s:=1000010) (sz:=8) 0 (qt .i64) hc24 (e1:=z6 [(1000010,.hob 3 [] (M6 w23.1))]) ?_;let z7:=fun t=>z5 ((11,.bool w23.2)::t);refine WO.fn (e2:=z7 [(1000010,.hob 3 [] (M6 w23.1))]) ?_;refine W.seq ?_;let z8:=fun t=>z7 ((12,.int .i64 0)::t);refine W.rt (e2:=z8 [(1000010,.hob 3 [] (M6 w23.1))]) ?_;refine W.seq<|W.join (σ:=((List Int)×Bool×Int)) (fun s=>z5 [(11,.bool s.2.1),(12,I6 s.2.2),(1000010,.hob 3 [] (M6 s.1))]) (fun s=>(qT a1 a2 a3 a4 e21 (qF fuel)) s.1 s.2.1 s.2.2=some r) (fun s h=>?_) (fun hK26=>?_)
   ·obtain⟨v50,v51,v52⟩:=s;have h:(qT a1 a2 a3 a4 e21 (qF fuel)) v50 v51 v52=some r:=h;unfold qT at h;refine W.seq<|W.seq<|W.join (σ:=(Bool)) (fun s=>z5 [(111,.bool s),(1000010,.hob 3 [] (M6 v50))]) (fun s=>(JU a1 a2 a3 a4 e21 v50 (qF fuel)) s=some r) (fun v55 h=>?_) (fun hK54=>?_)
    ·unfold JU at h;refine W.ch v55 h (fun h=>?_) (fun h=>?_)
     ·refine W.seq<|W.rt (e2:=[(8,.bool false)]) ?_;refine W.wk (e:=[(8,.bool false)]) ?_;cases h;exact W.rr
     refine W.sw (e:=z5 [(1000010,.hob 3 [] (M6 v50))]) ?_;refine W.seq<|W.join (σ:=Unit) (fun s=>z0 []) (fun s=>(JB a1 a2 a3 a4 (qF fuel))=some r) (fun s h=>?_) (fun hK57=>?_)
     ·unfold JB at h;refine W.sr ?_;obtain⟨w68,hw68,h⟩:=qe h;refine WO.ck 3 (F:=123) (l:=[l77 none a1.qh,.clo 124 [.ptr (l54 none a2),.ptr (mpE qj AV.bool a3),.ptr (mpE qj AV.bool a4)]]) (C:=[]) (r:=.bool w68) (Vb a1.qh (fun y1=>Xt (qF fuel) y1 a2 a3 a4) 124 [.ptr (l54 none a2),.ptr (mpE qj AV.bool a3),.ptr (mpE qj AV.bool a4)] (by kernel_rfl) (fun y1 r h=>Nb (qF fuel) ih y1 a2 a3 a4 r h) w68 hw68) (e1:=z0 [(130,.ptr (l77 none a1.qh)),(131,l77 none a1.qh),(132,.clo 124 [.ptr (l54 none a2),.ptr (mpE qj AV.bool a3),.ptr (mpE qj AV.bool a4)]),(133,.bool w68)]) ?_;refine WO.fn (e2:=[(8,.bool (!w68))]) ?_;refine W.wk (e:=[(8,.bool (!w68))]) ?_;cases h;exact W.rr
     refine W.sr<|WO.pq 2 (jM Xo e21.qd) (e1:=z5 [(112,.ptr (l56 none e21.qd)),(113,l56 none e21.qd),(114,I6 (e21.qd.length:Int)),(1000010,.hob 3 [] (M6 v50))]) ?_;let z9:=fun t=>z0 ((10,.pb 1000010 0)::(113,l56 none e21.qd)::(114,I6 (e21.qd.length:Int))::t);refine WO.fn (e2:=z9 [(115,.int .i64 0),(1000010,.hob 3 [] (M6 v50))]) ?_;refine W.block ?_;obtain⟨hl2,h⟩:=qi h;refine W.wk (e:=z9 [(115,I6 ((0:Nat):Int)),(1000010,.hob 3 [] (M6 v50))])<|W.range (σ:=Unit) e21.qd (fun k2 s=>z9 [(115,I6 (k2:Int)),(1000010,.hob 3 [] (M6 v50))]) (fun r0 k0 s=>jG a4 v50 (JB a1 a2 a3 a4 (qF fuel)) r0 k0=some r) (fun s h=>?_) (fun x2 r2 k2 s hx2 hk2 h hN2=>?_) () h
     ·rw[jG.eq_1]at h;refine W.sr ?_;let z10:=fun t=>z9 ((115,I6 ((e21.qd).length:Int))::(116,.bool false)::(1000010,.hob 3 [] (M6 v50))::t);refine WO.pq 0 (jB (qJ (l:=e21.qd))) (e1:=z10 [])<|WO.fn (e2:=z10 []) ?_;refine W.seq<|W.cF<|W.exit<|W.wk (e:=z0 []) ?_;exact hK57 () h
     ·rw[jG.eq_2]at h;refine W.sr ?_;let z11:=fun t=>z9 ((115,I6 (k2:Int))::t);let z12:=fun t=>z11 ((116,.bool true)::(1000010,.hob 3 [] (M6 v50))::t);refine WO.pq 0 (jB (qU hk2)) (e1:=z12 [])<|WO.fn (e2:=z12 []) ?_;refine W.seq<|W.cT<|W.sw (e:=z11 [(1000010,.hob 3 [] (M6 v50))]) ?_;refine W.seq<|W.block<|W.sr<|WO.pq 0 (qV (f:=Xo) hx2) (e1:=z11 [(117,.ptr (.agg [.bool x2.qp,I6 x2.qc.qb,l3 none x2.qc.qa])),(1000010,.hob 3 [] (M6 v50))]) ?_;let z13:=fun t=>z0 ((10,.pb 1000010 0)::(16,.ptr (.agg [.bool x2.qp,I6 x2.qc.qb,l3 none x2.qc.qa]))::(113,l56 none e21.qd)::(114,I6 (e21.qd.length:Int))::(115,I6 (k2:Int))::t);refine WO.fi [4,5,6,7,10,16,113,114,115,1000010] [16] (e2:=z13 [(1000010,.hob 3 [] (M6 v50))]) ?_;refine W.seq<|W.join (σ:=(Bool)) (fun s=>z11 [(128,.bool s),(1000010,.hob 3 [] (M6 v50))]) (fun s=>(QS (jG a4 v50 (JB a1 a2 a3 a4 (qF fuel)) r2 (k2+1))) s=some r) (fun v65 h=>?_) (fun hK61=>?_)
      ·unfold QS at h;refine W.ch v65 h (fun h=>?_) (fun h=>?_)
       ·refine W.seq<|W.rt (e2:=[(8,.bool false)]) ?_;refine W.wk (e:=[(8,.bool false)]) ?_;cases h;exact W.rr
       refine W.sw (e:=z11 [(1000010,.hob 3 [] (M6 v50))]) ?_;refine W.rg<|WO.pq 0 (jI (qy hl2 hk2)) (e1:=z11 [(129,I6 ((k2+1:Nat):Int)),(1000010,.hob 3 [] (M6 v50))])<|WO.fn (e2:=z9 [(115,I6 ((k2+1:Nat):Int)),(1000010,.hob 3 [] (M6 v50))]) ?_;exact hN2 () h
      refine W.rg ?_;let z14:=fun t=>z13 ((119,.ptr (.bool x2.qp))::t);refine WO.bh 3 (fun b=>z14 [(120,.bool b),(121,.bool b),(1000010,.hob 3 [] (M6 v50))]) x2.qp h (fun h=>?_) (fun h=>?_)
      ·obtain⟨hc62,h⟩:=qi h;let z15:=fun t=>z14 ((120,.bool true)::(121,.bool true)::(122,mpE qj AV.bool a4)::(123,.agg (M6 v50))::t);refine WO.pk 1 (cut Try.prog 178 (M6 v50) 0) (qA (qt .i64) (sz:=8) (by kernel_rfl) (oT hc62)) (e1:=z15 [(1000010,.hob 3 [] (M6 v50))]) ?_;obtain⟨w63,hw63,h⟩:=qe h;let z16:=fun t=>z15 ((124,.ptr (.agg [I6 x2.qc.qb,l3 none x2.qc.qa]))::(125,.agg [I6 x2.qc.qb,l3 none x2.qc.qa])::(126,.agg [I6 w63.qr,I6 w63.f_a,I6 w63.f_b])::t);refine WO.ck 2 (F:=118) (l:=[.agg (M6 v50),.agg [I6 x2.qc.qb,l3 none x2.qc.qa]]) (C:=[]) (r:=.agg [I6 w63.qr,I6 w63.f_a,I6 w63.f_b]) (Yd v50 x2.qc w63 hw63) (e1:=z16 [(1000010,.hob 3 [] (M6 v50))]) ?_;obtain⟨hc64,h⟩:=qi h;refine WO.pk 0 ((alookup Try.prog 105 [] (mpE qj AV.bool a4) (.agg [I6 w63.qr,I6 w63.f_a,I6 w63.f_b])).map AV.strip) (congrArg (Option.map AV.strip) (VD (F:=qj) (G:=AV.bool) (eq:=qu) (l:=a4) (k:=w63) (z:=false) (kt:=127) (e:=4) (HF hc64) (by kernel_rfl) (fun x=>by kernel_rfl) (fun x y=>by kernel_rfl) (by kernel_rfl))) (e1:=z16 [(127,.bool (mget qu false w63 a4)),(1000010,.hob 3 [] (M6 v50))]) ?_;refine WO.fn (e2:=z11 [(128,.bool (mget qu false w63 a4)),(1000010,.hob 3 [] (M6 v50))]) ?_;exact hK61 (mget qu false w63 a4) h
      refine WO.fn (e2:=z11 [(128,.bool false),(1000010,.hob 3 [] (M6 v50))]) ?_;exact hK61 false h
    refine W.rg ?_;let z17:=fun t=>z5 ((11,.bool v51)::(12,I6 v52)::(103,.bool v51)::t);refine WO.bh 3 (fun b=>z17 [(104,.bool b),(105,.bool b),(1000010,.hob 3 [] (M6 v50))]) (!v51) h (fun h=>?_) (fun h=>?_)
    ·refine WO.fn (e2:=z5 [(111,.bool true),(1000010,.hob 3 [] (M6 v50))]) ?_;exact hK54 true h
    refine WO.pq 3 (jM jw a1.qh) (e1:=z17 [(104,.bool false),(105,.bool false),(106,I6 v52),(107,.ptr (l77 none a1.qh)),(108,l77 none a1.qh),(109,I6 (a1.qh.length:Int)),(1000010,.hob 3 [] (M6 v50))])<|WO.fn (e2:=z5 [(111,.bool (v52 != (a1.qh.length:Int))),(1000010,.hob 3 [] (M6 v50))]) ?_;exact hK54 (v52 != (a1.qh.length:Int)) h
   refine W.sr<|WO.pq 2 (jM Xo e21.qd) (e1:=z8 [(59,.ptr (l56 none e21.qd)),(60,l56 none e21.qd),(61,I6 (e21.qd.length:Int)),(1000010,.hob 3 [] (M6 w23.1))]) ?_;let z18:=fun t=>z8 ((60,l56 none e21.qd)::(61,I6 (e21.qd.length:Int))::t);refine WO.fn (e2:=z18 [(62,.int .i64 0),(1000010,.hob 3 [] (M6 w23.1))]) ?_;refine W.block ?_;obtain⟨hl1,h⟩:=qi h;refine W.wk (e:=z18 [(62,I6 ((0:Nat):Int)),(1000010,.hob 3 [] (M6 w23.1))])<|W.range (σ:=((List Int)×Bool×Int)) e21.qd (fun k1 s=>z5 [(11,.bool s.2.1),(12,I6 s.2.2),(60,l56 none e21.qd),(61,I6 (e21.qd.length:Int)),(62,I6 (k1:Int)),(1000010,.hob 3 [] (M6 s.1))]) (fun r0 k0 s=>qK fuel a1 (qT a1 a2 a3 a4 e21 (qF fuel)) r0 k0 s.1 s.2.1 s.2.2=some r) (fun s h=>?_) (fun x1 r1 k1 s hx1 hk1 h hN1=>?_) (w23.1,w23.2,0) h
   ·obtain⟨v28,v29,v30⟩:=s;have h:qK fuel a1 (qT a1 a2 a3 a4 e21 (qF fuel)) [] (e21.qd).length v28 v29 v30=some r:=h;rw[qK.eq_1]at h;refine W.sr ?_;let z19:=fun t=>z5 ((11,.bool v29)::(12,I6 v30)::(60,l56 none e21.qd)::(61,I6 (e21.qd.length:Int))::(62,I6 ((e21.qd).length:Int))::(63,.bool false)::(1000010,.hob 3 [] (M6 v28))::t);refine WO.pq 0 (jB (qJ (l:=e21.qd))) (e1:=z19 [])<|WO.fn (e2:=z19 []) ?_;refine W.seq<|W.cF<|W.exit<|W.wk (e:=z5 [(11,.bool v29),(12,I6 v30),(1000010,.hob 3 [] (M6 v28))]) ?_;exact hK26 (v28,v29,v30) h
   ·obtain⟨v28,v29,v30⟩:=s;have h:qK fuel a1 (qT a1 a2 a3 a4 e21 (qF fuel)) (x1::r1) k1 v28 v29 v30=some r:=h;rw[qK.eq_2]at h;refine W.sr ?_;let z20:=fun t=>z5 ((11,.bool v29)::(12,I6 v30)::(60,l56 none e21.qd)::(61,I6 (e21.qd.length:Int))::(62,I6 (k1:Int))::t);let z21:=fun t=>z20 ((63,.bool true)::(1000010,.hob 3 [] (M6 v28))::t);refine WO.pq 0 (jB (qU hk1)) (e1:=z21 [])<|WO.fn (e2:=z21 []) ?_;refine W.seq<|W.cT<|W.sw (e:=z20 [(1000010,.hob 3 [] (M6 v28))]) ?_;refine W.seq<|W.join (σ:=((List Int)×Bool×Int)) (fun s=>z5 [(11,.bool s.2.1),(12,I6 s.2.2),(60,l56 none e21.qd),(61,I6 (e21.qd.length:Int)),(62,I6 (k1:Int)),(1000010,.hob 3 [] (M6 s.1))]) (fun s=>(jR (qK fuel a1 (qT a1 a2 a3 a4 e21 (qF fuel)) r1 (k1+1))) s.1 s.2.1 s.2.2=some r) (fun s h=>?_) (fun hK31=>?_)
    ·obtain⟨v47,v48,v49⟩:=s;have h:(jR (qK fuel a1 (qT a1 a2 a3 a4 e21 (qF fuel)) r1 (k1+1))) v47 v48 v49=some r:=h;unfold jR at h;refine W.rg ?_;let z22:=fun t=>z5 ((11,.bool v48)::(12,I6 v49)::(60,l56 none e21.qd)::(61,I6 (e21.qd.length:Int))::t);refine WO.pq 0 (jI (qy hl1 hk1)) (e1:=z22 [(62,I6 (k1:Int)),(102,I6 ((k1+1:Nat):Int)),(1000010,.hob 3 [] (M6 v47))])<|WO.fn (e2:=z22 [(62,I6 ((k1+1:Nat):Int)),(1000010,.hob 3 [] (M6 v47))]) ?_;exact hN1 (v47,v48,v49) h
    refine W.block<|W.sr<|WO.pq 0 (qV (f:=Xo) hx1) (e1:=z20 [(64,.ptr (.agg [.bool x1.qp,I6 x1.qc.qb,l3 none x1.qc.qa])),(1000010,.hob 3 [] (M6 v28))]) ?_;let z23:=fun t=>z5 ((11,.bool v29)::(12,I6 v30)::(14,.ptr (.agg [.bool x1.qp,I6 x1.qc.qb,l3 none x1.qc.qa]))::(60,l56 none e21.qd)::(61,I6 (e21.qd.length:Int))::(62,I6 (k1:Int))::t);refine WO.fi [4,5,6,7,9,10,11,12,14,60,61,62,1000010] [14] (e2:=z23 [(1000010,.hob 3 [] (M6 v28))]) ?_;refine W.seq<|W.seq<|W.join (σ:=(Bool)) (fun s=>z23 [(71,.bool s),(1000010,.hob 3 [] (M6 v28))]) (fun s=>(JV fuel a1 x1 v28 v29 v30 (jR (qK fuel a1 (qT a1 a2 a3 a4 e21 (qF fuel)) r1 (k1+1)))) s=some r) (fun v35 h=>?_) (fun hK34=>?_)
    ·unfold JV at h;refine W.ch v35 h (fun h=>?_) (fun h=>?_)
     ·refine W.exit<|W.wk (e:=z20 [(1000010,.hob 3 [] (M6 v28))]) ?_;exact hK31 (v28,v29,v30) h
     refine W.skip ?_;let z24:=fun t=>z5 ((12,I6 v30)::(14,.ptr (.agg [.bool x1.qp,I6 x1.qc.qb,l3 none x1.qc.qa]))::(60,l56 none e21.qd)::(61,I6 (e21.qd.length:Int))::(62,I6 (k1:Int))::t);refine W.wk (e:=z24 [(1000010,.hob 3 [] (M6 v28))])<|W.seq<|W.seq<|W.join (σ:=(Bool)) (fun s=>z24 [(86,.bool s),(1000010,.hob 3 [] (M6 v28))]) (fun s=>(QT a1 x1 v28 v30 (jR (qK fuel a1 (qT a1 a2 a3 a4 e21 (qF fuel)) r1 (k1+1)))) s=some r) (fun v40 h=>?_) (fun hK37=>?_)
     ·unfold QT at h;refine W.ch v40 h (fun h=>?_) (fun h=>?_)
      ·refine W.seq<|W.rt (e2:=[(8,.bool false)]) ?_;refine W.wk (e:=[(8,.bool false)]) ?_;cases h;exact W.rr
      refine W.sw (e:=z24 [(1000010,.hob 3 [] (M6 v28))]) ?_;refine W.sr ?_;obtain⟨hc43,h⟩:=qi h;refine WO.pk 0 (cut Try.prog 178 (M6 v28) 0) (qA (qt .i64) (sz:=8) (by kernel_rfl) (oT hc43)) (e1:=z24 [(88,.agg (M6 v28)),(1000010,.hob 3 [] (M6 v28))]) ?_;obtain⟨e44,he44,h⟩:=qe h;let z25:=fun t=>z24 ((88,.agg (M6 v28))::(89,.ptr (.agg [I6 x1.qc.qb,l3 none x1.qc.qa]))::(90,.agg [I6 x1.qc.qb,l3 none x1.qc.qa])::(91,.ptr (l77 none a1.qh))::(92,l77 none a1.qh)::(93,I6 v30)::(94,.ptr (.agg [I6 e44.ql,I6 e44.qf.qb,l3 none e44.qf.qa,l77 none e44.qh]))::t);refine WO.pk 5 (if (0:Int)≤v30 then ((A6 jw a1.qh)[B1 v30]?).map AV.ptr else none) ((QZ (f:=jw) he44).trans (congrArg (fun y=>some (AV.ptr y)) (Xm e44))) (e1:=z25 [(1000010,.hob 3 [] (M6 v28))]) ?_;obtain⟨w45,hw45,h⟩:=qe h;refine WO.ck 2 (F:=122) (l:=[.agg (M6 v28),.agg [I6 x1.qc.qb,l3 none x1.qc.qa],.agg [I6 e44.qf.qb,l3 none e44.qf.qa]]) (C:=[]) (r:=.tup [.agg (M6 w45.1),.bool w45.2]) (qbp v28 x1.qc e44.qf w45 hw45) (e1:=z25 [(95,.ptr (.agg [I6 e44.qf.qb,l3 none e44.qf.qa])),(96,.agg [I6 e44.qf.qb,l3 none e44.qf.qa]),(97,.tup [.agg (M6 w45.1),.bool w45.2]),(1000010,.hob 3 [] (M6 v28))]) ?_;obtain⟨hc46,h⟩:=qi h;refine WO.storeA (enc:=(AV.int .i64)) (l:=w45.1) (l':=v28) (s:=1000010) (sz:=8) 3 (qt .i64) hc46 (e1:=z24 [(87,.tup [.agg (M6 w45.1),.bool w45.2]),(88,.agg (M6 v28)),(89,.ptr (.agg [I6 x1.qc.qb,l3 none x1.qc.qa])),(90,.agg [I6 x1.qc.qb,l3 none x1.qc.qa]),(91,.ptr (l77 none a1.qh)),(92,l77 none a1.qh),(93,I6 v30),(94,.ptr (.agg [I6 e44.ql,I6 e44.qf.qb,l3 none e44.qf.qa,l77 none e44.qh])),(95,.ptr (.agg [I6 e44.qf.qb,l3 none e44.qf.qa])),(96,.agg [I6 e44.qf.qb,l3 none e44.qf.qa]),(97,.tup [.agg (M6 w45.1),.bool w45.2]),(98,.agg (M6 w45.1)),(99,.bool w45.2),(1000010,.hob 3 [] (M6 w45.1))])<|WO.fn (e2:=z5 [(11,.bool w45.2),(12,I6 v30),(60,l56 none e21.qd),(61,I6 (e21.qd.length:Int)),(62,I6 (k1:Int)),(1000010,.hob 3 [] (M6 w45.1))]) ?_;refine W.rt (e2:=z5 [(11,.bool w45.2),(12,I6 (W6 (v30+1))),(60,l56 none e21.qd),(61,I6 (e21.qd.length:Int)),(62,I6 (k1:Int)),(1000010,.hob 3 [] (M6 w45.1))]) ?_;exact hK31 (w45.1,w45.2,(W6 (v30+1))) h
     refine W.rg ?_;let z26:=fun t=>z24 ((72,I6 v30)::(73,.ptr (l77 none a1.qh))::(74,l77 none a1.qh)::(75,I6 (a1.qh.length:Int))::t);refine WO.pq 3 (jM jw a1.qh) (e1:=z26 [(1000010,.hob 3 [] (M6 v28))])<|WO.bh 2 (fun b=>z26 [(76,.bool b),(77,.bool b),(1000010,.hob 3 [] (M6 v28))]) (v30 == (a1.qh.length:Int)) h (fun h=>?_) (fun h=>?_)
     ·refine WO.fn (e2:=z24 [(86,.bool true),(1000010,.hob 3 [] (M6 v28))]) ?_;exact hK37 true h
     obtain⟨e38,he38,h⟩:=qe h;let z27:=fun t=>z26 ((76,.bool false)::(77,.bool false)::(78,.ptr (l77 none a1.qh))::(79,l77 none a1.qh)::(80,I6 v30)::(81,.ptr (.agg [I6 e38.ql,I6 e38.qf.qb,l3 none e38.qf.qa,l77 none e38.qh]))::t);refine WO.pk 3 (if (0:Int)≤v30 then ((A6 jw a1.qh)[B1 v30]?).map AV.ptr else none) ((QZ (f:=jw) he38).trans (congrArg (fun y=>some (AV.ptr y)) (Xm e38))) (e1:=z27 [(1000010,.hob 3 [] (M6 v28))]) ?_;obtain⟨w39,hw39,h⟩:=qe h;refine WO.ck 2 (F:=75) (l:=[.agg [I6 e38.qf.qb,l3 none e38.qf.qa]]) (C:=[]) (r:=.bool w39) (VV fuel e38.qf w39 hw39) (e1:=z27 [(82,.ptr (.agg [I6 e38.qf.qb,l3 none e38.qf.qa])),(83,.agg [I6 e38.qf.qb,l3 none e38.qf.qa]),(84,.bool w39),(1000010,.hob 3 [] (M6 v28))])<|WO.fn (e2:=z24 [(86,.bool (!w39)),(1000010,.hob 3 [] (M6 v28))]) ?_;exact hK37 (!w39) h
    refine W.rg<|WO.bh 3 (fun b=>z23 [(66,.ptr (.bool x1.qp)),(67,.bool b),(68,.bool b),(1000010,.hob 3 [] (M6 v28))]) x1.qp h (fun h=>?_) (fun h=>?_)
    ·refine WO.fn (e2:=z23 [(71,.bool true),(1000010,.hob 3 [] (M6 v28))]) ?_;exact hK34 true h
    refine WO.fn (e2:=z23 [(71,.bool (!v29)),(1000010,.hob 3 [] (M6 v28))]) ?_;exact hK34 (!v29) h
  refine W.rg ?_;let z28:=fun t=>z0 ((35,.ptr (I6 a1.ql))::(36,I6 a1.ql)::t);refine WO.bh 4 (fun b=>z28 [(37,.bool b),(38,.bool b)]) (decide (a1.ql<0)) h (fun h=>?_) (fun h=>?_)
  ·refine WO.fn (e2:=z0 [(44,.bool true)]) ?_;exact hK17 true h
  refine WO.pq 3 (jM Qp a2) (e1:=z28 [(37,.bool false),(38,.bool false),(39,.ptr (I6 a1.ql)),(40,I6 a1.ql),(41,l54 none a2),(42,I6 (a2.length:Int))])<|WO.fn (e2:=z0 [(44,.bool (decide (a1.ql≥(a2.length:Int))))]) ?_;exact hK17 (decide (a1.ql≥(a2.length:Int))) h
def Ze (v18:Bool):Option (Bool×Int) :=
 (some (v18,0))
def Vq (fuel:Nat) (a1:(List ruRule)) (a2:(List apiFact)) (a3:ruProof):Option (Bool×Int) :=
 ((Yy fuel a1 a2).bind fun w7=>(bif (!w7) then (some (false,2)) else ((Yz fuel a1 a2).bind fun w10=>(bif (!w10.2) then (some (false,8)) else ((jA fuel a3 500 40).bind fun w15=>(bif (decide (w15≥0)) then ((Uh a2).bind fun w16=>((qF fuel a3 a1 w16 w10.1).bind fun w17=>((Ze) w17))) else ((Ze) false)))))))
theorem qdS (fuel:Nat) (a1:(List ruRule)) (a2:(List apiFact)) (a3:ruProof) (r:(Bool×Int)) (h:Vq fuel a1 a2 a3=some r):Run Try.prog (.call 55 [l54 none a1,l41 none a2,.agg [I6 a3.ql,I6 a3.qf.qb,l3 none a3.qf.qa,l77 none a3.qh]] (.tup [.bool r.1,I6 r.2])):=by
 refine cW Try.func55 rfl (env0:=[(0,l54 none a1),(1,l41 none a2),(2,.agg [I6 a3.ql,I6 a3.qf.qb,l3 none a3.qf.qa,l77 none a3.qh])]) ?_;unfold Vq at h;refine W.seq ?_;let z0:=fun t=>EN ((0,l54 none a1)::(1,l41 none a2)::(5,.ptr (.agg [I6 a3.ql,I6 a3.qf.qb,l3 none a3.qf.qa,l77 none a3.qh]))::t);refine W.rT [0,1,5] [5] (e2:=z0 []) ?_;refine W.seq<|W.sr ?_;obtain⟨w7,hw7,h⟩:=qe h;refine WO.ck 2 (F:=56) (l:=[l54 none a1,l41 none a2]) (C:=[]) (r:=.bool w7) (De fuel a1 a2 w7 hw7) (e1:=z0 [(10,l54 none a1),(11,l41 none a2),(12,.bool w7)])<|WO.fn (e2:=z0 [(13,.bool (!w7))]) ?_;refine W.ch (!w7) h (fun h=>?_) (fun h=>?_)
 ·refine W.seq<|W.rt (e2:=[(6,.bool false),(7,.int .i64 2)]) ?_;refine W.wk (e:=[(6,.bool false),(7,.int .i64 2)]) ?_;cases h;exact W.rr
 refine W.sw (e:=z0 []) ?_;refine W.sr ?_;obtain⟨w10,hw10,h⟩:=qe h;refine WO.ck 2 (F:=57) (l:=[l54 none a1,l41 none a2]) (C:=[]) (r:=.tup [mpE qj AV.bool w10.1,.bool w10.2]) (Df fuel a1 a2 w10 hw10) (e1:=z0 [(15,l54 none a1),(16,l41 none a2),(17,.tup [mpE qj AV.bool w10.1,.bool w10.2])]) ?_;let z1:=fun t=>z0 ((8,mpE qj AV.bool w10.1)::t);refine WO.fn (e2:=z1 [(9,.bool w10.2)]) ?_;refine W.seq<|W.seq<|W.rt (e2:=z1 [(21,.bool (!w10.2))]) ?_;refine W.ch (!w10.2) h (fun h=>?_) (fun h=>?_)
 ·refine W.seq<|W.rt (e2:=[(6,.bool false),(7,.int .i64 8)]) ?_;refine W.wk (e:=[(6,.bool false),(7,.int .i64 8)]) ?_;cases h;exact W.rr
 refine W.sw (e:=z1 []) ?_;refine W.seq<|W.join (σ:=(Bool)) (fun s=>[(6,.bool s),(7,.int .i64 0)]) (fun s=>(Ze) s=some r) (fun v18 h=>?_) (fun hK14=>?_)
 ·unfold Ze at h;refine W.wk (e:=[(6,.bool v18),(7,.int .i64 0)]) ?_;cases h;exact W.rr
 refine W.rg ?_;obtain⟨w15,hw15,h⟩:=qe h;let z2:=fun t=>z1 ((22,.agg [I6 a3.ql,I6 a3.qf.qb,l3 none a3.qf.qa,l77 none a3.qh])::(23,I6 w15)::t);refine WO.ck 1 (F:=101) (l:=[.agg [I6 a3.ql,I6 a3.qf.qb,l3 none a3.qf.qa,l77 none a3.qh],.int .i64 500,.int .i64 40]) (C:=[]) (r:=I6 w15) (Hr fuel a3 500 40 w15 hw15) (e1:=z2 [])<|WO.bh 2 (fun b=>z2 [(24,.bool b),(25,.bool b)]) (decide (w15≥0)) h (fun h=>?_) (fun h=>?_)
 ·obtain⟨w16,hw16,h⟩:=qe h;let z3:=fun t=>z2 ((24,.bool true)::(25,.bool true)::(26,.agg [I6 a3.ql,I6 a3.qf.qb,l3 none a3.qf.qa,l77 none a3.qh])::(27,l54 none a1)::(28,l41 none a2)::(29,mpE qj AV.bool w16)::t);refine WO.ck 3 (F:=73) (l:=[l41 none a2]) (C:=[]) (r:=mpE qj AV.bool w16) (Dg a2 w16 hw16) (e1:=z3 []) ?_;obtain⟨w17,hw17,h⟩:=qe h;refine WO.ck 1 (F:=102) (l:=[.agg [I6 a3.ql,I6 a3.qf.qb,l3 none a3.qf.qa,l77 none a3.qh],l54 none a1,mpE qj AV.bool w16,mpE qj AV.bool w10.1]) (C:=[]) (r:=.bool w17) (Hs fuel a3 a1 w16 w10.1 w17 hw17) (e1:=z3 [(30,mpE qj AV.bool w10.1),(31,.bool w17)])<|WO.fn (e2:=[(6,.bool w17),(7,.int .i64 0)]) ?_;exact hK14 w17 h
 refine WO.fn (e2:=[(6,.bool false),(7,.int .i64 0)]) ?_;exact hK14 false h
def QA (v16:Bool):Option Bool :=
 (some v16)
def Qz (v24:Bool):Option Bool :=
 (some v24)
def Qy (v30:Bool):Option Bool :=
 (some v30)
def XL (fuel:Nat) (a1:(List rf3Rule)) (a2:(List apiFact)) (a3:qq):Option Bool :=
 ((NS fuel a3 42).bind fun w6=>((qbB a1).bind fun w8=>((Uo a2).bind fun w9=>((Vq fuel w8 w9 w6).bind fun w10=>((Vh a1 a2).bind fun w13=>(bif (!w13) then (bif (!w10.1) then (bif (w10.2 == 2) then ((Zy fuel).bind fun w15=>((QA) w15)) else ((QA) false)) else ((QA) false)) else ((Zw fuel a1 a2).bind fun w18=>(chk (decide (w18.1.length=252∧(A1 252 false).length=252)) (bif (w18.2 != 0) then (bif (!w10.1) then (bif (w10.2 == w18.2) then ((Zy fuel).bind fun w23=>((Qz) w23)) else ((Qz) false)) else ((Qz) false)) else (chk (decide (w18.1.length=252)) ((QE fuel w6).bind fun w27=>((Uk fuel a1 a2 w18.1 w27).bind fun w28=>(bif (w10.1 == w28) then (bif (w10.2 == 0) then ((Zy fuel).bind fun w29=>((Qy) w29)) else ((Qy) false)) else ((Qy) false))))))))))))))
theorem Hh (fuel:Nat) (a1:(List rf3Rule)) (a2:(List apiFact)) (a3:qq) (r:Bool) (h:XL fuel a1 a2 a3=some r):Run Try.prog (.call 15 [l94 none a1,l41 none a2,.agg [I6 a3.ql,I6 a3.qf.qb,l3 none a3.qf.qa,l85 none a3.qh]] (.bool r)):=by
 refine cW Try.func15 rfl (env0:=[(0,l94 none a1),(1,l41 none a2),(2,.agg [I6 a3.ql,I6 a3.qf.qb,l3 none a3.qf.qa,l85 none a3.qh])]) ?_;unfold XL at h;refine W.seq ?_;let z0:=fun t=>EN ((0,l94 none a1)::(1,l41 none a2)::t);let z1:=fun t=>z0 ((5,.ptr (.agg [I6 a3.ql,I6 a3.qf.qb,l3 none a3.qf.qa,l85 none a3.qh]))::t);refine W.rT [0,1,5] [5] (e2:=z1 []) ?_;refine W.sr ?_;obtain⟨w6,hw6,h⟩:=qe h;refine WO.ck 1 (F:=54) (l:=[.agg [I6 a3.ql,I6 a3.qf.qb,l3 none a3.qf.qa,l85 none a3.qh],.int .i64 42]) (C:=[]) (r:=.agg [I6 w6.ql,I6 w6.qf.qb,l3 none w6.qf.qa,l77 none w6.qh]) (qcs fuel a3 42 w6 hw6) (e1:=z1 [(12,.agg [I6 a3.ql,I6 a3.qf.qb,l3 none a3.qf.qa,l85 none a3.qh]),(13,.agg [I6 w6.ql,I6 w6.qf.qb,l3 none w6.qf.qa,l77 none w6.qh])]) ?_;let z2:=fun t=>z0 ((7,.ptr (.agg [I6 w6.ql,I6 w6.qf.qb,l3 none w6.qf.qa,l77 none w6.qh]))::t);refine WO.fi [0,1,7] [7] (e2:=z2 []) ?_;refine W.sr ?_;obtain⟨w8,hw8,h⟩:=qe h;let z3:=fun t=>z2 ((15,l94 none a1)::(16,l54 none w8)::t);refine WO.ck 1 (F:=18) (l:=[l94 none a1]) (C:=[]) (r:=l54 (some 1) w8) (qgf a1 w8 hw8) (e1:=z3 []) ?_;obtain⟨w9,hw9,h⟩:=qe h;let z4:=fun t=>z3 ((17,l41 none a2)::(18,l41 none w9)::t);refine WO.ck 1 (F:=19) (l:=[l41 none a2]) (C:=[]) (r:=l41 (some 1) w9) (qct a2 w9 hw9) (e1:=z4 []) ?_;obtain⟨w10,hw10,h⟩:=qe h;refine WO.ck 1 (F:=55) (l:=[l54 none w8,l41 none w9,.agg [I6 w6.ql,I6 w6.qf.qb,l3 none w6.qf.qa,l77 none w6.qh]]) (C:=[]) (r:=.tup [.bool w10.1,I6 w10.2]) (qdS fuel w8 w9 w6 w10 hw10) (e1:=z4 [(19,.agg [I6 w6.ql,I6 w6.qf.qb,l3 none w6.qf.qa,l77 none w6.qh]),(20,.tup [.bool w10.1,I6 w10.2])]) ?_;let z5:=fun t=>z2 ((8,.bool w10.1)::(9,I6 w10.2)::t);refine WO.fn (e2:=z5 []) ?_;refine W.seq<|W.sr ?_;obtain⟨w13,hw13,h⟩:=qe h;refine WO.ck 2 (F:=20) (l:=[l94 none a1,l41 none a2]) (C:=[]) (r:=.bool w13) (qco a1 a2 w13 hw13) (e1:=z5 [(23,l94 none a1),(24,l41 none a2),(25,.bool w13)]) ?_;let z6:=fun t=>z5 ((26,.bool (!w13))::t);refine WO.fn (e2:=z6 []) ?_;refine W.ch (!w13) h (fun h=>?_) (fun h=>?_)
 ·refine W.seq<|W.join (σ:=(Bool)) (fun s=>[(6,.bool s)]) (fun s=>(QA) s=some r) (fun v16 h=>?_) (fun hK14=>?_)
  ·unfold QA at h;refine W.wk (e:=[(6,.bool v16)]) ?_;cases h;exact W.rr
  refine W.rg ?_;let z7:=fun t=>z6 ((27,.bool w10.1)::t);refine WO.bh 3 (fun b=>z7 [(28,.bool b),(29,.bool b)]) (!w10.1) h (fun h=>?_) (fun h=>?_)
  ·let z8:=fun t=>z7 ((28,.bool true)::(29,.bool true)::(30,I6 w10.2)::t);refine WO.bh 4 (fun b=>z8 [(31,.bool b),(32,.bool b),(33,.bool b)]) (w10.2 == 2) h (fun h=>?_) (fun h=>?_)
   ·obtain⟨w15,hw15,h⟩:=qe h;refine WO.ck 0 (F:=21) (l:=[]) (C:=[]) (r:=.bool w15) (VW fuel w15 hw15) (e1:=z8 [(31,.bool true),(32,.bool true),(33,.bool true),(34,.bool w15)])<|WO.fn (e2:=[(6,.bool w15)]) ?_;exact hK14 w15 h
   refine WO.fn (e2:=[(6,.bool false)]) ?_;exact hK14 false h
  refine WO.fn (e2:=[(6,.bool false)]) ?_;exact hK14 false h
 refine W.sw (e:=z5 []) ?_;refine W.sr ?_;obtain⟨w18,hw18,h⟩:=qe h;refine WO.ck 2 (F:=22) (l:=[l94 none a1,l41 none a2]) (C:=[]) (r:=.tup [.agg (A6 AV.bool w18.1),I6 w18.2]) (qcq fuel a1 a2 w18 hw18) (e1:=z5 [(37,l94 none a1),(38,l41 none a2),(39,.tup [.agg (A6 AV.bool w18.1),I6 w18.2])])<|WO.steps 4 (e1:=z5 [(10,.box z252),(36,.tup [.agg (A6 AV.bool w18.1),I6 w18.2]),(37,l94 none a1),(38,l41 none a2),(39,.tup [.agg (A6 AV.bool w18.1),I6 w18.2]),(40,.agg (A6 AV.bool w18.1)),(41,I6 w18.2)]) (by kernel_rfl) ?_;let z9:=fun t=>z5 ((10,.pb 1000010 0)::t);let z10:=fun t=>z9 ((36,.tup [.agg (A6 AV.bool w18.1),I6 w18.2])::(37,l94 none a1)::(38,l41 none a2)::(39,.tup [.agg (A6 AV.bool w18.1),I6 w18.2])::(40,.agg (A6 AV.bool w18.1))::(41,I6 w18.2)::t);refine WO.mv [.arr 10] (env':=z10 [(1000010,hZ)]) (by kernel_rfl) ?_;obtain⟨hc19,h⟩:=qi h;refine WO.storeA (enc:=AV.bool) (l:=w18.1) (l':=(A1 252 false)) (s:=1000010) (sz:=252) 0 qI hc19 (e1:=z10 [(1000010,hB w18.1)]) ?_;let z11:=fun t=>z9 ((11,I6 w18.2)::t);refine WO.fn (e2:=z11 [(1000010,hB w18.1)]) ?_;refine W.seq<|W.seq ?_;let z12:=fun t=>z11 ((43,.bool (w18.2 != 0))::t);refine W.rt (e2:=z12 [(1000010,hB w18.1)]) ?_;refine W.ch (w18.2 != 0) h (fun h=>?_) (fun h=>?_)
 ·refine W.seq<|W.join (σ:=(Bool)) (fun s=>[(6,.bool s)]) (fun s=>(Qz) s=some r) (fun v24 h=>?_) (fun hK22=>?_)
  ·unfold Qz at h;refine W.wk (e:=[(6,.bool v24)]) ?_;cases h;exact W.rr
  refine W.rg ?_;let z13:=fun t=>z12 ((44,.bool w10.1)::t);refine WO.bh 3 (fun b=>z13 [(45,.bool b),(46,.bool b),(1000010,hB w18.1)]) (!w10.1) h (fun h=>?_) (fun h=>?_)
  ·let z14:=fun t=>z13 ((45,.bool true)::(46,.bool true)::(47,I6 w10.2)::(48,I6 w18.2)::t);refine WO.bh 5 (fun b=>z14 [(49,.bool b),(50,.bool b),(51,.bool b),(1000010,hB w18.1)]) (w10.2 == w18.2) h (fun h=>?_) (fun h=>?_)
   ·obtain⟨w23,hw23,h⟩:=qe h;refine WO.ck 0 (F:=21) (l:=[]) (C:=[]) (r:=.bool w23) (VW fuel w23 hw23) (e1:=z14 [(49,.bool true),(50,.bool true),(51,.bool true),(52,.bool w23),(1000010,hB w18.1)])<|WO.fn (e2:=[(6,.bool w23)]) ?_;exact hK22 w23 h
   refine WO.fn (e2:=[(6,.bool false)]) ?_;exact hK22 false h
  refine WO.fn (e2:=[(6,.bool false)]) ?_;exact hK22 false h
 refine W.sw (e:=z9 [(1000010,hB w18.1)]) ?_;refine W.seq<|W.join (σ:=(Bool)) (fun s=>[(6,.bool s)]) (fun s=>(Qy) s=some r) (fun v30 h=>?_) (fun hK25=>?_)
 ·unfold Qy at h;refine W.wk (e:=[(6,.bool v30)]) ?_;cases h;exact W.rr
 refine W.rg ?_;obtain⟨hc26,h⟩:=qi h;let z15:=fun t=>z9 ((54,.bool w10.1)::(55,l94 none a1)::(56,l41 none a2)::(57,.agg (A6 AV.bool w18.1))::t);refine WO.pk 3 (cut Try.prog 33 (A6 AV.bool w18.1) 0) (qA qI (sz:=252) (by kernel_rfl) (oT hc26)) (e1:=z15 [(1000010,hB w18.1)]) ?_;obtain⟨w27,hw27,h⟩:=qe h;let z16:=fun t=>z15 ((58,.agg [I6 w6.ql,I6 w6.qf.qb,l3 none w6.qf.qa,l77 none w6.qh])::(59,.agg [I6 w27.ql,I6 w27.qf.qb,l3 none w27.qf.qa,l85 none w27.qh])::t);refine WO.ck 1 (F:=49) (l:=[.agg [I6 w6.ql,I6 w6.qf.qb,l3 none w6.qf.qa,l77 none w6.qh]]) (C:=[]) (r:=.agg [I6 w27.ql,I6 w27.qf.qb,l3 none w27.qf.qa,l85 none w27.qh]) (DZ fuel w6 w27 hw27) (e1:=z16 [(1000010,hB w18.1)]) ?_;obtain⟨w28,hw28,h⟩:=qe h;let z17:=fun t=>z16 ((60,.bool w28)::t);refine WO.ck 0 (F:=50) (l:=[l94 none a1,l41 none a2,.agg (A6 AV.bool w18.1),.agg [I6 w27.ql,I6 w27.qf.qb,l3 none w27.qf.qa,l85 none w27.qh]]) (C:=[]) (r:=.bool w28) (qcp fuel a1 a2 w18.1 w27 w28 hw28) (e1:=z17 [(1000010,hB w18.1)])<|WO.bh 2 (fun b=>z17 [(61,.bool b),(62,.bool b),(1000010,hB w18.1)]) (w10.1 == w28) h (fun h=>?_) (fun h=>?_)
 ·let z18:=fun t=>z17 ((61,.bool true)::(62,.bool true)::(63,I6 w10.2)::t);refine WO.bh 4 (fun b=>z18 [(64,.bool b),(65,.bool b),(66,.bool b),(1000010,hB w18.1)]) (w10.2 == 0) h (fun h=>?_) (fun h=>?_)
  ·obtain⟨w29,hw29,h⟩:=qe h;refine WO.ck 0 (F:=21) (l:=[]) (C:=[]) (r:=.bool w29) (VW fuel w29 hw29) (e1:=z18 [(64,.bool true),(65,.bool true),(66,.bool true),(67,.bool w29),(1000010,hB w18.1)])<|WO.fn (e2:=[(6,.bool w29)]) ?_;exact hK25 w29 h
  refine WO.fn (e2:=[(6,.bool false)]) ?_;exact hK25 false h
 refine WO.fn (e2:=[(6,.bool false)]) ?_;exact hK25 false h
end Go.AM
namespace Go.AM
open Go.Proofs Go.Sort
open Classical
def Ext (v w:List Int):Prop:=∀ i,v.getD i 0≠0→w.getD i 0=v.getD i 0
theorem Ext.refl (v:List Int):Ext v v:=fun _ _=>rfl
theorem Ext.trans {u v w:List Int} (h:Ext u v) (k:Ext v w):Ext u w:=fun i hi=>by rw[k i (by rw[h i hi];exact hi),h i hi]
theorem Ext.zero (w:List Int):Ext v0 w:=fun i hi=>by
 refine absurd ?_ hi;rw[B4,D2];split<;>rfl
theorem Ext.bnd {u w args:List Int} (h:Ext u w) (hb:Go.AM.bnd u args):Go.AM.bnd w args:=fun x hx h0=>by rw[h _ (hb x hx h0)];exact hb x hx h0
theorem Ext.ground {u w args:List Int} (h:Ext u w) (hb:Go.AM.bnd u args):groundA w args=groundA u args:=by
 unfold groundA
 refine B7 fun x hx=>?_
 split
 ·rfl
 ·rename_i h0;exact h _ (hb x hx (by omega))
theorem Ext.groundF {u w:List Int} (h:Ext u w) {a:qo} (hb:Go.AM.bnd u a.qa):groundF w a=groundF u a:=by
 unfold Go.AM.groundF;rw[h.ground hb]
theorem UM:∀ {xs es v u:List Int},fitA v xs es=some u→V8 v→arg7 xs→es16 es→xs.length=es.length→Ext v u∧groundA u xs=es
 | [],es,v,u,h,hv,_,_,hl=>by
  rw[fitA]at h;cases h;have:es=[]:=C0 hl.symm;subst this;exact⟨Ext.refl _,rfl⟩
 | x::xs,[],v,u,h,_,_,_,_=>by cases h
 | x::xs,e::es,v,u,h,hv,ha,he,hl=>by
  have hx:=ha x (A3 ..)
  have ha':arg7 xs:=fun y hy=>ha y (A2 _ hy)
  have h1:=he e (A3 ..)
  have he':es16 es:=fun y hy=>he y (A2 _ hy)
  have hl':xs.length=es.length:=by simpa using hl
  unfold fitA at h;split at h
  ·rename_i hneg;split at h
   ·rename_i hq;obtain⟨a,b⟩:=UM h hv ha' he' hl';refine⟨a,?_⟩;unfold groundA at b ⊢;rw[A5,b,if_pos hneg,hq]
   ·cases h
  ·rename_i hneg;split at h
   ·cases h
   ·rename_i hq
    have hlt:x.toNat<v.length:=by rw[hv.1];omega
    have hv':V8 (v.set x.toNat e):=⟨by rw[C7,hv.1],fun i=>by
     rw[Uz _ _ _ hlt];have:=hv.2 i
     split<;>omega⟩
    obtain⟨a,b⟩:=UM h hv' ha' he' hl'
    have hxe:(v.set x.toNat e).getD x.toNat 0=e:=by rw[Uz _ _ _ hlt,if_pos rfl]
    refine⟨fun i hi=>?_,?_⟩
    ·have hvi:(v.set x.toNat e).getD i 0=v.getD i 0:=by
      rw[Uz _ _ _ hlt];split
      ·rename_i hix;subst hix;exact (Classical.byContradiction fun hne=>hq ⟨hi,fun q=>hne q.symm⟩)
      ·rfl
     rw[← hvi];exact a i (by rw[hvi];exact hi)
    ·unfold groundA at b ⊢;rw[A5,b,if_neg hneg,a x.toNat (by rw[hxe];omega),hxe]
theorem Vx:∀ {xs es v w:List Int},Ext v w→v.length=8→arg7 xs→groundA w xs=es→(∀ e,e∈es→e≠0)→∃ u,fitA v xs es=some u∧Ext u w
 | [],es,v,w,h,_,_,_,_=>⟨v,by rw[fitA],h⟩
 | x::xs,es,v,w,h,hv,ha,hg,hz=>by
  have hx:=ha x (A3 ..)
  have ha':arg7 xs:=fun y hy=>ha y (A2 _ hy)
  unfold groundA at hg;rw[A5]at hg;subst hg
  have hz':=fun e he=>hz e (A2 _ he)
  have hz1:=hz _ (A3 ..);unfold fitA;by_cases hneg:x<0
  ·rw[if_pos hneg,if_pos hneg,if_pos rfl];exact Vx h hv ha' rfl hz'
  ·rw[if_neg hneg,if_neg hneg];rw[if_neg hneg]at hz1;rw[if_neg (fun q=>q.2 (h _ q.1).symm)]
   have hlt:x.toNat<v.length:=by rw[hv];omega
   refine Vx (fun i hi=>?_) (by rw[C7,hv]) ha' rfl hz';rw[Uz _ _ _ hlt]at hi ⊢;split
   ·rename_i hix;rw[hix]
   ·rename_i hix;rw[if_neg hix]at hi;exact h i hi
theorem V8.zero:V8 v0:=V8_0
theorem qap (f:rufact) (a:qo) {b:Bool} (hrel:(a.qb == f.qr)=b):∀ (args:List Int) (k:Nat) (v:List Int),arg7 args→k+args.length≤2→v.length=8 →
  match fitA v args (([f.f_a,f.f_b]:List Int).drop k) with
  | some u=>qn f (qv a f) args k v (A1 8 0)=some (u,b)
  | none=>∃ u,qn f (qv a f) args k v (A1 8 0)=some (u,false)∧u.length=8
 | [],k,v,_,_,hv=>by
  rw[fitA];show qn f (qv a f) [] k v (A1 8 0)=_;rw[qn];unfold qv;rw[UR (dT hv),UR (dT ⟨hv,by simp⟩),UR (dT hv),hrel]
 | x::args,k,v,ha,hk,hv=>by
  rw[C8]at hk;have hx:=ha x (A3 ..)
  have ha':arg7 args:=fun y hy=>ha y (A2 _ hy)
  obtain⟨e,he,hd⟩:∃ e,([f.f_a,f.f_b]:List Int)[B1 (k:Int)*1]? = some e∧([f.f_a,f.f_b]:List Int).drop k=e::([f.f_a,f.f_b]:List Int).drop (k+1):=by
   match k,hk with
   | 0,_=>exact⟨f.f_a,rfl,rfl⟩
   | 1,_=>exact⟨f.f_b,rfl,rfl⟩
   | k+2,hk=>omega
  rw[qn,UR (dT ⟨by omega,by omega⟩),he,hd];simp only[A0];unfold fitA;by_cases hneg:x<0
  ·rw[dT hneg,cT,if_pos hneg,dF (show ¬ x≥0 by omega),cN,wrap64 (by omega) (by omega)];by_cases hq:0 - x=e
   ·rw[if_pos hq,show ((0 - x) != e)=false by rw[hq];exact bne_self_eq_false ..,  cN];unfold qz qH;rw[cN,dF (show ¬ x≥0 by omega),cN];exact qap f a hrel args (k+1) v ha' (by omega) hv
   ·rw[if_neg hq,show ((0 - x) != e)=true from bne_iff_ne.2 hq,cT];unfold qz;rw[cT,UR (dT hv),UR (dT ⟨hv,by simp⟩),UR (dT hv)];exact⟨_,rfl,hv⟩
  ·rw[dF hneg,cN,if_neg hneg,dT (show x≥0 by omega),cT,UR (dec8 (by omega) hx.2),get8 hv (by omega) hx.2];simp only[A0]
   have go:qz x v (A1 8 0) e (qH (A1 8 0) (qn f (qv a f) args (k+1))) false=qn f (qv a f) args (k+1) (v.set x.toNat e) (A1 8 0):=by
    unfold qz qH;rw[cN,dT (show x≥0 by omega),cT,UR (dec8 (by omega) hx.2),UR (dT (by omega)),D3,Nat.mul_one]
   have hrec:=qap f a hrel args (k+1) (v.set x.toNat e) ha' (by omega) (by rw[C7,hv]);by_cases hz:v.getD x.toNat 0=0
   ·rw[show (v.getD x.toNat 0 != 0)=false by simp only[hz,bne_self_eq_false],cN,go,if_neg (fun h=>h.1 hz)];exact hrec
   ·rw[show (v.getD x.toNat 0 != 0)=true from bne_iff_ne.2 hz,cT,UR (dec8 (by omega) hx.2)];by_cases hq:v.getD x.toNat 0=e
    ·rw[show (v.getD x.toNat 0 != e)=false by simp only[hq,bne_self_eq_false],go,if_neg (fun h=>h.2 hq)];exact hrec
    ·rw[show (v.getD x.toNat 0 != e)=true from bne_iff_ne.2 hq,if_pos ⟨hz,hq⟩];unfold qz;rw[cT,UR (dT hv),UR (dT ⟨hv,by simp⟩),UR (dT hv)];exact⟨_,rfl,hv⟩
theorem qht {v:List Int} (hv:v.length=8) {a:qo} (ha:arg7 a.qa) (hl:a.qa.length≤2) {f:apiFact} (hf:groundP f) :
  ∃ p,Ht v a f=some p∧p.1.length=8∧(p.2=true↔a.qb=f.qb∧a.qa.length=f.qa.length∧(fitA v a.qa f.qa).isSome=true)∧(p.2=true→fitA v a.qa f.qa=some p.1):=by
 unfold Ht;rw[UR (by cases v<;>simp_all)];by_cases hlen:f.qa.length=a.qa.length
 ·rw[show ((f.qa.length:Int) != (a.qa.length:Int))=false by simp[hlen],cN,UR (dT hv),qeg hf];simp only[A0];have hok:=Zr hf
  have hab:fitA v a.qa [(toF f).f_a,(toF f).f_b]=fitA v a.qa f.qa:=by
   have:=qhu (f:=toF f) (v:=v) (args:=a.qa) (by rw[hok.2];exact hlen);rw[hok.2]at this;exact this
  have h:=qap (toF f) a (b:=a.qb == (toF f).qr) rfl a.qa 0 v ha (by omega) hv;rw[C9,hab]at h
  have e:jT v a (toF f)=qn (toF f) (qv a (toF f)) a.qa 0 v (A1 8 0):=by
   unfold jT;rw[UR (by cases v<;>simp_all),UR (qQ (by omega))]
  rw[e]
  cases hfa:fitA v a.qa f.qa with
  | some u =>
   rw[hfa]at h;have hul:=DC hfa;have h:qn (toF f) (qv a (toF f)) a.qa 0 v (A1 8 0)=some (u,a.qb == (toF f).qr):=h;rw[h];simp only[A0];rw[UR (dT ⟨by omega,by simp⟩),UR (dT (by omega))];refine⟨_,rfl,by simp only;omega,?_,fun _=>rfl⟩;simp only[Option.isSome_some,and_true,beq_iff_eq];exact⟨fun q=>⟨q,hlen.symm⟩,fun q=>q.1⟩
  | none =>
   rw[hfa]at h;obtain⟨u,hu,hul⟩:=h;rw[hu];simp only[A0];rw[UR (dT ⟨hul,by simp⟩),UR (dT hul)];exact⟨_,rfl,hul,by simp,fun q=>(by cases q)⟩
 ·rw[show ((f.qa.length:Int) != (a.qa.length:Int))=true by simp;omega,cT,UR (dT hv),UR (dT ⟨hv,by simp⟩),UR (dT hv)];exact⟨_,rfl,hv,⟨fun q=>(by cases q),fun q=>absurd q.2.1.symm hlen⟩,fun q=>(by cases q)⟩
def posB (body:List ruLit):List ruLit:=body.filter fun x=>!x.qp
def MatchP (X:rufact→Prop) (r:ruRule) (f:apiFact) (subs:List apiFact):Prop :=
 ∃ w,V8 w∧(∀ a,a∈atomsU r→bnd w a.qa)∧groundF w r.qg=toF f∧(posB r.qd).map (fun x=>groundF w x.qc)=subs.map toF∧FreeP X w r.qd
def chainV:List ruLit→List Int→List apiFact→Option (List Int)
 | [],v,_=>some v
 | x::body,v,subs=>if x.qp=true then chainV body v subs else match subs with
  | []=>none
  | s::subs=>if groundP s∧x.qc.qb=s.qb∧x.qc.qa.length=s.qa.length then (fitA v x.qc.qa s.qa).bind fun u=>chainV body u subs else none
theorem HV {x:ruLit} {body:List ruLit} {v:List Int} {subs:List apiFact} (h:x.qp=true):chainV (x::body) v subs=chainV body v subs:=by
 cases subs<;>simp[chainV,h]
theorem qca {x:ruLit} {body:List ruLit} {v:List Int} (h:¬ x.qp=true):chainV (x::body) v []=none:=by
 simp[chainV,h]
theorem ND {x:ruLit} {body:List ruLit} {v:List Int} {s:apiFact} {subs:List apiFact} (h:¬ x.qp=true):chainV (x::body) v (s::subs)=if groundP s∧x.qc.qb=s.qb∧x.qc.qa.length=s.qa.length then (fitA v x.qc.qa s.qa).bind fun u=>chainV body u subs else none:=by
 simp[chainV,h]
theorem UK {w:List Int} {a:qo} (hw:V8 w) (ha:fitP a.qb a.qa) (hb:bnd w a.qa) {f:apiFact} (hf:groundP f):groundF w a=toF f↔a.qb=f.qb∧groundA w a.qa=f.qa:=by
 obtain⟨c,d,e⟩:=Yg hw ha hb;obtain⟨g,h⟩:=Zr hf;constructor
 ·intro q;refine⟨?_,?_⟩
  ·rw[← e,q];rfl
  ·rw[← d,q,h]
 ·rintro⟨q1,q2⟩
  unfold groundF toF;rw[q1,q2]
theorem ZW:∀ (body:List ruLit) (v u:List Int) (subs:List apiFact),(∀ x,x∈body→fitP x.qc.qb x.qc.qa)→V8 v→chainV body v subs=some u→(posB body).length=subs.length →
  V8 u∧Ext v u∧(∀ x,x∈posB body→bnd u x.qc.qa)∧(posB body).map (fun x=>groundF u x.qc)=subs.map toF
 | [],v,u,subs,_,hv,h,hl=>by
  rw[chainV]at h;cases h;have:subs=[]:=C0 (by simpa[posB] using hl.symm);subst this;exact⟨hv,Ext.refl _,fun x hx=>by simp[posB]at hx,rfl⟩
 | x::body,v,u,subs,hx,hv,h,hl=>by
  have hx':=fun y (hy:y∈body)=>hx y (A2 _ hy)
  by_cases hn:x.qp=true
  ·rw[HV hn]at h
   have e:posB (x::body)=posB body:=by unfold posB;rw[A8,if_neg (by simp[hn])]
   rw[e]at hl ⊢;exact ZW body v u subs hx' hv h hl
  ·have e:posB (x::body)=x::posB body:=by unfold posB;rw[A8,if_pos (by simp[hn])]
   rw[e]at hl ⊢
   match subs,h,hl with
   | [],h,_=>rw[qca hn]at h;cases h
   | s::subs,h,hl =>
    rw[ND hn]at h;split at h
    ·rename_i hs;obtain⟨hg,hr,hle⟩:=hs;obtain⟨u1,h1,h2⟩:=qe h;have hfx:=hx x (A3 ..);obtain⟨a1,a2,a3⟩:=XY h1 hv (jE hfx) hg.2.2;obtain⟨b1,b2⟩:=UM h1 hv (jE hfx) hg.2.2 hle;obtain⟨c1,c2,c3,c4⟩:=ZW body u1 u subs hx' a1 h2 (by simpa using hl);refine⟨c1,b1.trans c2,fun y hy=>?_,?_⟩
     ·rcases List.mem_cons.1 hy with rfl | hy
      ·exact c2.bnd a3
      ·exact c3 y hy
     ·rw[A5,A5,c4,c2.groundF a3,(UK a1 hfx a3 hg).2 ⟨hr,b2⟩]
    ·cases h
theorem NB:∀ (body:List ruLit) (v w:List Int) (subs:List apiFact),(∀ x,x∈body→fitP x.qc.qb x.qc.qa)→V8 v→Ext v w→V8 w→(∀ x,x∈body→bnd w x.qc.qa)→(∀ s,s∈subs→groundP s)→(posB body).map (fun x=>groundF w x.qc)=subs.map toF →
  ∃ u,chainV body v subs=some u∧Ext u w
 | [],v,w,subs,_,_,h,_,_,_,_=>⟨v,by rw[chainV],h⟩
 | x::body,v,w,subs,hx,hv,h,hw,hb,hs,hm=>by
  have hx':=fun y (hy:y∈body)=>hx y (A2 _ hy)
  have hb':=fun y (hy:y∈body)=>hb y (A2 _ hy)
  by_cases hn:x.qp=true
  ·rw[HV hn]
   have e:posB (x::body)=posB body:=by unfold posB;rw[A8,if_neg (by simp[hn])]
   rw[e]at hm;exact NB body v w subs hx' hv h hw hb' hs hm
  ·have e:posB (x::body)=x::posB body:=by unfold posB;rw[A8,if_pos (by simp[hn])]
   rw[e,A5]at hm
   match subs,hm,hs with
   | [],hm,_=>cases hm
   | s::subs,hm,hs =>
    rw[A5,List.cons.injEq]at hm;have hg:=hs s (A3 ..);have hfx:=hx x (A3 ..);obtain⟨q1,q2⟩:=(UK hw hfx (hb x (A3 ..)) hg).1 hm.1
    have hle:x.qc.qa.length=s.qa.length:=by rw[← q2];unfold groundA;rw[A4]
    obtain⟨u1,h1,h2⟩:=Vx h hv.1 (jE hfx) q2 (fun e he=>by have:=hg.2.2 e he;omega);obtain⟨a1,a2,a3⟩:=XY h1 hv (jE hfx) hg.2.2;obtain⟨u,h3,h4⟩:=NB body u1 w subs hx' a1 h2 hw hb' (fun y hy=>hs y (A2 _ hy)) hm.2;refine⟨u,?_,h4⟩;rw[ND hn,if_pos ⟨hg,q1,hle⟩,h1];exact h3
theorem qhi {r:ruRule} (h:okU r) {w:List Int} (hp:∀ x,x∈posB r.qd→bnd w x.qc.qa):∀ a,a∈atomsU r→bnd w a.qa:=fun t ht x hx h0=>by
 obtain⟨y,y1,y2,y3⟩:=h.2.1 t ht x hx h0;exact hp y (List.mem_filter.2 ⟨y1,by rw[y2];rfl⟩) x y3 h0
theorem Nm {X:rufact→Prop} {r:ruRule} (h:okU r) {f:apiFact} (hf:groundP f) {subs:List apiFact} (hs:∀ s,s∈subs→groundP s) :
  MatchP X r f subs↔r.qg.qb=f.qb∧r.qg.qa.length=f.qa.length∧∃ v1 u,fitA v0 r.qg.qa f.qa=some v1∧chainV r.qd v1 subs=some u∧(posB r.qd).length=subs.length∧FreeP X u r.qd:=by
 have hat:∀ a,a∈atomsU r→fitP a.qb a.qa:=h.2.2;have hhd:=hat r.qg (A3 ..)
 have hbd:∀ x,x∈r.qd→fitP x.qc.qb x.qc.qa:=fun x hx=>hat _ (A2 _ (List.mem_map.2 ⟨x,hx,rfl⟩))
 constructor
 ·rintro⟨w,w1,w2,w3,w4,w5⟩
  obtain⟨q1,q2⟩:=(UK w1 hhd (w2 _ (A3 ..)) hf).1 w3
  have hle:r.qg.qa.length=f.qa.length:=by rw[← q2];unfold groundA;rw[A4]
  obtain⟨v1,h1,h2⟩:=Vx (Ext.zero w) V8_0.1 (jE hhd) q2 (fun e he=>by have:=hf.2.2 e he;omega);obtain⟨a1,a2,a3⟩:=XY h1 V8_0 (jE hhd) hf.2.2
  have hbw:∀ x,x∈r.qd→bnd w x.qc.qa:=fun x hx=>w2 _ (A2 _ (List.mem_map.2 ⟨x,hx,rfl⟩))
  obtain⟨u,h3,h4⟩:=NB r.qd v1 w subs hbd a1 h2 w1 hbw hs w4
  have hlen:(posB r.qd).length=subs.length:=by have:=congrArg List.length w4;simpa using this
  obtain⟨c1,c2,c3,c4⟩:=ZW r.qd v1 u subs hbd a1 h3 hlen;have hbu:=qhi h c3;refine⟨q1,hle,v1,u,h1,h3,hlen,fun x hx hn hy=>w5 x hx hn ?_⟩;rw[h4.groundF (hbu _ (A2 _ (List.mem_map.2 ⟨x,hx,rfl⟩)))];exact hy
 ·rintro⟨q1,hle,v1,u,h1,h3,hlen,h5⟩
  obtain⟨a1,a2,a3⟩:=XY h1 V8_0 (jE hhd) hf.2.2;obtain⟨b1,b2⟩:=UM h1 V8_0 (jE hhd) hf.2.2 hle;obtain⟨c1,c2,c3,c4⟩:=ZW r.qd v1 u subs hbd a1 h3 hlen;refine⟨u,c1,qhi h c3,?_,c4,h5⟩;rw[c2.groundF a3];exact (UK a1 hhd a3 hf).2 ⟨q1,b2⟩
theorem HJ {P:rufact→Prop}:∀ (body:List ruLit) (v w:List Int),(∀ x,x∈body→fitP x.qc.qb x.qc.qa)→V8 v→V8 w→Ext v w→(∀ x,x∈body→bnd w x.qc.qa)→(∀ x,x∈posB body→P (groundF w x.qc))→∃ u,InstP P body v u∧Ext u w
 | [],v,w,_,_,_,h,_,_=>⟨v,rfl,h⟩
 | x::body,v,w,hx,hv,hw,h,hb,hp=>by
  have hx':=fun y (hy:y∈body)=>hx y (A2 _ hy)
  have hb':=fun y (hy:y∈body)=>hb y (A2 _ hy)
  by_cases hn:x.qp=true
  ·have e:posB (x::body)=posB body:=by unfold posB;rw[A8,if_neg (by simp[hn])]
   rw[e]at hp;obtain⟨u,h1,h2⟩:=HJ body v w hx' hv hw h hb' hp;exact⟨u,.inl ⟨hn,h1⟩,h2⟩
  ·have hn':x.qp=false:=by simpa using hn
   have e:posB (x::body)=x::posB body:=by unfold posB;rw[A8,if_pos (by simp[hn])]
   rw[e]at hp;have hfx:=hx x (A3 ..);obtain⟨c,d,e2⟩:=Yg hw hfx (hb x (A3 ..));have h16:=qcg c;rw[d]at h16;obtain⟨u1,h1,h2⟩:=Vx h hv.1 (jE hfx) rfl (fun e he=>by have:=h16 e he;omega);obtain⟨a1,a2,a3⟩:=XY h1 hv (jE hfx) h16
   obtain⟨u,h3,h4⟩:=HJ body u1 w hx' a1 hw h2 hb' fun y hy=>hp y (A2 _ hy)
   refine⟨u,.inr ⟨hn',_,u1,hp x (A3 ..),e2,?_,by rw[d];exact h1,h3⟩,h4⟩;rw[d];unfold groundA;rw[A4]
theorem qgz {ar:Int→Nat} {X:rufact→Prop} {r:ruRule} (h:okL ar r) {f:apiFact} {subs:List apiFact} (hs:∀ s,s∈subs→groundP s) :
  MatchP X r f subs↔∃ w,InstP (fun g=>g∈subs.map toF) r.qd v0 w∧FreeP X w r.qd∧groundF w r.qg=toF f∧(posB r.qd).map (fun x=>groundF w x.qc)=subs.map toF:=by
 have hbd:∀ x,x∈r.qd→fitP x.qc.qb x.qc.qa:=fun x hx=>(h.body x hx).1
 have hok:okW fun g=>g∈subs.map toF:=fun g hg=>by
  obtain⟨s,h1,rfl⟩:=List.mem_map.1 hg;exact (Zr (hs s h1)).1
 constructor
 ·rintro⟨w,w1,w2,w3,w4,w5⟩
  have hbw:∀ x,x∈r.qd→bnd w x.qc.qa:=fun x hx=>w2 _ (A2 _ (List.mem_map.2 ⟨x,hx,rfl⟩))
  obtain⟨u,h1,h2⟩:=HJ (P:=fun g=>g∈subs.map toF) r.qd v0 w hbd V8_0 w1 (Ext.zero w) hbw (fun x hx=>by rw[← w4];exact List.mem_map.2 ⟨x,hx,rfl⟩);obtain⟨c1,c2⟩:=h.inst hok h1;refine⟨u,h1,fun x hx hn hy=>w5 x hx hn ?_,?_,?_⟩
  ·rw[h2.groundF (c2 _ (A2 _ (List.mem_map.2 ⟨x,hx,rfl⟩)))];exact hy
  ·rw[← h2.groundF (c2 _ (A3 ..))];exact w3
  ·rw[← w4]
   refine B7 fun x hx=>?_
   exact (h2.groundF (c2 _ (A2 _ (List.mem_map.2 ⟨x,(List.mem_filter.1 hx).1,rfl⟩)))).symm
 ·rintro⟨w,w1,w2,w3,w4⟩
  obtain⟨c1,c2⟩:=h.inst hok w1;exact⟨w,c1,c2,w3,w4,w2⟩
abbrev z6:List Int:=A1 6 0
end Go.AM
namespace Go.AM
open Go.Proofs Go.Sort
open Classical
def cutF (f:apiFact):apiFact:=⟨f.qb,f.qa.take 5⟩
theorem qgA (f:apiFact):Nn f=some (cutF f):=by
 unfold Nn;have h:=qbi (l:=f.qa) 5;rw[show ((5:Nat):Int)=5 from rfl]at h;rw[h];simp only[A0];rw[qat (by rw[List.length_take];omega)];rfl
theorem qeP {l:List rf3Rule} (hl:l.length≤10) (h:∀ r,r∈l→okR r):(l.take 12).map cvR=l.map toR:=by
 rw[D4 (by omega)]
 exact B7 fun r hr=>qjt (h r hr)
theorem qfv {m:List apiFact} (hm:m.length≤26) (h:∀ f,f∈m→f.qa.length≤9):(m.take 26).map cvF=m:=by
 rw[D4 hm]
 conv=>rhs;rw[← List.map_id m]
 refine B7 fun f hf=>?_
 unfold cvF;rw[D4 (h f hf)];rfl
theorem mvalid {fuel:Nat} (hf:4≤fuel) {l:List rf3Rule} (ho:okRules l) (hl:l.length≤10) (h:∀ r,r∈l→okR r) {m:List apiFact} (hm:m.length≤26) (h9:∀ f,f∈m→f.qa.length≤9):Yy fuel (l.map toR) m=some (decide (VR l m)):=by
 have:=qbg hf (facts:=m) ho;rw[qeP hl h,qfv hm h9]at this;exact this
end Go.AM
namespace Go.Proofs
open Go.RowKit Go.AM
open Go.ChangeMaps (setBlock)
end Go.Proofs
namespace Go.AM
open Go.Proofs
end Go.AM
namespace Go.AM
open Go.Proofs
end Go.AM
namespace Go.AM
open Go.Proofs Go.Sort
open Classical
structure FoundP (L:List ruRule) (G:rufact→Prop) (yes open':rufact→Prop):Prop where
 ex:∃ could,LeastR L yes G could∧LeastR L could G yes∧∀ g,open' g↔¬ yes g∧could g
theorem qhK {g:rufact}:¬ setB (A1 252 false) g:=fun h=>by
 have:=h.2;rw[B4,D2]at this;split at this<;>simp at this
theorem StR.empty {ar:Int→Nat}:StR ar [] (A1 252 false):=⟨NT.empty,fun g hg=>by simp at hg,by simp,fun g=>⟨fun h=>by simp at h,fun h=>absurd h qhK⟩⟩
theorem qjp {l:List rf3Rule} {facts:List apiFact} (hv:VR l facts):(facts.take 26).map cvF=facts:=qfv (by have:=hv.2.1;omega) fun f hf=>by have:=(hv.2.2.1 f hf).2.1.2;omega
theorem qiL {l:List rf3Rule} {facts:List apiFact} (hv:VR l facts):(l.take 12).map cvR=l.map toR:=qeP hv.1 hv.2.2.2.1
end Go.AM
namespace Go.AM
open Go.Proofs Go.Sort
open Classical
mutual
def hT:ruProof→Nat
 | .mk _ _ s=>1+hTs s
def hTs:List ruProof→Nat
 | []=>0
 | x::r=>max (hT x) (hTs r)
end
mutual
def nT:ruProof→Nat
 | .mk _ _ s=>1+nTs s
def nTs:List ruProof→Nat
 | []=>0
 | x::r=>nT x+nTs r
end
mutual
def okT:ruProof→Prop
 | .mk _ f s=>f.qa.length≤5∧s.length≤6∧okTs s
def okTs:List ruProof→Prop
 | []=>True
 | x::r=>okT x∧okTs r
end
mutual
def ownT:ruProof→qq
 | .mk r f s=>.mk r f (ownTs s)
def ownTs:List ruProof→List qq
 | []=>[]
 | x::r=>ownT x::ownTs r
end
mutual
def okQ:qq→Prop
 | .mk _ _ s=>lenOk s=true∧okQs s
def okQs:List qq→Prop
 | []=>True
 | x::r=>okQ x∧okQs r
end
theorem qbI (p:ruProof):hT p=1+hTs p.qh:=by
 obtain⟨a,b,c⟩:=p;rw[hT];rfl
theorem qkf (p:ruProof):nT p=1+nTs p.qh:=by
 obtain⟨a,b,c⟩:=p;rw[nT];rfl
theorem Hy (p:ruProof):okT p↔p.qf.qa.length≤5∧p.qh.length≤6∧okTs p.qh:=by
 obtain⟨a,b,c⟩:=p;rw[okT];exact Iff.rfl
theorem qiY (p:qq):okQ p↔lenOk p.qh=true∧okQs p.qh:=by
 obtain⟨a,b,c⟩:=p;rw[okQ];exact Iff.rfl
theorem qaf:∀ l,ownTs l=l.map ownT
 | []=>by rw[ownTs];rfl
 | x::r=>by rw[ownTs,qaf r];rfl
theorem qeY (p:ruProof):(ownT p).ql=p.ql:=by
 obtain⟨a,b,c⟩:=p;rw[ownT];rfl
theorem Do (p:ruProof):(ownT p).qf=p.qf:=by
 obtain⟨a,b,c⟩:=p;rw[ownT];rfl
theorem NP (p:ruProof):(ownT p).qh=p.qh.map ownT:=by
 obtain⟨a,b,c⟩:=p;rw[ownT,← qaf];rfl
theorem UJ:∀ {l:List ruProof} {x:ruProof},x∈l→hT x≤hTs l
 | y::l,x,h=>by
  rw[hTs]
  rcases List.mem_cons.1 h with rfl | h
  ·exact Nat.le_max_left ..
  ·exact Nat.le_trans (UJ h) (Nat.le_max_right ..)
theorem Vu:∀ {l:List ruProof} {x:ruProof},okTs l→x∈l→okT x
 | y::l,x,k,h=>by
  rw[okTs]at k
  rcases List.mem_cons.1 h with rfl | h
  ·exact k.1
  ·exact Vu k.2 h
theorem qfa:∀ {l:List ruProof} {x:ruProof},okTs l→okT x→okTs (l++[x])
 | [],x,_,h=>by
  show okTs [x];rw[okTs,okTs];exact⟨h,trivial⟩
 | y::l,x,k,h=>by
  rw[okTs]at k;rw[List.cons_append,okTs];exact⟨k.1,qfa k.2 h⟩
theorem qhq:∀ {l:List ruProof} {x:ruProof} {n:Nat},hTs l≤n→hT x≤n→hTs (l++[x])≤n
 | [],x,n,_,h=>by
  show hTs [x]≤n;rw[hTs,hTs];omega
 | y::l,x,n,k,h=>by
  rw[hTs]at k;rw[List.cons_append,hTs];have:=qhq (l:=l) (by omega:hTs l≤n) h;omega
theorem qan (p:ruProof):1≤hT p:=by rw[qbI];omega
theorem qeH {deep:Nat} {K0:ruProof→Int→Int→Option Int}:∀ (l:List ruProof) (k left:Nat),deep≤100→left≤500→(∀ x,x∈l→∀ u:Nat,u≤500→K0 x (u:Int) (deep:Int)=some (if nT x≤u∧hT x≤deep then ((u - nT x:Nat):Int) else -1)) →
  jF ((deep:Int)+1) K0 JA l k (left:Int)=some (if nTs l≤left∧hTs l≤deep then ((left - nTs l:Nat):Int) else -1)
 | [],k,left,_,_,_=>by
  rw[jF,nTs,hTs,if_pos ⟨by omega,by omega⟩];rfl
 | x::l,k,left,hd,hl,h=>by
  have hx:=h x (A3 ..) left hl;rw[jF,Int.add_sub_cancel];rw[wrap64 (by omega) (by omega),hx];simp only[A0];rw[nTs,hTs];by_cases hc:nT x≤left∧hT x≤deep
  ·rw[if_pos hc,dF (by omega),cN,qeH l (k+1) (left - nT x) hd (by omega) fun y hy=>h y (A2 _ hy)]
   congr 1
   by_cases hq:nTs l≤left - nT x∧hTs l≤deep
   ·rw[if_pos hq,if_pos ⟨by omega,by omega⟩];omega
   ·rw[if_neg hq,if_neg (by omega)]
  ·rw[if_neg hc,dT (by omega),cT,if_neg (by omega)]
theorem qcN:∀ (fuel:Nat) (p:ruProof) (left deep:Nat),hT p≤fuel→okT p→left≤500→deep≤100→jA fuel p (left:Int) (deep:Int)=some (if nT p≤left∧hT p≤deep then ((left - nT p:Nat):Int) else -1)
 | 0,p,left,deep,hf,_,_,_=>by have:=qan p;omega
 | fuel+1,p,left,deep,hf,ho,hl,hd=>by
  obtain⟨o1,o2,o3⟩:=(Hy p).1 ho;have h1:=qbI p;have h2:=qkf p;rw[jA];by_cases c1:left=0
  ·rw[dT (by omega),cT,if_neg (by omega)];rfl
  ·by_cases c2:deep=0
   ·rw[dF (by omega),cN,dT (by omega),if_neg (by omega)];rfl
   ·obtain⟨l,rfl⟩:∃ l,left=l+1:=⟨left - 1,by omega⟩;obtain⟨d,rfl⟩:∃ d,deep=d+1:=⟨deep - 1,by omega⟩;rw[dF (by omega),cN,dF (by omega)];unfold Xg;rw[cN,UR (qQ (by omega)),wrap64 (by omega) (by omega)]
    have:=qeH (deep:=d) (K0:=jA fuel) p.qh 0 l (by omega) (by omega) fun x hx u hu=>qcN fuel x u d (by have:=UJ hx;omega) (Vu o3 hx) hu (by omega)
    rw[show ((l+1:Nat):Int) - 1=(l:Int) by omega,show ((d+1:Nat):Int)=(d:Int)+1 by omega,this]
    congr 1
    by_cases hq:nTs p.qh≤l∧hTs p.qh≤d
    ·rw[if_pos hq,if_pos ⟨by omega,by omega⟩];omega
    ·rw[if_neg hq,if_neg (by omega)]
theorem qgY {K0:qq→Option Int}:∀ (l:List ruProof) (k v:Nat),v≤500→(∀ x,x∈l→K0 (ownT x)=some (if nT x≤500 then (nT x:Int) else 501)) →
  QO K0 Yf (l.map ownT) k (v:Int)=some (if v+nTs l≤500 then ((v+nTs l:Nat):Int) else 501)
 | [],k,v,hv,_=>by
  rw[D0,QO,nTs,if_pos (by omega)];rfl
 | x::l,k,v,hv,h=>by
  rw[A5,QO,h x (A3 ..)];simp only[A0];rw[nTs];by_cases hx:nT x≤500
  ·rw[if_pos hx,wrap64 (by omega) (by omega)];by_cases hq:v+nT x≤500
   ·rw[dF (by omega),cN]
    have:=qgY l (k+1) (v+nT x) hq fun y hy=>h y (A2 _ hy)
    rw[show (v:Int)+(nT x:Int)=((v+nT x:Nat):Int) by omega,this,Nat.add_assoc]
   ·rw[dT (by omega),cT,if_neg (by omega)]
  ·rw[if_neg hx,wrap64 (by omega) (by omega),dT (by omega),cT,if_neg (by omega)]
theorem qeJ:∀ (fuel:Nat) (p:ruProof),hT p≤fuel→okT p→YC fuel (ownT p)=some (if nT p≤500 then (nT p:Int) else 501)
 | 0,p,hf,_=>by have:=qan p;omega
 | fuel+1,p,hf,ho=>by
  obtain⟨o1,o2,o3⟩:=(Hy p).1 ho;have h1:=qbI p;rw[YC,NP,UR (qQ (by rw[A4];omega))]
  have:=qgY (K0:=YC fuel) p.qh 0 1 (by omega) fun x hx=>qeJ fuel x (by have:=UJ hx;omega) (Vu o3 hx)
  rw[← qkf]at this;exact this
theorem qfA {d:Nat} (hd:d≤39) {K0:qq→Int→Option Int} (K:Int→Option Int):∀ (l:List ruProof) (k v:Nat),v≤41→(∀ x,x∈l→K0 (ownT x) (d:Int)=some (if hT x≤d then (hT x:Int) else 41)) →
  Qi ((d:Int)+1) K0 K (l.map ownT) k (v:Int)=K (if hTs l≤d then ((max v (hTs l):Nat):Int) else 41)
 | [],k,v,hv,_=>by
  rw[D0,Qi,hTs,if_pos (by omega),Nat.max_eq_left (by omega)]
 | x::l,k,v,hv,h=>by
  rw[A5,Qi,Int.add_sub_cancel,wrap64 (by omega) (by omega),h x (A3 ..)];simp only[A0];rw[hTs]
  have ih:=fun v' hv'=>qfA hd K l (k+1) v' hv' fun y hy=>h y (A2 _ hy)
  by_cases hx:hT x≤d
  ·rw[if_pos hx,show (if (hT x:Int) > (v:Int) then (hT x:Int) else (v:Int))=((max v (hT x):Nat):Int) by split<;>omega,ih _ (by omega)]
   congr 1
   by_cases hq:hTs l≤d
   ·rw[if_pos hq,if_pos (by omega)];omega
   ·rw[if_neg hq,if_neg (by omega)]
  ·rw[if_neg hx,show (if (41:Int) > (v:Int) then (41:Int) else (v:Int))=((41:Nat):Int) by split<;>omega,ih _ (by omega),if_neg (show ¬ max (hT x) (hTs l)≤d by omega)]
   congr 1
   split<;>omega
theorem qdu:∀ (fuel:Nat) (p:ruProof) (left:Nat),hT p≤fuel→okT p→left≤40→XU fuel (ownT p) (left:Int)=some (if hT p≤left then (hT p:Int) else 41)
 | 0,p,left,hf,_,_=>by have:=qan p;omega
 | fuel+1,p,left,hf,ho,hl=>by
  obtain⟨o1,o2,o3⟩:=(Hy p).1 ho;have h1:=qbI p;rw[XU];by_cases c:left=0
  ·subst c;rw[show (((0:Nat):Int) == 0)=true from rfl,cT,if_neg (by omega)]
  ·obtain⟨d,rfl⟩:∃ d,left=d+1:=⟨left - 1,by omega⟩;rw[show (((d+1:Nat):Int) == 0)=false from beq_eq_false_iff_ne.2 (by omega),cN,NP,UR (qQ (by rw[A4];omega))]
   have:=qfA (d:=d) (by omega) (K0:=XU fuel) Xj p.qh 0 0 (by omega) fun x hx=>qdu fuel x d (by have:=UJ hx;omega) (Vu o3 hx) (by omega)
   rw[show ((d+1:Nat):Int)=(d:Int)+1 by omega,show (0:Int)=((0:Nat):Int) from rfl,this];unfold Xj
   congr 1
   by_cases hq:hTs p.qh≤d
   ·rw[if_pos hq,wrap64 (by omega) (by omega),if_pos (by omega),if_pos (by omega)];omega
   ·rw[if_neg hq,wrap64 (by omega) (by omega),if_neg (show ¬ (41:Int)+1<41 by omega),if_neg (by omega)]
theorem qiX {K0:ruProof→Option qq} (K:qq→Option qq) (a b:Int) (c:List Int):∀ (l:List ruProof) (k:Nat) (acc:List qq),acc.length+l.length≤1000→(∀ x,x∈l→K0 x=some (ownT x)) →
  Jj K0 K l k a b c acc=K (qq.mk a (apiFact.mk b c) (acc++l.map ownT))
 | [],k,acc,_,_=>by rw[Jj,D0,List.append_nil]
 | x::l,k,acc,hl,h=>by
  rw[C8]at hl;rw[Jj,h x (A3 ..)];simp only[A0];rw[UR (QY (by omega) (by simp;omega)),qiX K a b c l (k+1) (acc++[ownT x]) (by simp;omega) fun y hy=>h y (A2 _ hy),A5,List.append_assoc];rfl
theorem qhg:∀ (fuel:Nat) (p:ruProof),hT p≤fuel→okT p→QE fuel p=some (ownT p)
 | 0,p,hf,_=>by have:=qan p;omega
 | fuel+1,p,hf,ho=>by
  obtain⟨o1,o2,o3⟩:=(Hy p).1 ho;have h1:=qbI p;rw[QE,UR (qQ (by omega)),qiX _ _ _ _ p.qh 0 [] (by simp;omega) fun x hx=>qhg fuel x (by have:=UJ hx;omega) (Vu o3 hx),List.nil_append];obtain⟨r,⟨f1,f2⟩,s⟩:=p;unfold Qv;rw[ownT,qaf];rfl
theorem qhx {deep:Nat} (hd:deep≤100) {K0:qq→Int→Int→Option (ruProof×Int)} (a b:Int) (c:List Int) (hc:c.length≤5):∀ (l:List qq) (k left:Nat) (acc:List ruProof),left≤1000→acc.length≤k→acc.length≤6→okTs acc→hTs acc≤deep →
  (∀ x,x∈l→1≤deep→∀ u:Nat,1≤u→u≤1000→∃ p n,K0 x ((deep:Int) - 1) (u:Int)=some (p,((n:Nat):Int))∧okT p∧hT p≤deep∧n≤1000) →
  ∃ s n,jh (deep:Int) K0 jC l k (left:Int) a b c acc=some (ruProof.mk a (apiFact.mk b c) s,((n:Nat):Int))∧okTs s∧s.length≤6∧hTs s≤deep∧n≤1000
 | [],k,left,acc,hl,_,h6,h1,h2,_=>⟨acc,left,by rw[jh];rfl,h1,h6,h2,hl⟩
 | x::l,k,left,acc,hl,hk,h6,h1,h2,h=>by
  have stop:∃ s n,jC (left:Int) (ruProof.mk a (apiFact.mk b c) acc)=some (ruProof.mk a (apiFact.mk b c) s,((n:Nat):Int))∧okTs s∧s.length≤6∧hTs s≤deep∧n≤1000:=⟨acc,left,rfl,h1,h6,h2,hl⟩;rw[jh];unfold Qr;by_cases c1:deep=0
  ·rw[dT (by omega),cT,cT];exact stop
  ·rw[dF (by omega),cN];by_cases c2:k > 5
   ·rw[dT (by omega),cT,cT];exact stop
   ·rw[dF (by omega),cN];by_cases c3:left=0
    ·rw[dT (by omega),cT];exact stop
    ·rw[dF (by omega),cN,wrap64 (by omega) (by omega)];obtain⟨p,n,e1,e2,e3,e4⟩:=h x (A3 ..) (by omega) left (by omega) hl;rw[e1];simp only[A0];rw[UR (QY (by omega) (by simp;omega))]
     exact qhx hd a b c hc l (k+1) n (acc++[p]) e4 (by simp;omega) (by simp;omega) (qfa h1 e2) (qhq h2 e3) fun y hy=>h y (A2 _ hy)
theorem qfb:∀ {l:List qq} {x:qq},okQs l→x∈l→okQ x
 | y::l,x,k,h=>by
  rw[okQs]at k
  rcases List.mem_cons.1 h with rfl | h
  ·exact k.1
  ·exact qfb k.2 h
theorem qfB:∀ (deep fuel:Nat) (q:qq) (left:Nat),deep+1≤fuel→deep≤100→okQ q→1≤left→left≤1000→∃ p n,jY fuel q (deep:Int) (left:Int)=some (p,((n:Nat):Int))∧okT p∧hT p≤deep+1∧n≤1000
 | deep,0,q,left,hf,_,_,_,_=>by omega
 | deep,fuel+1,q,left,hf,hd,hq,h1,h2=>by
  obtain⟨q1,q2⟩:=(qiY q).1 hq;rw[jY,qgA];simp only[A0]
  have hc:(cutF q.qf).qa.length≤5:=by
   unfold cutF;simp only[List.length_take];omega
  obtain⟨s,n,e1,e2,e3,e4,e5⟩:=qhx hd q.ql (cutF q.qf).qb (cutF q.qf).qa hc q.qh 0 (left - 1) [] (K0:=jY fuel) (by omega) (by simp) (by simp) (by rw[okTs];trivial) (by rw[hTs];omega) fun x hx hdp u hu1 hu2=>by
   obtain⟨d,rfl⟩:∃ d,deep=d+1:=⟨deep - 1,by omega⟩;obtain⟨p,n,e1,e2,e3,e4⟩:=qfB d fuel x u (by omega) (by omega) (qfb q2 hx) hu1 hu2;exact⟨p,n,by rw[show ((d+1:Nat):Int) - 1=(d:Int) by omega];exact e1,e2,e3,e4⟩
  rw[UR q1,wrap64 (by omega) (by omega),show (left:Int) - 1=((left - 1:Nat):Int) by omega,e1];refine⟨_,n,rfl,(Hy _).2 ⟨hc,e3,e2⟩,?_,e5⟩;rw[hT];omega
def HoldsN (L:List ruRule) (G X:rufact→Prop):Nat→ruProof→Prop
 | 0,_=>False
 | n+1,p=>groundP p.qf∧((p.ql = -1∧p.qh=[]∧G (toF p.qf))∨(0≤p.ql∧∃ r,L[p.ql.toNat]? = some r∧(∀ s,s∈p.qh→HoldsN L G X n s)∧MatchP X r p.qf (p.qh.map ruProof.qf)))
theorem HoldsN.ground {L:List ruRule} {G X:rufact→Prop}:∀ {n:Nat} {p:ruProof},HoldsN L G X n p→groundP p.qf
 | n+1,p,h=>h.1
theorem UI {L:List ruRule} {G X:rufact→Prop} {n:Nat} {p:ruProof} (h:p.ql = -1):HoldsN L G X (n+1) p↔groundP p.qf∧p.qh=[]∧G (toF p.qf):=by
 rw[HoldsN];constructor
 ·rintro⟨a,b | b⟩
  ·exact⟨a,b.2⟩
  ·have:=b.1;omega
 ·rintro⟨a,b⟩
  exact⟨a,.inl ⟨h,b⟩⟩
theorem HK {L:List ruRule} {G X:rufact→Prop} {n:Nat} {p:ruProof} {r:ruRule} (h0:0≤p.ql) (h:L[p.ql.toNat]? = some r):HoldsN L G X (n+1) p↔groundP p.qf∧(∀ s,s∈p.qh→HoldsN L G X n s)∧MatchP X r p.qf (p.qh.map ruProof.qf):=by
 rw[HoldsN];constructor
 ·rintro⟨a,b | ⟨b,q,b1,b2⟩⟩
  ·have:=b.1;omega
  ·rw[h]at b1;cases b1;exact⟨a,b2⟩
 ·rintro⟨a,b⟩
  exact⟨a,.inr ⟨h0,r,h,b⟩⟩
theorem qdf {L:List ruRule} {G X:rufact→Prop} {n:Nat} {p:ruProof} (h1:p.ql ≠ -1) (h:p.ql<0∨(L.length:Int)≤p.ql):¬ HoldsN L G X (n+1) p:=by
 rw[HoldsN]
 rintro⟨a,b | ⟨b,q,b1,b2⟩⟩
 ·exact h1 b.1
 ·have:=(List.getElem?_eq_some_iff.1 b1).1;omega
theorem Nv {g:ruProof→Option Bool} {p:ruProof→Bool}:∀ (l:List ruProof) (k:Nat),(∀ x,x∈l→g x=some (p x))→∃ i,jj g JC l k=some i∧(decide (i≥0)=l.any p)
 | [],k,_=>⟨-1,by rw[jj];rfl,by simp⟩
 | x::l,k,h=>by
  obtain⟨i,h1,h2⟩:=Nv l (k+1) fun y hy=>h y (A2 _ hy)
  rw[jj,h x (A3 ..)];simp only[A0]
  cases hp:p x with
  | true=>exact⟨k,rfl,by simp[hp]⟩
  | false=>exact⟨i,by rw[cN];exact h1,by rw[h2,List.any_cons,hp,Bool.false_or]⟩
theorem qbX {l:List ruProof} {g:ruProof→Option Bool} {p:ruProof→Bool} (hl:lenOk l=true) (h:∀ x,x∈l→g x=some (p x)):JE l g=some (l.any p):=by
 obtain⟨i,h1,h2⟩:=Nv l 0 h;unfold JE Xd;rw[UR hl,h1];simp only[A0];rw[h2]
theorem qei {α:Type} {p q:Prop} [Decidable p] [Decidable q] {a b:α} (h:p↔q):(if p then a else b)=(if q then a else b):=by
 by_cases hp:p
 ·rw[if_pos hp,if_pos (h.1 hp)]
 ·rw[if_neg hp,if_neg (fun q=>hp (h.2 q))]
theorem wfF3 {f:rufact} (h:wfF f=true):(wfI .i64 f.qr&&wfI .i64 f.f_a&&wfI .i64 f.f_b)=true:=h
theorem qfm {no:List (rufact×Bool)} (hno:NT no) {w:List Int} (hw:V8 w) (K:Option Bool):∀ (body:List ruLit) (k:Nat),(∀ x,x∈body→fitP x.qc.qb x.qc.qa)→jG no w K body k=if FreeP (memO no) w body then K else some false
 | [],k,_=>by rw[jG,if_pos (show FreeP _ _ _ from fun x hx=>by simp at hx)]
 | x::body,k,h=>by
  have ih:=qfm hno hw K body (k+1) fun y hy=>h y (A2 _ hy)
  have hx:=h x (A3 ..)
  have hc:FreeP (memO no) w (x::body)↔(x.qp=true→groundF w x.qc ∉ no.map Prod.fst)∧FreeP (memO no) w body:=by
   unfold FreeP;simp only[List.mem_cons,forall_eq_or_imp]
  rw[jG];unfold QS
  cases hn:x.qp with
  | false =>
   rw[cN,cN,ih];refine qei ?_;rw[hc];exact⟨fun q=>⟨fun h=>(by rw[hn]at h;cases h),q⟩,fun q=>q.2⟩
  | true =>
   rw[cT,UR (dT hw.1),Nw hw.1 (jE hx) hx.2.1.2];simp only[A0];rw[UR (wfF3 (qao hw hx))];by_cases hm:groundF w x.qc∈no.map Prod.fst
   ·rw[(NT.mget hno.t _).2 hm,cT,if_neg (fun q=>(hc.1 q).1 hn hm)]
   ·rw[show mget qu false (groundF w x.qc) no=false by
     rw[← Bool.not_eq_true];exact fun q=>hm ((NT.mget hno.t _).1 q),cN,ih]
    refine qei ?_;rw[hc];exact⟨fun q=>⟨fun _=>hm,q⟩,fun q=>q.2⟩
theorem NX {fuel:Nat} {p:ruProof} {K:List Int→Bool→Int→Option Bool} (hK:∀ v n,K v false n=some false):∀ (body:List ruLit) (k:Nat) (v:List Int) (n:Int),qK fuel p K body k v false n=some false
 | [],k,v,n=>by rw[qK,hK]
 | x::body,k,v,n=>by
  rw[qK];unfold JV jR
  cases x.qp with
  | true=>rw[cT,cT];exact NX hK body (k+1) v n
  | false=>rw[cN,A9,cT];exact NX hK body (k+1) v n
theorem qbG {fuel:Nat} (hf:4≤fuel) {p:ruProof} (hp:p.qh.length≤6) {K:List Int→Bool→Int→Option Bool} (hK:∀ v n,K v false n=some false):∀ (body:List ruLit) (k n:Nat) (v:List Int),(∀ x,x∈body→fitP x.qc.qb x.qc.qa)→v.length=8→n≤p.qh.length →
  qK fuel p K body k v true (n:Int)=match chainV body v ((p.qh.map ruProof.qf).drop n) with
   | some u=>K u true ((n+(posB body).length:Nat):Int)
   | none=>some false
 | [],k,n,v,_,_,_=>by
  rw[qK,chainV];rfl
 | x::body,k,n,v,hx,hv,hn=>by
  have hfx:=hx x (A3 ..)
  have hx':=fun y (hy:y∈body)=>hx y (A2 _ hy)
  rw[qK];unfold JV jR QT;by_cases hnot:x.qp=true
  ·have e:posB (x::body)=posB body:=by unfold posB;rw[A8,if_neg (by simp[hnot])]
   rw[hnot,cT,cT,HV hnot,e];exact qbG hf hp hK body (k+1) n v hx' hv hn
  ·have hnot':x.qp=false:=by simpa using hnot
   have e:posB (x::body)=x::posB body:=by unfold posB;rw[A8,if_pos (by simp[hnot])]
   rw[hnot',cN,A7,cN,e,C8];by_cases hlt:n<p.qh.length
   ·have hd:(p.qh.map ruProof.qf).drop n=(p.qh[n]).qf::(p.qh.map ruProof.qf).drop (n+1):=by
     rw[D8 (by rw[A4];exact hlt),List.getElem_map]
    have hi:idx p.qh (n:Int)=some p.qh[n]:=by
     unfold idx;rw[if_pos (by omega),D1,B0 hlt]
    rw[show ((n:Int) == (p.qh.length:Int))=false from beq_eq_false_iff_ne.2 (by omega),cN,hi,hd,ND hnot];simp only[A0];rw[HI hf];simp only[A0];by_cases hg:groundP p.qh[n].qf
    ·rw[dT hg,A7,cN,UR (dT hv)];obtain⟨q,q1,q2,q3,q4⟩:=qht hv (jE hfx) hfx.2.1.2 hg;rw[q1];simp only[A0];rw[UR (dT ⟨q2,hv⟩),wrap64 (by omega) (by omega)]
     cases hq:q.2 with
     | false =>
      rw[NX hK]
      have:¬ (x.qc.qb=p.qh[n].qf.qb∧x.qc.qa.length=p.qh[n].qf.qa.length∧(fitA v x.qc.qa p.qh[n].qf.qa).isSome=true):=fun c=>by
       rw[q3.2 c]at hq;cases hq
      have e0:(if groundP p.qh[n].qf∧x.qc.qb=p.qh[n].qf.qb∧x.qc.qa.length=p.qh[n].qf.qa.length then (fitA v x.qc.qa p.qh[n].qf.qa).bind fun u=>chainV body u (List.drop (n+1) (A6 ruProof.qf p.qh)) else none)=none:=by
       split
       ·rename_i c
        cases hfa:fitA v x.qc.qa p.qh[n].qf.qa with
        | some u=>exact absurd ⟨c.2.1,c.2.2,by rw[hfa];rfl⟩ this
        | none=>rfl
       ·rfl
      rw[e0]
     | true =>
      have c:=q3.1 hq;rw[if_pos ⟨hg,c.1,c.2.1⟩,q4 hq,A0];have ih:=qbG hf hp hK body (k+1) (n+1) q.1 hx' q2 (by omega);rw[show (n:Int)+1=((n+1:Nat):Int) by omega,ih,show n+1+(posB body).length=n+((posB body).length+1) by omega]
    ·rw[dF hg,A9,cT,if_neg (fun c=>hg c.1)]
   ·have hd:(p.qh.map ruProof.qf).drop n=[]:=D5 (by rw[A4];omega);rw[show ((n:Int) == (p.qh.length:Int))=true from beq_iff_eq.2 (by omega),cT,cT,hd,qca hnot]
theorem qbx {L:List ruRule} (hL:∀ r,r∈L→okU r) {gv no:List (rufact×Bool)} (hgv:NT gv) (hno:NT no):∀ (n fuel:Nat) (p:ruProof),hT p≤n→n+4≤fuel→okT p→qF fuel p L gv no=some (decide (HoldsN L (memO gv) (memO no) n p))
 | 0,fuel,p,hn,_,_=>by have:=qan p;omega
 | n+1,0,p,_,hf,_=>by omega
 | n+1,fuel+1,p,hn,hf,ho=>by
  obtain⟨o1,o2,o3⟩:=(Hy p).1 ho;have h1:=qbI p;rw[qF,HI (by omega)];simp only[A0];by_cases hg:groundP p.qf
  ·rw[dT hg,A7,cN];by_cases hr:p.ql = -1
   ·rw[hr,beq_self_eq_true,cT];unfold QU;by_cases hs:p.qh=[]
    ·rw[hs,show ((([]:List ruProof).length:Int) == 0)=true from rfl,cT,qeg hg];simp only[A0];rw[UR (wfF3 (Zr hg).1.wf)]
     congr 1
     rw[D6,NT.mget hgv.t,decide_eq_true_iff,UI hr];exact⟨fun q=>⟨hg,hs,q⟩,fun q=>q.2.2⟩
    ·rw[show ((p.qh.length:Int) == 0)=false by rw[beq_eq_false_iff_ne];intro h;exact hs (C0 (by omega)),cN]
     congr 1
     exact (dF fun q=>hs ((UI hr).1 q).2.1).symm
   ·rw[show (p.ql == -1)=false from beq_eq_false_iff_ne.2 hr,cN];by_cases ho:p.ql<0∨(L.length:Int)≤p.ql
    ·rw[dF (qdf hr ho)];unfold JW;by_cases h0:p.ql<0
     ·rw[dT h0,cT,cT]
     ·rw[dF h0,cN,dT (by omega),cT]
    ·have h0:0≤p.ql:=by omega
     have hlt:p.ql.toNat<L.length:=by omega
     have hi:L[p.ql.toNat]? = some L[p.ql.toNat]:=B0 hlt;have hrU:=hL _ (D7 hlt);generalize L[p.ql.toNat]=r at hi hrU;have hat:∀ a,a∈atomsU r→fitP a.qb a.qa:=hrU.2.2;have hhd:=hat r.qg (A3 ..)
     have hbd:∀ x,x∈r.qd→fitP x.qc.qb x.qc.qa:=fun x hx=>hat _ (A2 _ (List.mem_map.2 ⟨x,hx,rfl⟩))
     rw[dF (by omega),cN,dF (by omega)];unfold JW;rw[cN,show idx L p.ql=some r by unfold idx;rw[if_pos h0,hi]];simp only[A0];obtain⟨q,q1,q2,q3,q4⟩:=qht (v:=v0) (by simp) (jE hhd) hhd.2.1.2 hg;rw[show Ht (A1 8 0) r.qg p.qf=some q from q1];simp only[A0]
     have hK:∀ v m,qT p L gv no r (qF fuel) v false m=some false:=fun v m=>by
      unfold qT JU;rw[A9,cT,cT]
     rw[UR (dT ⟨q2,by simp⟩),UR (qQ (by have:=hrU.1;omega))]
     have hsub:∀ s,s∈p.qh→qF fuel s L gv no=some (decide (HoldsN L (memO gv) (memO no) n s)):=fun s hs=>qbx hL hgv hno n fuel s (by have:=UJ hs;omega) (by omega) (Vu o3 hs)
     have hall:JB p L gv no (qF fuel)=some (decide (∀ s,s∈p.qh→HoldsN L (memO gv) (memO no) n s)):=by
      unfold JB
      rw[qbX (p:=fun s=>!decide (HoldsN L (memO gv) (memO no) n s)) (qQ (by omega)) fun s hs=>by
       unfold Xt;rw[hsub s hs]
       rfl]
      simp only[A0]
      congr 1
      rw[D6,decide_eq_true_iff];simp
     have hsg:(∀ s,s∈p.qh→HoldsN L (memO gv) (memO no) n s)→∀ s,s∈p.qh.map ruProof.qf→groundP s:=fun h s hs=>by
      obtain⟨t,ht,rfl⟩:=List.mem_map.1 hs;exact (h t ht).ground
     cases hq:q.2 with
     | false =>
      rw[show (0:Int)=((0:Nat):Int) from rfl,NX hK]
      congr 1
      refine (dF fun c=>?_).symm;obtain⟨c1,c2,c3⟩:=(HK h0 hi).1 c;obtain⟨d1,d2,v1,u,d3,_⟩:=(Nm hrU hg (hsg c2)).1 c3;rw[q3.2 ⟨d1,d2,by rw[d3];rfl⟩]at hq;cases hq
     | true =>
      obtain⟨e1,e2,e3⟩:=q3.1 hq;have e4:=q4 hq;obtain⟨a1,a2,a3⟩:=XY e4 V8_0 (jE hhd) hg.2.2;rw[show (0:Int)=((0:Nat):Int) from rfl,qbG (by omega) o2 hK r.qd 0 0 q.1 hbd q2 (by omega),C9]
      have hiff:HoldsN L (memO gv) (memO no) (n+1) p↔(∀ s,s∈p.qh→HoldsN L (memO gv) (memO no) n s)∧∃ u,chainV r.qd q.1 (p.qh.map ruProof.qf)=some u∧(posB r.qd).length=p.qh.length∧FreeP (memO no) u r.qd:=by
       rw[HK h0 hi];constructor
       ·rintro⟨c1,c2,c3⟩
        obtain⟨d1,d2,v1,u,d3,d4,d5,d6⟩:=(Nm hrU hg (hsg c2)).1 c3;rw[e4]at d3;cases d3;exact⟨c2,u,d4,by rw[d5,A4],d6⟩
       ·rintro⟨c2,u,d4,d5,d6⟩
        exact⟨hg,c2,(Nm hrU hg (hsg c2)).2 ⟨e1,e2,q.1,u,e4,d4,by rw[d5,A4],d6⟩⟩
      cases hch:chainV r.qd q.1 (p.qh.map ruProof.qf) with
      | none =>
       simp only
       congr 1
       refine (dF fun c=>?_).symm;obtain⟨_,u,d,_⟩:=hiff.1 c;rw[hch]at d;cases d
      | some u =>
       simp only;unfold qT JU;rw[A7,cN];by_cases hlen:(posB r.qd).length=p.qh.length
       ·obtain⟨b1,_⟩:=ZW r.qd q.1 u _ hbd a1 hch (by rw[hlen,A4]);rw[show (((0+(posB r.qd).length:Nat):Int) != (p.qh.length:Int))=false by simp[hlen],cN,UR (qQ (by have:=hrU.1;omega)),qfm hno b1 _ r.qd 0 hbd,hall];by_cases hfr:FreeP (memO no) u r.qd
        ·rw[if_pos hfr]
         congr 1
         refine decide_eq_decide.2 ?_;rw[hiff];exact⟨fun c=>⟨c,u,hch,hlen,hfr⟩,fun c=>c.1⟩
        ·rw[if_neg hfr]
         congr 1
         refine (dF fun c=>?_).symm;obtain⟨_,u',d1,_,d3⟩:=hiff.1 c;rw[hch]at d1;cases d1;exact hfr d3
       ·rw[show (((0+(posB r.qd).length:Nat):Int) != (p.qh.length:Int))=true by simp;omega,cT]
        congr 1
        refine (dF fun c=>?_).symm;obtain⟨_,u',_,d2,_⟩:=hiff.1 c;exact hlen d2
  ·rw[dF hg,A9,cT]
   congr 1
   exact (dF fun q=>hg q.ground).symm
theorem DI {f:apiFact} (h:groundP f):Xu f.qb f.qa=some (codeF (toF f):Int):=by
 obtain⟨h1,h2⟩:=Zr h;have hc:=qbY h1;rw[h2]at hc;exact hc
theorem qgU {w:List Int} (hw:V8 w) {p:ruProof} (hs:∀ s,s∈p.qh→groundP s.qf) (hp:p.qh.length≤6) (N2:Option Bool):∀ (body:List rf3Lit) (k n:Nat) (good:Bool),(∀ x,x∈body→fitP x.qc.qb x.qc.qa∧bnd w x.qc.qa)→n+body.length≤1000 →
  jZ w (ownT p) (Jx (ownT p) N2) body k good (n:Int)=if good=true∧n≤p.qh.length∧(posB (body.map toL)).map (fun x=>groundF w x.qc)=(p.qh.map fun s=>toF s.qf).drop n then some true else N2
 | [],k,n,good,_,_=>by
  rw[jZ];unfold Jx Zf;rw[NP,A4]
  cases good with
  | false=>rw[cN,cN,if_neg (fun h=>by cases h.1)]
  | true =>
   rw[cT];by_cases hn:n=p.qh.length
   ·rw[show ((n:Int) == (p.qh.length:Int))=true from beq_iff_eq.2 (by omega),cT,if_pos ⟨rfl,by omega,by rw[D5 (by rw[A4];omega)];rfl⟩]
   ·rw[show ((n:Int) == (p.qh.length:Int))=false from beq_eq_false_iff_ne.2 (by omega),cN,if_neg ?_]
    rintro⟨_,h1,h2⟩
    have:=congrArg List.length h2;simp[posB]at this;omega
 | x::body,k,n,good,h,hl=>by
  rw[C8]at hl;have hx:=h x (A3 ..)
  have ih:=fun n' hn' good'=>qgU hw hs hp N2 body (k+1) n' good' (fun y hy=>h y (A2 _ hy)) hn'
  rw[jZ];unfold Yn QD;rw[NP,A4];by_cases hnot:x.qp=true
  ·have e:posB ((x::body).map toL)=posB (body.map toL):=by
    rw[A5];unfold posB;rw[A8,if_neg (by simp[toL,hnot])]
   rw[hnot,A7,cN,e];exact ih n (by omega) good
  ·have hnot':x.qp=false:=by simpa using hnot
   have e:posB ((x::body).map toL)=toL x::posB (body.map toL):=by
    rw[A5];unfold posB;rw[A8,if_pos (by simp[toL,hnot])]
   rw[hnot',A9,cT,e,wrap64 (by omega) (by omega),show (n:Int)+1=((n+1:Nat):Int) by omega]
   cases good with
   | false =>
    rw[cN,ih (n+1) (by omega) false,if_neg (fun h=>by cases h.1),if_neg (fun h=>by cases h.1)]
   | true =>
    rw[cT];by_cases hlt:n<p.qh.length
    ·have hd:(p.qh.map fun s=>toF s.qf).drop n=toF p.qh[n].qf::(p.qh.map fun s=>toF s.qf).drop (n+1):=by
      rw[D8 (by rw[A4];exact hlt),List.getElem_map]
     have hi:idx (p.qh.map ownT) (n:Int)=some (ownT p.qh[n]):=by
      unfold idx;rw[if_pos (by omega),D1,List.getElem?_map,B0 hlt];rfl
     have hg:=hs _ (D7 hlt);rw[dT (by omega),cT,UR (dT hw.1),NY hw hx.1 hx.2,hi];simp only[A0];rw[Do,DI hg];simp only[A0];obtain⟨o1,o2,o3⟩:=Yg (a:=toA x.qc) hw hx.1 hx.2;rw[ih (n+1) (by omega),hd,A5];refine qei ?_;rw[beq_iff_eq];constructor
     ·rintro⟨a,b,c⟩
      refine⟨trivial,by omega,?_⟩;rw[c]
      congr 1
      exact Hc o1 (Zr hg).1 (Int.ofNat_inj.1 a)
     ·rintro⟨a,b,c⟩
      rw[List.cons.injEq]at c;exact⟨by rw[← c.1];rfl,by omega,c.2⟩
    ·rw[dF (by omega),cN,ih (n+1) (by omega) false,if_neg (fun h=>by cases h.1),if_neg ?_]
     rintro⟨_,b,c⟩
     rw[D5 (by rw[A4];omega),A5]at c;cases c
theorem qgV {ar:Int→Nat} {r:rf3Rule} (hr:okL ar (toR r)) {N:List Bool} (hN:N.length=252) {p:ruProof} (hg:groundP p.qf) (hs:∀ s,s∈p.qh→groundP s.qf) (hp:p.qh.length≤6):∀ (ws:List (List Int)) (k:Nat),(∀ w,w∈ws→V8 w∧∀ a,a∈atomsU (toR r)→bnd w a.qa) →
  jg N (ownT p) r jr ws k=some (decide (∃ w,w∈ws∧FreeP (setB N) w (toR r).qd∧groundF w (toR r).qg=toF p.qf∧(posB (toR r).qd).map (fun x=>groundF w x.qc)=p.qh.map fun s=>toF s.qf))
 | [],k,_=>by
  rw[jg,dF (by simp)];rfl
 | w::ws,k,h=>by
  obtain⟨hw,hb⟩:=h w (A3 ..)
  have ih:=qgV hr hN hg hs hp ws (k+1) fun u hu=>h u (A2 _ hu)
  have hbl:r.qd.length≤3:=by have:=hr.1.1;simpa[toR] using this
  have hbd:∀ x,x∈r.qd→fitP x.qc.qb x.qc.qa∧bnd w x.qc.qa:=fun x hx =>
   ⟨(hr.body (toL x) (List.mem_map.2 ⟨x,hx,rfl⟩)).1,hb (toA x.qc) (A2 _ (List.mem_map.2 ⟨toL x,List.mem_map.2 ⟨x,hx,rfl⟩,rfl⟩))⟩
  have hhd:fitP r.qg.qb r.qg.qa∧bnd w r.qg.qa:=⟨hr.head.1,hb _ (A3 ..)⟩
  have go:∀ good,Yo w (ownT p) r (jg N (ownT p) r jr ws (k+1)) good=if good=true∧(posB (toR r).qd).map (fun x=>groundF w x.qc)=p.qh.map (fun s=>toF s.qf) then some true else jg N (ownT p) r jr ws (k+1):=fun good=>by
   unfold Yo;rw[UR (qQ (by omega)),show (0:Int)=((0:Nat):Int) from rfl,qgU hw hs hp _ r.qd 0 0 good hbd (by omega),C9];exact qei ⟨fun h=>⟨h.1,h.2.2⟩,fun h=>⟨h.1,by omega,h.2⟩⟩
  rw[jg,UR (dT hw.1),UR (dT ⟨hw.1,by simp⟩),UR (dT hw.1),UR (dT hN),qfq hw hN hbl fun x hx _=>hbd x hx];simp only[A0];by_cases hfr:FreeP (setB N) w (toR r).qd
  ·rw[dT hfr,cT,UR (dT hw.1),NY hw hhd.1 hhd.2];simp only[A0];rw[Do,DI hg];simp only[A0];rw[go];obtain⟨o1,o2,o3⟩:=Yg (a:=toA r.qg) hw hhd.1 hhd.2;by_cases hc:((codeF (groundF w (toA r.qg)):Int) == (codeF (toF p.qf):Int))=true∧(posB (toR r).qd).map (fun x=>groundF w x.qc)=p.qh.map (fun s=>toF s.qf)
   ·rw[if_pos hc];have hc1:=beq_iff_eq.1 hc.1;rw[dT ⟨w,A3 ..,hfr,Hc o1 (Zr hg).1 (Int.ofNat_inj.1 hc1),hc.2⟩]
   ·rw[if_neg hc,ih]
    congr 1
    refine decide_eq_decide.2 ?_;constructor
    ·rintro⟨u,u1,u2⟩
     exact⟨u,A2 _ u1,u2⟩
    ·rintro⟨u,u1,u2,u3,u4⟩
     rcases List.mem_cons.1 u1 with rfl | u1
     ·refine absurd ⟨?_,u4⟩ hc;rw[show groundF u (toA r.qg)=toF p.qf from u3];exact beq_self_eq_true _
     ·exact⟨u,u1,u2,u3,u4⟩
  ·rw[dF hfr,cN,go,if_neg (fun h=>by cases h.1),ih]
   congr 1
   refine decide_eq_decide.2 ?_;constructor
   ·rintro⟨u,u1,u2⟩
    exact⟨u,A2 _ u1,u2⟩
   ·rintro⟨u,u1,u2,u3,u4⟩
    rcases List.mem_cons.1 u1 with rfl | u1
    ·exact absurd u2 hfr
    ·exact⟨u,u1,u2,u3,u4⟩
theorem qgW {l:List rf3Rule} {G X:List Bool} (hG:G.length=252) (hX:X.length=252) {K0:List rf3Rule→List Bool→List Bool→qq→Option Bool} {H:ruProof→Prop} (hH:∀ s,H s→groundP s.qf) (K:List Bool→Option Bool):∀ (ss:List ruProof) (k:Nat) (S:List Bool),S.length=252→(∀ s,s∈ss→K0 l G X (ownT s)=some (decide (H s))) →
  ((∀ s,s∈ss→H s)∧∃ S',Qm l G X K0 K (ss.map ownT) k S=K S'∧S'.length=252∧∀ g,setB S' g↔setB S g∨g∈ss.map fun s=>toF s.qf)∨(¬ (∀ s,s∈ss→H s)∧Qm l G X K0 K (ss.map ownT) k S=some false)
 | [],k,S,hS,_=>.inl ⟨fun s hs=>by simp at hs,S,by rw[D0,Qm],hS,fun g=>by simp⟩
 | x::ss,k,S,hS,h=>by
  rw[A5,Qm,UR (dT hG),UR (dT hX),h x (A3 ..)];simp only[A0];by_cases hx:H x
  ·have hg:=hH x hx;have hok:=(Zr hg).1;have hlt:=ZV hok;rw[dT hx,A7,cN,Do,DI hg];simp only[A0];rw[UR (dT ⟨by omega,by omega,by omega⟩),UR (dT (by omega)),D3,Nat.mul_one,D1]
   rcases qgW hG hX hH K ss (k+1) (S.set (codeF (toF x.qf)) true) (by rw[C7,hS]) (fun s hs=>h s (A2 _ hs)) with ⟨a,S',b,c,d⟩ | ⟨a,b⟩
   ·left;refine⟨fun s hs=>?_,S',b,c,fun g=>?_⟩
    ·rcases List.mem_cons.1 hs with rfl | hs
     ·exact hx
     ·exact a s hs
    ·rw[d,qbo hS hok,A5,List.mem_cons];constructor
     ·rintro ((h | h) | h)
      ·exact .inl h
      ·exact .inr (.inl h)
      ·exact .inr (.inr h)
     ·rintro (h | h | h)
      ·exact .inl (.inl h)
      ·exact .inl (.inr h)
      ·exact .inr h
   ·right;exact⟨fun c=>a fun s hs=>c s (A2 _ hs),b⟩
  ·right;rw[dF hx,A9,cT];exact⟨fun c=>hx (c x (A3 ..)),rfl⟩
theorem qeG {ar:Int→Nat} {l:List rf3Rule} (hL:∀ r,r∈l→okL ar (toR r)) {G X:List Bool} (hG:G.length=252) (hX:X.length=252):∀ (n fuel:Nat) (p:ruProof),hT p≤n→n+6≤fuel→okT p→XI fuel l G X (ownT p)=some (decide (HoldsN (l.map toR) (setB G) (setB X) n p))
 | 0,fuel,p,hn,_,_=>by have:=qan p;omega
 | n+1,0,p,_,hf,_=>by omega
 | n+1,fuel+1,p,hn,hf,ho=>by
  obtain⟨o1,o2,o3⟩:=(Hy p).1 ho;have h1:=qbI p;rw[XI,UR (by cases G<;>simp_all),UR (by cases X<;>simp_all),Do,qeY,NP,qbJ (qQ (by omega)),A4];simp only[A0];by_cases hg:groundP p.qf
  ·have hok:=(Zr hg).1;have hlt:=ZV hok;rw[dT hg,A7,cN];by_cases hr:p.ql = -1
   ·rw[hr,beq_self_eq_true,cT];unfold Zg;by_cases hs:p.qh=[]
    ·rw[hs,show ((([]:List ruProof).length:Int) == 0)=true from rfl,cT,DI hg];simp only[A0];rw[UR (dT ⟨by omega,by omega,by omega⟩),D3,Nat.mul_one,D1,B0 (by omega)];simp only[A0]
     congr 1
     rw[D6,decide_eq_true_iff,UI hr];unfold setB;rw[B4,B0 (by omega)];exact⟨fun q=>⟨hg,hs,hok,q⟩,fun q=>q.2.2.2⟩
    ·rw[show ((p.qh.length:Int) == 0)=false by rw[beq_eq_false_iff_ne];intro h;exact hs (C0 (by omega)),cN]
     congr 1
     exact (dF fun q=>hs ((UI hr).1 q).2.1).symm
   ·rw[show (p.ql == -1)=false from beq_eq_false_iff_ne.2 hr,cN];by_cases hout:p.ql<0∨(l.length:Int)≤p.ql
    ·rw[dF (qdf (L:=l.map toR) hr (by rw[A4];exact hout))];unfold Yp;by_cases h0:p.ql<0
     ·rw[dT h0,cT,cT]
     ·rw[dF h0,cN,dT (by omega),cT]
    ·have h0:0≤p.ql:=by omega
     have hlt':p.ql.toNat<l.length:=by omega
     have hi:l[p.ql.toNat]? = some l[p.ql.toNat]:=B0 hlt';have hrU:=hL _ (D7 hlt');generalize l[p.ql.toNat]=r at hi hrU
     have hi':(l.map toR)[p.ql.toNat]? = some (toR r):=by rw[List.getElem?_map,hi];rfl
     have hbl:r.qd.length≤3:=by have:=hrU.1.1;simpa[toR] using this
     rw[dF (by omega),cN,dF (by omega)];unfold Yp;rw[cN,qeY,NP,show idx l p.ql=some r by unfold idx;rw[if_pos h0,hi]];simp only[A0];rw[UR (qQ (by rw[A4];omega))];have hiff:=HK (G:=setB G) (X:=setB X) (n:=n) h0 hi'
     rcases qgW (l:=l) hG hX (K0:=XI fuel) (H:=HoldsN (l.map toR) (setB G) (setB X) n) (fun s hs=>hs.ground) (Xh fuel X (ownT p) r) p.qh 0 (A1 252 false) (by simp) (fun s hs=>qeG hL hG hX n fuel s (by have:=UJ hs;omega) (by omega) (Vu o3 hs)) with ⟨a,S',b,c,d⟩ | ⟨a,b⟩
     ·rw[b];unfold Xh
      have hiv:=ZK (r:=r) hbl (fun x hx=>by
       have:=(hrU.body (toL x) (List.mem_map.2 ⟨x,hx,rfl⟩)).1
       exact⟨jE this,this.2.1.2⟩) c r.qd.length fuel 0 v0 (by omega) (by omega) (by simp)
      rw[C9]at hiv;replace hiv:qB fuel r S' 0 (A1 8 0)=some (instR S' (r.qd.map toL) v0):=hiv
      have hmem:∀ w,w∈instR S' (r.qd.map toL) v0↔InstP (setB S') (toR r).qd v0 w:=fun w=>Ur _ _ _
      have hlen:(instR S' (r.qd.map toL) v0).length≤16003008:=by
       have h1:=Us S' (r.qd.map toL) v0;rw[A4]at h1;have h2:252 ^ r.qd.length≤252 ^ 3:=Nat.pow_le_pow_right (by omega) hbl
       have:252 ^ 3=16003008:=by decide
       omega
      have hsg:∀ s,s∈p.qh→groundP s.qf:=fun s hs=>(a s hs).ground
      have hset:setB S'=fun g=>g∈(p.qh.map ruProof.qf).map toF:=by
       funext g
       refine propext ((d g).trans ?_);rw[List.map_map]
       exact⟨fun h=>h.elim (fun h=>absurd h (fun h=>by
        have:=h.2;rw[B4,D2]at this
        split at this<;>simp at this)) id,.inr⟩
      rw[UR (dT c),hiv];simp only[A0];rw[UR (qQ (by omega)),qgV hrU hX hg hsg o2 _ 0 fun w hw=>hrU.inst (qdP S') ((hmem w).1 hw)]
      congr 1
      refine decide_eq_decide.2 ?_
      rw[hiff,qgz hrU (fun s hs=>by
       obtain⟨t,ht,rfl⟩:=List.mem_map.1 hs
       exact hsg t ht)]
      rw[← hset,List.map_map];constructor
      ·rintro⟨w,w1,w2,w3,w4⟩
       exact⟨hg,a,w,(hmem w).1 w1,w2,w3,w4⟩
      ·rintro⟨_,_,w,w1,w2,w3,w4⟩
       exact⟨w,(hmem w).2 w1,w2,w3,w4⟩
     ·rw[b]
      congr 1
      exact (dF fun q=>a (hiff.1 q).2.1).symm
  ·rw[dF hg,A9,cT]
   congr 1
   exact (dF fun q=>hg q.ground).symm
theorem qip {fuel:Nat} (hf:400≤fuel) {l:List rf3Rule} {facts:List apiFact} (hl:okRules l) (hv:VR l facts) {p:ruProof} (ho:okT p) (hh:hT p≤50) {out:List (rufact×Bool)} {S:List Bool} (h1:Yz fuel (l.map toR) facts=some (out,true)) (h3:StR (arVR l facts) out S) :
  ∃ b,Vq fuel (l.map toR) facts p=some (b,0)∧Uk fuel l facts S (ownT p)=some b:=by
 have hv4:=mvalid (by omega:4≤fuel) hl hv.1 hv.2.2.2.1 (m:=facts) (by have:=hv.2.1;omega) fun f hf=>by have:=(hv.2.2.1 f hf).2.1.2;omega
 obtain⟨gv,S0,g1,g2,g3⟩:=qbK (by have:=hv.2.1;omega:facts.length≤100) hv.2.2.1 hv.facts_ar;have hL:=hv.okL;refine⟨decide (nT p≤500∧hT p≤40∧HoldsN (l.map toR) (memO gv) (memO out) 50 p),?_,?_⟩
 ·unfold Vq;rw[hv4,dT hv];simp only[A0,A7,cN];rw[h1];simp only[A0,A7,cN];have hs:=qcN fuel p 500 40 (by omega) ho (by omega) (by omega);rw[show jA fuel p 500 40=_ from hs];simp only[A0];unfold Ze;by_cases hc:nT p≤500∧hT p≤40
  ·rw[if_pos hc,dT (by omega),cT,g1];simp only[A0]
   rw[qbx (fun r hr=>by
    obtain⟨q,hq,rfl⟩:=List.mem_map.1 hr
    exact (hL q hq).1) g3.nt h3.nt 50 fuel p hh (by omega) ho]
   simp only[A0]
   congr 2
   exact decide_eq_decide.2 ⟨fun h=>⟨hc.1,hc.2,h⟩,fun h=>h.2.2⟩
  ·rw[if_neg hc,dF (by omega),cN,dF (fun h=>hc ⟨h.1,h.2.1⟩)]
 ·unfold Uk Yr;rw[UR (by have:=h3.len;cases S<;>simp_all),qeJ fuel p (by omega) ho];simp only[A0];by_cases c1:nT p≤500
  ·rw[if_pos c1,dT (by omega),cT,show (40:Int)=((40:Nat):Int) from rfl,qdu fuel p 40 (by omega) ho (by omega)];simp only[A0];by_cases c2:hT p≤40
   ·rw[if_pos c2,dT (by omega),cT,g2];simp only[A0];rw[UR (dT h3.len),qeG hL g3.len h3.len 50 fuel p hh (by omega) ho];simp only[A0]
    have e1:memO gv=setB S0:=funext fun g=>propext (g3.same g)
    have e2:memO out=setB S:=funext fun g=>propext (h3.same g)
    rw[e1,e2]
    congr 1
    exact decide_eq_decide.2 ⟨fun h=>⟨c1,c2,h⟩,fun h=>h.2.2⟩
   ·rw[if_neg c2,dF (by omega),cN,dF (fun h=>c2 h.2.1)]
  ·rw[if_neg c1,dF (by omega),cN,dF (fun h=>c1 h.1)]
theorem qab {fuel:Nat} (hf:400≤fuel) {l:List rf3Rule} {facts:List apiFact} {p:qq} (hl:okRules l) (hfa:okFacts facts) (hp:okQ p):XL fuel l facts p=some true:=by
 obtain⟨n,rfl⟩:∃ n,fuel=n+30:=⟨fuel - 30,by omega⟩;have haw:=qiu n;obtain⟨q,m,e1,e2,e3,e4⟩:=qfB 42 (n+30) p 510 (by omega) (by omega) hp (by omega) (by omega);unfold XL NS;rw[show jY (n+30) p 42 510=some (q,(m:Int)) from e1];simp only[A0];rw[qkh hl.1 (fun r hr=>(hl.2 r hr).2.1),qil hfa.1];simp only[A0];rw[qea hl hfa];by_cases hv:VR l facts
 ·rw[qjp hv,qiL hv]
  rcases qgx (by omega:300≤n+30) hv.1 hv.okL (by have:=hv.2.1;omega) hv.2.2.1 hv.facts_ar with ⟨out,S,a1,a2,a3⟩ | ⟨a1,a2⟩
  ·obtain⟨b,b1,b2⟩:=qip (by omega:400≤n+30) hl hv e2 (by omega) a1 a3;rw[b1];simp only[A0];rw[dT hv,A7,cN,a2];simp only[A0];rw[UR (dT ⟨a3.len,by simp⟩),show ((0:Int) != 0)=false from rfl,cN,UR (dT a3.len),qhg (n+30) q (by omega) e2];simp only[A0];rw[b2];simp only[A0];rw[beq_self_eq_true,cT,show ((0:Int) == 0)=true from rfl,cT,haw];rfl
  ·have hv4:=mvalid (by omega:4≤n+30) hl hv.1 hv.2.2.2.1 (m:=facts) (by have:=hv.2.1;omega) fun f hf=>by have:=(hv.2.2.1 f hf).2.1.2;omega
   unfold Vq;rw[hv4,dT hv];simp only[A0,A7,cN];rw[a1];simp only[A0,A9,cT];rw[a2];simp only[A0];rw[UR (dT ⟨by simp,by simp⟩),show ((8:Int) != 0)=true from rfl,cT,show ((8:Int) == 8)=true from rfl,cT,haw];rfl
 ·unfold Vq;rw[qbg (by omega) hl,dF hv];simp only[A0,A9,cT];rw[show ((2:Int) == 2)=true from rfl,cT,haw];rfl
end Go.AM
namespace Go.AM
open Go.Proofs Go.Proofs.Ytdghpfejmlpjhaa Go.ChangeShapes Go.WideShapes Go.ChangeAt Go.RowKit
theorem qhj:∀ {l:List qq},(∀ x,x∈l→okQ x)→okQs l
 | [],_=>by rw[okQs];trivial
 | y::l,h=>by rw[okQs];exact⟨h y (A3 ..),qhj fun x hx=>h x (A2 _ hx)⟩
theorem qfz (a:qq):qN a=.agg (qN a).cells:=by
 rw[Jk];rfl
theorem qaB:∀ N,ReadsN N Try.prog 85 qN okQ
 | 0=>fun H enc w fuel cs x hN h=>by
  obtain rfl:fuel=0:=by omega
  cases h
 | N+1 =>
  Hk (P := Try.prog) (size := 4) (fs := #[Field.mk "Rule" 3 0 false "" "" 0, Field.mk "Fact" 41 1 false "" "" 8, Field.mk "Sub" 83 3 false "" "" 40]) (fun b : Int × apiFact × List qq × Unit => qq.mk b.1 b.2.1 b.2.2.1) (by kernel_rfl) (by kernel_rfl)
   (ZL (f:=AV.int .i64) (ok:=fun n=>wfI .i64 n=true) (n:=1) (off':=1) rfl (by kernel_rfl) rfl (Dn.toN N) (ZL (f:=qM) (ok:=wFa) (n:=2) (off':=3) rfl (by kernel_rfl) rfl (qcQ.toN N) (ZL (f:=encL 85 4 qN) (ok:=fun l=>l.length≤maxLen∧∀ x,x∈l→okQ x) (n:=1) (off':=4) rfl (by kernel_rfl) rfl ((Dm (by kernel_rfl) (by kernel_rfl) (by decide) (qaB N) (fun x=>by rw[Jk];rfl) (fun x=>by rw[Jk];rfl)).mono (Nat.le_succ N)) (DF rfl))))
   (fun b=>by rw[Jk];rfl) (fun b h=>(qiY _).2 ⟨Uq h.2.2.1.1,qhj h.2.2.1.2⟩)
theorem qgk:Reads Try.prog 85 qN okQ:=ReadsN.all qaB
theorem Hg (fuel:Nat) (a1:List rf3Rule) (a2:List apiFact) (a3:qq) (r:Bool) (h:XL fuel a1 a2 a3=some r):Run Try.prog (.call 15 [l94 none a1,l41 none a2,qN a3] (.bool r)):=by
 rw[Jk];exact Hh fuel a1 a2 a3 r h
end Go.AM
