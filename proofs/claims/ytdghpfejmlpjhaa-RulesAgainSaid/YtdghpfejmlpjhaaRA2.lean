/- s -/
import Derived.Test.YtdghpfejmlpjhaaRA1
set_option maxRecDepth 100000
set_option linter.unusedVariables false
set_option linter.unusedSimpArgs false
namespace Go.AM
open Go.Proofs
def rf3_free_j7:Option Bool :=
 (some true)
def ZA (N1:(Option Bool)) (v16:Bool):Option Bool :=
 (bif v16 then (some false) else N1)
def Xp (a2:(List Int)) (a3:(List Bool)) (K7:(Option Bool)):List rf3Lit→Nat→Option Bool
 | [],k1=>K7
 | x1::r1,k1=>(bif x1.qn then (chk (decide (a2.length=8)) ((Zh x1.qe a2).bind fun w13=>(chk (decide ((0:Int)≤w13∧w13<((252:Nat):Int)∧0<1)) ((a3[(0+Int.toNat w13 * 1)]?).bind fun e15=>((ZA (Xp a2 a3 K7 r1 (k1+1))) e15))))) else ((ZA (Xp a2 a3 K7 r1 (k1+1))) false))
def rf3_free (a1:rf3Rule) (a2:(List Int)) (a3:(List Bool)):Option Bool :=
 (chk (!a2.isEmpty) (chk (!a3.isEmpty) (chk (lenOk a1.qd) (Xp a2 a3 (rf3_free_j7) a1.qd 0))))
def QQ (v45:(List Bool)):Option (List Bool) :=
 (chk (decide (v45.length=252)) (chk (decide (v45.length=252∧(List.replicate 252 false).length=252)) (chk (decide (v45.length=252)) (some v45))))
def Qz (N2:((List Bool)→Bool→Option (List Bool))) (v43:(List Bool)) (v44:Bool):Option (List Bool) :=
 (N2 v43 v44)
def Qy (N3:((List Bool)→Bool→Option (List Bool))) (v41:(List Bool)) (v42:Bool):Option (List Bool) :=
 (N3 v41 v42)
def Qx (v22:(List Bool)) (v23:Bool) (w30:Int) (K24:((List Bool)→Bool→Option (List Bool))) (v37:Bool):Option (List Bool) :=
 (bif v37 then (chk (decide ((0:Int)≤w30∧w30<((252:Nat):Int)∧0<1)) (chk (decide ((0+Int.toNat w30 * 1)<v22.length)) (K24 (v22.set (0+Int.toNat w30 * 1) true) true))) else (K24 v22 v23))
def jU (x2:rf3Rule) (a3:(List Bool)) (K17:((List Bool)→Bool→Option (List Bool))):List (List Int)→Nat→(List Bool)→Bool→Option (List Bool)
 | [],k3,v22,v23=>(K17 v22 v23)
 | x3::r3,k3,v22,v23=>(chk (decide (x3.length=8)) (chk (decide (x3.length=8∧(List.replicate 8 0).length=8)) (chk (decide (x3.length=8)) ((Zh x2.qf x3).bind fun w30=>(chk (decide (x3.length=8)) (chk (decide (a3.length=252)) ((rf3_free x2 x3 a3).bind fun w34=>(bif w34 then (chk (decide ((0:Int)≤w30∧w30<((252:Nat):Int)∧0<1)) ((v22[(0+Int.toNat w30 * 1)]?).bind fun e36=>((Qx v22 v23 w30 (Qy (jU x2 a3 K17 r3 (k3+1)))) (!e36)))) else ((Qx v22 v23 w30 (Qy (jU x2 a3 K17 r3 (k3+1)))) false)))))))))
def jV (fuel:Nat) (a3:(List Bool)) (N1:((List Bool)→Bool→Option (List Bool))):List rf3Rule→Nat→(List Bool)→Bool→Option (List Bool)
 | [],k2,v15,v16=>(N1 v15 v16)
 | x2::r2,k2,v15,v16=>(chk (decide (v15.length=252)) ((JT fuel x2 v15 0 (List.replicate 8 0)).bind fun w21=>(chk (lenOk w21) (jU x2 a3 (Qz (jV fuel a3 N1 r2 (k2+1))) w21 0 v15 v16))))
def jX (fuel:Nat) (a1:(List rf3Rule)) (a3:(List Bool)) (K7:((List Bool)→Option (List Bool))):Nat→(List Bool)→Bool→Option (List Bool)
 | 0,_,_=>none
 | m1+1,v9,v10=>(bif v10 then (chk (lenOk a1) (jV fuel a3 (jX fuel a1 a3 K7 m1) a1 0 v9 false)) else (K7 v9))
def JX (fuel:Nat) (a1:(List rf3Rule)) (a2:(List Bool)) (a3:(List Bool)):Option (List Bool) :=
 (chk (!a2.isEmpty) (chk (!a3.isEmpty) (jX fuel a1 a3 (QQ) fuel a2 true)))
def XP (v34:(List Bool)):Option ((List Bool)×Int) :=
 (chk (decide (v34.length=252)) (chk (decide (v34.length=252∧(List.replicate 252 false).length=252)) (chk (decide (v34.length=252)) (some (v34,0)))))
def YS (fuel:Nat) (v16:(List Bool)) (N1:((List Bool)→Option ((List Bool)×Int))) (v29:(List rf3Rule)):Option ((List Bool)×Int) :=
 (chk (decide (v16.length=252)) (chk (decide (v16.length=252)) ((JX fuel v29 v16 v16).bind fun w32=>(chk (decide (w32.length=252∧v16.length=252)) (N1 w32)))))
def YR (N2:((List rf3Rule)→Option ((List Bool)×Int))) (v28:(List rf3Rule)):Option ((List Bool)×Int) :=
 (N2 v28)
def QK (k1:Nat) (w5:((List Int)×Int)) (K20:((List rf3Rule)→Option ((List Bool)×Int))):List rf3Rule→Nat→(List rf3Rule)→Option ((List Bool)×Int)
 | [],k2,v22=>(K20 v22)
 | x2::r2,k2,v22=>((idx w5.1 x2.qf.qb).bind fun e26=>(bif (e26 == (k1:Int)) then (chk (capOk 56 ((v22++[x2])).length) ((YR (QK k1 w5 K20 r2 (k2+1))) (v22++[x2]))) else ((YR (QK k1 w5 K20 r2 (k2+1))) v22)))
def Qf (fuel:Nat) (a1:(List rf3Rule)) (w5:((List Int)×Int)) (K14:((List Bool)→Option ((List Bool)×Int))):List Nat→Nat→(List Bool)→Option ((List Bool)×Int)
 | [],k1,v16=>(K14 v16)
 | x1::r1,k1,v16=>(chk (lenOk a1) (QK k1 w5 (YS fuel v16 (Qf fuel a1 w5 K14 r1 (k1+1))) a1 0 ([]:(List rf3Rule))))
def rf3_Model (fuel:Nat) (a1:(List rf3Rule)) (a2:(List apiFact)):Option ((List Bool)×Int) :=
 ((Yu a1).bind fun w5=>((rf3_Of a2).bind fun w7=>(chk (decide (w7.length=252∧(List.replicate 252 false).length=252)) (bif (w5.2 != 0) then (chk (decide ((List.replicate 252 false).length=252∧(List.replicate 252 false).length=252)) (chk (decide ((List.replicate 252 false).length=252)) (some ((List.replicate 252 false),w5.2)))) else (chk (lenOk (List.range (Int.toNat 6))) (Qf fuel a1 w5 (XP) (List.range (Int.toNat 6)) 0 w7))))))
def rf2_Key (a1:apiFact):Option (List Int) :=
 (chk (capOk 8 (([a1.qb]++a1.qa)).length) (some ([a1.qb]++a1.qa)))
def YT (a1:(List Int)) (a2:(List Int)):Option Bool :=
 (some (decide ((a1.length:Int)<(a2.length:Int))))
def XQ (k1:Nat) (x1:Int) (a2:(List Int)) (N1:(Option Bool)) (v11:Bool):Option Bool :=
 (bif v11 then (some false) else ((idx a2 (k1:Int)).bind fun e14=>(bif (decide (x1<e14)) then (some true) else N1)))
def JV (a2:(List Int)) (K4:(Option Bool)):List Int→Nat→Option Bool
 | [],k1=>K4
 | x1::r1,k1=>(bif (decide ((k1:Int) ≥ (a2.length:Int))) then ((XQ k1 x1 a2 (JV a2 K4 r1 (k1+1))) true) else ((idx a2 (k1:Int)).bind fun e10=>((XQ k1 x1 a2 (JV a2 K4 r1 (k1+1))) (decide (x1 > e10)))))
def Yw (a1:(List Int)) (a2:(List Int)):Option Bool :=
 (chk (lenOk a1) (JV a2 (YT a1 a2) a1 0))
def rf2_Equal_j4 (v7:Bool):Option Bool :=
 (some v7)
def rf2_Equal (a1:(List Int)) (a2:(List Int)):Option Bool :=
 ((Yw a1 a2).bind fun w5=>(bif (!w5) then ((Yw a2 a1).bind fun w6=>((rf2_Equal_j4) (!w6))) else ((rf2_Equal_j4) false)))
def rf2_Put_j16 (a1:(List (List Int))) (a2:(List Int)) (v14:Int) (v19:Bool):Option (List (List Int)) :=
 (bif v19 then (some a1) else ((sub a1 0 v14).bind fun e22=>(chk (capOk 24 ((([]:(List (List Int)))++e22)).length) (chk (capOk 24 (((([]:(List (List Int)))++e22)++[a2])).length) ((sub a1 v14 (a1.length:Int)).bind fun e25=>(chk (capOk 24 ((((([]:(List (List Int)))++e22)++[a2])++e25)).length) (some (((([]:(List (List Int)))++e22)++[a2])++e25))))))))
def rf2_Put_j5 (a1:(List (List Int))) (a2:(List Int)) (v14:Int):Option (List (List Int)) :=
 (bif (decide (v14<(a1.length:Int))) then ((idx a1 v14).bind fun e17=>((rf2_Equal e17 a2).bind fun w18=>((rf2_Put_j16 a1 a2 v14) w18))) else ((rf2_Put_j16 a1 a2 v14) false))
def Yv (a1:(List (List Int))) (a2:(List Int)) (K5:(Int→Option (List (List Int)))):Nat→Int→Int→Option (List (List Int))
 | 0,_,_=>none
 | m1+1,v6,v7=>(bif (decide (v6<v7)) then ((idx a1 (IntKind.wrap .i64 (((IntKind.wrap .i64 (v6+v7))).tdiv 2))).bind fun e12=>((Yw e12 a2).bind fun w13=>(bif w13 then ((Yv a1 a2 K5 m1) (IntKind.wrap .i64 ((IntKind.wrap .i64 (((IntKind.wrap .i64 (v6+v7))).tdiv 2))+1)) v7) else ((Yv a1 a2 K5 m1) v6 (IntKind.wrap .i64 (((IntKind.wrap .i64 (v6+v7))).tdiv 2)))))) else (K5 v6))
def rf2_Put (fuel:Nat) (a1:(List (List Int))) (a2:(List Int)):Option (List (List Int)) :=
 (Yv a1 a2 (rf2_Put_j5 a1 a2) fuel 0 (a1.length:Int))
def ZB (v28:(List apiFact)):Option (List apiFact) :=
 (some v28)
def XU (K20:((List apiFact)→Option (List apiFact))):List (List Int)→Nat→(List apiFact)→Option (List apiFact)
 | [],k2,v22=>(K20 v22)
 | x2::r2,k2,v22=>((idx x2 0).bind fun e25=>((sub x2 1 (x2.length:Int)).bind fun e26=>(chk (capOk 32 ((v22++[(apiFact.mk e25 e26)])).length) ((XU K20 r2 (k2+1)) (v22++[(apiFact.mk e25 e26)])))))
def rf3_List_j5 (v18:(List (List Int))):Option (List apiFact) :=
 (chk (lenOk v18) (XU (ZB) v18 0 ([]:(List apiFact))))
def rf3_List_j9 (N1:((List (List Int))→Option (List apiFact))) (v17:(List (List Int))):Option (List apiFact) :=
 (N1 v17)
def Xq (fuel:Nat) (a1:(List Bool)) (K5:((List (List Int))→Option (List apiFact))):List Nat→Nat→(List (List Int))→Option (List apiFact)
 | [],k1,v8=>(K5 v8)
 | x1::r1,k1,v8=>(chk (decide ((0:Int)≤(k1:Int)∧(k1:Int)<((252:Nat):Int))) ((a1[Int.toNat (k1:Int) * 1]?).bind fun e12=>(bif e12 then ((rf3_Fact (k1:Int)).bind fun w14=>((rf2_Key w14).bind fun w15=>((rf2_Put fuel v8 w15).bind fun w16=>((rf3_List_j9 (Xq fuel a1 K5 r1 (k1+1))) w16)))) else ((rf3_List_j9 (Xq fuel a1 K5 r1 (k1+1))) v8))))
def rf3_List (fuel:Nat) (a1:(List Bool)):Option (List apiFact) :=
 (chk (!a1.isEmpty) (chk (decide (a1.length=252)) (chk (lenOk (List.range (Int.toNat 252))) (Xq fuel a1 (rf3_List_j5) (List.range (Int.toNat 252)) 0 ([]:(List (List Int)))))))
def jr:Option Bool :=
 (some true)
def JO (N1:(Option Bool)):Option Bool :=
 N1
def Jj (K5:(Option Bool)):List rf3Lit→Nat→Option Bool
 | [],k2=>K5
 | x2::r2,k2=>(bif x2.qn then (some false) else (Jj K5 r2 (k2+1)))
def jc (K3:(Option Bool)):List rf3Rule→Nat→Option Bool
 | [],k1=>K3
 | x1::r1,k1=>(chk (lenOk x1.qd) (Jj (JO (jc K3 r1 (k1+1))) x1.qd 0))
def Zj (a1:(List rf3Rule)):Option Bool :=
 (chk (lenOk a1) (jc (jr) a1 0))
theorem run_rf3_Plain (a1:(List rf3Rule)) (r:Bool) (h:Zj a1=some r):Run Try.prog (.call 25 [l94 none a1] (.bool r)):=by
 refine cW Try.func25 rfl (env0:=[(0,l94 none a1)]) ?_;unfold Zj at h;refine W.seq ?_;refine W.rt (e2:=[(0,l94 none a1)]) ?_;refine W.seq ?_;refine W.join (σ:=Unit) (fun s=>[]) (fun s=>(jr)=some r) (fun s h=>?_) (fun hK3=>?_)
 ·have h:(jr)=some r:=h;unfold jr at h;refine W.seq ?_;refine W.rt (e2:=[(2,.bool true)]) ?_;refine W.wk (env':=[(2,.bool true)]) ?_;cases h;exact W.ret (show qq _ _ _=some _ by kernel_rfl)
 refine W.seq ?_;refine W.rg ?_;refine WO.pk 1 (some (I6 ((List.map QN a1).length:Int))) (v:=I6 (a1.length:Int)) (by rw[List.length_map]) (e1:=[(0,l94 none a1),(7,l94 none a1),(8,I6 (a1.length:Int))]) ?_
 let z0:=fun t=>EN ((7,l94 none a1)::(8,I6 (a1.length:Int))::t)
 refine WO.fn (e2:=z0 [(9,.int .i64 0)]) ?_;refine W.block ?_;obtain⟨hl1,h⟩:=qh h;refine W.wk (env':=z0 [(9,I6 ((0:Nat):Int))]) ?_;refine W.range (σ:=Unit) a1 (fun k1 s=>z0 [(9,I6 (k1:Int))]) (fun r0 k0 s=>jc (jr) r0 k0=some r) (fun s h=>?_) (fun x1 r1 k1 s hx1 hk1 h hN1=>?_) () h
 ·have h:jc (jr) [] (a1).length=some r:=h;rw[jc.eq_1]at h;refine W.seq ?_;refine W.rg ?_
  let z1:=fun t=>z0 ((9,I6 ((a1).length:Int))::(10,.bool false)::t)
  refine WO.pk 0 (some (.bool (decide (((a1).length:Int)<(a1.length:Int))))) (v:=.bool false) (by rw[jy (l:=a1)]) (e1:=z1 []) ?_;refine WO.fn (e2:=z1 []) ?_;refine W.seq ?_;refine W.cb false (fun h=>Bool.noConfusion h) (fun _=>?_);refine W.exit ?_;refine W.wk (env':=[]) ?_;exact hK3 () h
 ·have h:jc (jr) (x1::r1) k1=some r:=h;rw[jc.eq_2]at h;refine W.seq ?_;refine W.rg ?_
  let z2:=fun t=>z0 ((9,I6 (k1:Int))::t)
  refine WO.pk 0 (some (.bool (decide ((k1:Int)<(a1.length:Int))))) (v:=.bool true) (by rw[Jm hk1]) (e1:=z2 [(10,.bool true)]) ?_;refine WO.fn (e2:=z2 [(10,.bool true)]) ?_;refine W.seq ?_;refine W.cb true (fun _=>?_) (fun h=>Bool.noConfusion h);refine W.skip ?_;refine W.wk (env':=z2 []) ?_;refine W.seq ?_;refine W.join (σ:=Unit) (fun s=>z2 []) (fun s=>(JO (jc (jr) r1 (k1+1)))=some r) (fun s h=>?_) (fun hK5=>?_)
  ·have h:(JO (jc (jr) r1 (k1+1)))=some r:=h;unfold JO at h;refine W.rg ?_;refine WO.pk 0 (some (I6 (IntKind.wrap .i64 ((k1:Int)+1)))) (v:=I6 ((k1+1:Nat):Int)) (by rw[qX hl1 hk1]) (e1:=z2 [(23,I6 ((k1+1:Nat):Int))]) ?_;refine WO.fn (e2:=z0 [(9,I6 ((k1+1:Nat):Int))]) ?_;exact hN1 () h
  refine W.block ?_;refine W.seq ?_;refine W.rg ?_;refine WO.pk 0 (if (0:Int)≤(k1:Int) then ((List.map QN a1)[Int.toNat (k1:Int)]?).map AV.ptr else none) (v:=.ptr (.agg [I6 x1.qf.qb,l3 none x1.qf.qa,l96 none x1.qd])) (Jn (f:=QN) hx1) (e1:=z2 [(11,.ptr (.agg [I6 x1.qf.qb,l3 none x1.qf.qa,l96 none x1.qd]))]) ?_
  let z3:=fun t=>EN ((4,.ptr (.agg [I6 x1.qf.qb,l3 none x1.qf.qa,l96 none x1.qd]))::(7,l94 none a1)::(8,I6 (a1.length:Int))::(9,I6 (k1:Int))::t)
  refine WO.fin [4,7,8,9] [4] [] [] (e2:=z3 []) (by kernel_rfl) (fun _ h=>h) ?_;refine W.seq ?_;refine W.rg ?_;refine WO.pk 2 (some (I6 ((List.map QZ x1.qd).length:Int))) (v:=I6 (x1.qd.length:Int)) (by rw[List.length_map]) (e1:=z3 [(13,.ptr (l96 none x1.qd)),(14,l96 none x1.qd),(15,I6 (x1.qd.length:Int))]) ?_
  let z4:=fun t=>z2 ((14,l96 none x1.qd)::(15,I6 (x1.qd.length:Int))::t)
  refine WO.fn (e2:=z4 [(16,.int .i64 0)]) ?_;refine W.block ?_;obtain⟨hl2,h⟩:=qh h;refine W.wk (env':=z4 [(16,I6 ((0:Nat):Int))]) ?_;refine W.range (σ:=Unit) x1.qd (fun k2 s=>z4 [(16,I6 (k2:Int))]) (fun r0 k0 s=>Jj (JO (jc (jr) r1 (k1+1))) r0 k0=some r) (fun s h=>?_) (fun x2 r2 k2 s hx2 hk2 h hN2=>?_) () h
  ·have h:Jj (JO (jc (jr) r1 (k1+1))) [] (x1.qd).length=some r:=h;rw[Jj.eq_1]at h;refine W.seq ?_;refine W.rg ?_
   let z5:=fun t=>z4 ((16,I6 ((x1.qd).length:Int))::(17,.bool false)::t)
   refine WO.pk 0 (some (.bool (decide (((x1.qd).length:Int)<(x1.qd.length:Int))))) (v:=.bool false) (by rw[jy (l:=x1.qd)]) (e1:=z5 []) ?_;refine WO.fn (e2:=z5 []) ?_;refine W.seq ?_;refine W.cb false (fun h=>Bool.noConfusion h) (fun _=>?_);refine W.exit ?_;refine W.wk (env':=z2 []) ?_;exact hK5 () h
  ·have h:Jj (JO (jc (jr) r1 (k1+1))) (x2::r2) k2=some r:=h;rw[Jj.eq_2]at h;refine W.seq ?_;refine W.rg ?_
   let z6:=fun t=>z4 ((16,I6 (k2:Int))::t)
   refine WO.pk 0 (some (.bool (decide ((k2:Int)<(x1.qd.length:Int))))) (v:=.bool true) (by rw[Jm hk2]) (e1:=z6 [(17,.bool true)]) ?_;refine WO.fn (e2:=z6 [(17,.bool true)]) ?_;refine W.seq ?_;refine W.cb true (fun _=>?_) (fun h=>Bool.noConfusion h);refine W.skip ?_;refine W.wk (env':=z6 []) ?_;refine W.seq ?_;refine W.block ?_;refine W.seq ?_;refine W.rg ?_;refine WO.pk 0 (if (0:Int)≤(k2:Int) then ((List.map QZ x1.qd)[Int.toNat (k2:Int)]?).map AV.ptr else none) (v:=.ptr (.agg [.bool x2.qn,I6 x2.qe.qb,l3 none x2.qe.qa])) (Jn (f:=QZ) hx2) (e1:=z6 [(18,.ptr (.agg [.bool x2.qn,I6 x2.qe.qb,l3 none x2.qe.qa]))]) ?_;refine WO.fin [6,7,8,9,14,15,16] [6] [] [] (e2:=[(6,.ptr (.agg [.bool x2.qn,I6 x2.qe.qb,l3 none x2.qe.qa])),(7,l94 none a1),(8,I6 (a1.length:Int)),(9,I6 (k1:Int)),(14,l96 none x1.qd),(15,I6 (x1.qd.length:Int)),(16,I6 (k2:Int))]) (by kernel_rfl) (fun _ h=>h) ?_;refine W.seq ?_;refine W.rt (e2:=z6 [(21,.bool x2.qn)]) ?_;refine W.cb x2.qn (fun hb=>?_) (fun hb=>?_)
   ·replace h:=qz hb h;refine W.seq ?_;refine W.rt (e2:=[(2,.bool false)]) ?_;refine W.wk (env':=[(2,.bool false)]) ?_;cases h;exact W.ret (show qq _ _ _=some _ by kernel_rfl)
   replace h:=qA hb h;refine W.skip ?_;refine W.wk (env':=z6 []) ?_;refine W.rg ?_;refine WO.pk 0 (some (I6 (IntKind.wrap .i64 ((k2:Int)+1)))) (v:=I6 ((k2+1:Nat):Int)) (by rw[qX hl2 hk2]) (e1:=z6 [(22,I6 ((k2+1:Nat):Int))]) ?_;refine WO.fn (e2:=z4 [(16,I6 ((k2+1:Nat):Int))]) ?_;exact hN2 () h
def JL (a1:(List Int)):Option (List Int):=chk (capOk 8 a1.length) (some a1)
theorem Zd (a1:(List Int)) (r:(List Int)) (h:JL a1=some r):Run Try.prog (.call 70 [l3 none a1] (l3 (some 1) r)):=by
 refine cW Try.func70 rfl (env0:=[(0,l3 none a1)]) ?_;unfold JL at h;obtain⟨hc,h⟩:=qh h;cases h;refine W.regS [0] [] [] [] (e2:=[(0,l3 none a1)]) (by kernel_rfl) (by kernel_rfl) ?_;refine W.seqU (e0:=[(0,l3 none a1),(3,l3 none a1),(4,.ub (M6 a1).isEmpty)]) (e2:=[(2,l3 (some 1) a1)]) (ei:=[(0,l3 none a1)]) (M6 a1).isEmpty ?_ (by kernel_rfl) (fun hp=>?_) ?_ ?_ ?_
 ·exact W.region (by kernel_rfl) (WO.end0 (e2:=[(0,l3 none a1),(3,l3 none a1),(4,.ub (M6 a1).isEmpty)]) (by kernel_rfl) ⟨rfl,rfl⟩)
 ·have hl:a1=[]:=by simpa using hp
  subst hl;refine W.regS [2] [] [] [] (e2:=[(2,.nils)]) (by kernel_rfl) (by kernel_rfl) ?_;refine W.weak [2] [] [(2,0,3,1,1)] [] (env':=[(2,l3 (some 1) [])]) (by kernel_rfl) ?_;exact W.ret ⟨rfl,rfl⟩
 ·refine W.weak [0] [] [] [] (env':=[(0,l3 none a1)]) (by kernel_rfl) ?_;exact W.skip ⟨rfl,rfl⟩
 ·refine W.seq ?_;refine W.rg ?_;refine WO.appendK 2 (d:=7) (e:=3) (s:=1) (bytes:=8) (xs:=[]) (ys:=(M6 a1)) (zs:=(M6 a1)) (env1:=[(0,l3 none a1),(5,.lst 3 1 none []),(6,l3 none a1)]) (by kernel_rfl) rfl (by rw[List.length_map];exact hc) (e1:=[(0,l3 none a1),(5,.lst 3 1 none []),(6,l3 none a1),(7,l3 (some 7) a1)]) (by kernel_rfl) ?_;refine WO.fin [2] [] [] [(7,some 1)] (e2:=[(2,l3 (some 1) a1)]) (by kernel_rfl) (fun _ h=>h) ?_;exact W.ret ⟨rfl,rfl⟩
 ·have hr:qq Try.prog Try.f70 [(2,l3 (some 1) a1)]=some (l3 (some 1) a1):=by kernel_rfl
  exact hr
def Zn (a1:rf2Atom):Option qi :=
 ((sub a1.qa 0 (if 5<(a1.qa.length:Int) then 5 else (a1.qa.length:Int))).bind fun e4=>((JL e4).bind fun w5=>(some (qi.mk a1.qb w5))))
theorem run_lw3_atom (a1:rf2Atom) (r:qi) (h:Zn a1=some r):Run Try.prog (.call 59 [.agg [I6 a1.qb,l3 none a1.qa]] (.agg [I6 r.qb,l3 none r.qa])):=by
 refine cW Try.func59 rfl (env0:=[(0,.agg [I6 a1.qb,l3 none a1.qa])]) ?_;unfold Zn at h;refine W.seq ?_
 let z0:=fun t=>EN ((1,.ptr (.agg [I6 a1.qb,l3 none a1.qa]))::(2,.box [.int .i64 0,.nils])::t)
 refine W.regT [1,2] [1] [] [] (e2:=z0 []) (by kernel_rfl) (by kernel_rfl) (fun _ h=>h) ?_;refine W.seq ?_;refine W.rg ?_
 let z1:=fun t=>z0 ((3,.ptr (I6 a1.qb))::(4,I6 a1.qb)::(5,.ptr (l3 none a1.qa))::(6,l3 none a1.qa)::(7,.ptr (l3 none a1.qa))::(8,l3 none a1.qa)::(9,I6 (a1.qa.length:Int))::t)
 refine WO.pk 6 (some (I6 ((M6 a1.qa).length:Int))) (v:=I6 (a1.qa.length:Int)) (by rw[List.length_map]) (e1:=z1 []) ?_;obtain⟨e4,he4,h⟩:=qc h
 let z2:=fun t=>z1 ((10,I6 (if 5<(a1.qa.length:Int) then 5 else (a1.qa.length:Int)))::(11,l3 none e4)::t)
 refine WO.pk 1 (if (0:Int)≤0∧0≤(if 5<(a1.qa.length:Int) then 5 else (a1.qa.length:Int))∧(if 5<(a1.qa.length:Int) then 5 else (a1.qa.length:Int))≤((M6 a1.qa).length:Int) then some (.lst 3 1 none (((M6 a1.qa).take (Int.toNat (if 5<(a1.qa.length:Int) then 5 else (a1.qa.length:Int)))).drop (Int.toNat 0))) else none) (v:=l3 none e4) (sub_av he4) (e1:=z2 []) ?_;obtain⟨w5,hw5,h⟩:=qc h;refine WO.ck 0 (F:=70) (l:=[l3 none e4]) (C:=[]) (r:=l3 (some 1) w5) (Zd e4 w5 hw5) (e1:=z2 [(12,l3 none w5)]) ?_;refine WO.fn (e2:=[(2,.box [I6 a1.qb,l3 none w5])]) ?_;refine W.wk (env':=[(2,.box [I6 a1.qb,l3 none w5])]) ?_;cases h;exact W.ret (show qq _ _ _=some _ by kernel_rfl)
def Jq (v26:(List ruRule)):Option (List ruRule) :=
 (some v26)
def Qg (v6:(List ruRule)) (N1:((List ruRule)→Option (List ruRule))) (v24:ruRule):Option (List ruRule) :=
 (chk (capOk 56 ((v6++[v24])).length) (N1 (v6++[v24])))
def Xk (v15:Int) (v16:(List Int)) (N2:(Int→(List Int)→(List ruLit)→Option (List ruRule))) (v23:(List ruLit)):Option (List ruRule) :=
 (N2 v15 v16 v23)
def JB (K13:(ruRule→Option (List ruRule))):List rf3Lit→Nat→Int→(List Int)→(List ruLit)→Option (List ruRule)
 | [],k2,v15,v16,v17=>(K13 (ruRule.mk (qi.mk v15 v16) v17))
 | x2::r2,k2,v15,v16,v17=>(bif (decide ((k2:Int)<5)) then ((Zn x2.qe).bind fun w21=>(chk (capOk 40 ((v17++[(ruLit.mk x2.qn w21)])).length) ((Xk v15 v16 (JB K13 r2 (k2+1))) (v17++[(ruLit.mk x2.qn w21)])))) else ((Xk v15 v16 (JB K13 r2 (k2+1))) v17))
def jE (K4:((List ruRule)→Option (List ruRule))):List rf3Rule→Nat→(List ruRule)→Option (List ruRule)
 | [],k1,v6=>(K4 v6)
 | x1::r1,k1,v6=>(bif (decide ((k1:Int) > 11)) then (K4 v6) else ((Zn x1.qf).bind fun w12=>(chk (lenOk x1.qd) (JB (Qg v6 (jE K4 r1 (k1+1))) x1.qd 0 w12.qb w12.qa ([]:(List ruLit))))))
def lw3_Of (a1:(List rf3Rule)):Option (List ruRule) :=
 (chk (lenOk a1) (jE (Jq) a1 0 ([]:(List ruRule))))
theorem run_lw3_Of (a1:(List rf3Rule)) (r:(List ruRule)) (h:lw3_Of a1=some r):Run Try.prog (.call 18 [l94 none a1] (l54 (some 1) r)):=by
 refine cW Try.func18 rfl (env0:=[(0,l94 none a1)]) ?_;unfold lw3_Of at h;refine W.seq ?_;refine W.rt (e2:=[(0,l94 none a1)]) ?_;refine W.seq ?_;refine W.rt (e2:=[(0,l94 none a1),(3,.nils)]) ?_;refine W.seq ?_;refine W.join (σ:=((List ruRule))) (fun s=>[(3,l54 (some 10300) s)]) (fun s=>(Jq) s=some r) (fun v26 h=>?_) (fun hK4=>?_)
 ·have h:(Jq) v26=some r:=h;unfold Jq at h;refine W.seq ?_;refine W.rt (e2:=[(2,l54 (some 10300) v26)]) ?_;refine W.weak [2] [] [] [(10300,some 1)] (env':=[(2,l54 (some 1) v26)]) (by kernel_rfl) ?_;cases h;exact W.ret (show qq _ _ _=some _ by kernel_rfl)
 refine W.seq ?_;refine W.rg ?_;refine WO.pk 1 (some (I6 ((List.map QN a1).length:Int))) (v:=I6 (a1.length:Int)) (by rw[List.length_map]) (e1:=[(0,l94 none a1),(3,.nils),(9,l94 none a1),(10,I6 (a1.length:Int))]) ?_;refine WO.fn (e2:=[(3,.nils),(9,l94 none a1),(10,I6 (a1.length:Int)),(11,.int .i64 0)]) ?_;refine W.block ?_;obtain⟨hl1,h⟩:=qh h;refine W.weak [3,9,10,11] [] [(3,0,54,3,10300)] [] (env':=[(3,l54 (some 10300) ([]:(List ruRule))),(9,l94 none a1),(10,I6 (a1.length:Int)),(11,I6 ((0:Nat):Int))]) (by kernel_rfl) ?_;refine W.range (σ:=((List ruRule))) a1 (fun k1 s=>[(3,l54 (some 10300) s),(9,l94 none a1),(10,I6 (a1.length:Int)),(11,I6 (k1:Int))]) (fun r0 k0 s=>jE (Jq) r0 k0 s=some r) (fun v6 h=>?_) (fun x1 r1 k1 s hx1 hk1 h hN1=>?_) ([]:(List ruRule)) h
 ·have h:jE (Jq) [] (a1).length v6=some r:=h;rw[jE.eq_1]at h;refine W.seq ?_;refine W.rg ?_
  let z0:=fun t=>EN ((3,l54 (some 10300) v6)::(9,l94 none a1)::(10,I6 (a1.length:Int))::(11,I6 ((a1).length:Int))::(12,.bool false)::t)
  refine WO.pk 0 (some (.bool (decide (((a1).length:Int)<(a1.length:Int))))) (v:=.bool false) (by rw[jy (l:=a1)]) (e1:=z0 []) ?_;refine WO.fn (e2:=z0 []) ?_;refine W.seq ?_;refine W.cb false (fun h=>Bool.noConfusion h) (fun _=>?_);refine W.exit ?_;refine W.wk (env':=[(3,l54 (some 10300) v6)]) ?_;exact hK4 v6 h
 ·obtain⟨v6,rfl⟩:∃ x,x=s:=⟨s,rfl⟩;have h:jE (Jq) (x1::r1) k1 v6=some r:=h;rw[jE.eq_2]at h;refine W.seq ?_;refine W.rg ?_
  let z1:=fun t=>EN ((3,l54 (some 10300) v6)::t)
  let z2:=fun t=>z1 ((9,l94 none a1)::(10,I6 (a1.length:Int))::(11,I6 (k1:Int))::t)
  refine WO.pk 0 (some (.bool (decide ((k1:Int)<(a1.length:Int))))) (v:=.bool true) (by rw[Jm hk1]) (e1:=z2 [(12,.bool true)]) ?_;refine WO.fn (e2:=z2 [(12,.bool true)]) ?_;refine W.seq ?_;refine W.cb true (fun _=>?_) (fun h=>Bool.noConfusion h);refine W.skip ?_;refine W.wk (env':=z2 []) ?_;refine W.seq ?_;refine W.block ?_;refine W.seq ?_;refine W.rg ?_;refine WO.pk 1 (if (0:Int)≤(k1:Int) then ((List.map QN a1)[Int.toNat (k1:Int)]?).map AV.ptr else none) (v:=.ptr (.agg [I6 x1.qf.qb,l3 none x1.qf.qa,l96 none x1.qd])) (Jn (f:=QN) hx1) (e1:=z2 [(13,I6 (k1:Int)),(14,.ptr (.agg [I6 x1.qf.qb,l3 none x1.qf.qa,l96 none x1.qd]))]) ?_;refine WO.fin [3,4,5,9,10,11] [5] [] [] (e2:=z1 [(4,I6 (k1:Int)),(5,.ptr (.agg [I6 x1.qf.qb,l3 none x1.qf.qa,l96 none x1.qd])),(9,l94 none a1),(10,I6 (a1.length:Int)),(11,I6 (k1:Int))]) (by kernel_rfl) (fun _ h=>h) ?_;refine W.seq ?_;refine W.seq ?_
  let z3:=fun t=>z1 ((5,.ptr (.agg [I6 x1.qf.qb,l3 none x1.qf.qa,l96 none x1.qd]))::t)
  let z4:=fun t=>z3 ((9,l94 none a1)::(10,I6 (a1.length:Int))::(11,I6 (k1:Int))::t)
  refine W.rt (e2:=z4 [(17,.bool (decide ((k1:Int) > 11)))]) ?_;refine W.cb (decide ((k1:Int) > 11)) (fun hb=>?_) (fun hb=>?_)
  ·replace h:=qz hb h;refine W.exit ?_;refine W.wk (env':=z1 []) ?_;exact hK4 v6 h
  replace h:=qA hb h;refine W.skip ?_;refine W.wk (env':=z4 []) ?_;refine W.seq ?_;refine W.rg ?_;obtain⟨w12,hw12,h⟩:=qc h;refine WO.ck 2 (F:=59) (l:=[.agg [I6 x1.qf.qb,l3 none x1.qf.qa]]) (C:=[]) (r:=.agg [I6 w12.qb,l3 none w12.qa]) (run_lw3_atom x1.qf w12 hw12) (e1:=z4 [(18,.ptr (.agg [I6 x1.qf.qb,l3 none x1.qf.qa])),(19,.agg [I6 x1.qf.qb,l3 none x1.qf.qa]),(20,.agg [I6 w12.qb,l3 none w12.qa])]) ?_
  let z5:=fun t=>z3 ((6,.box [I6 w12.qb,l3 none w12.qa,.nils])::(9,l94 none a1)::(10,I6 (a1.length:Int))::(11,I6 (k1:Int))::t)
  refine WO.fn (e2:=z5 []) ?_;refine W.seq ?_;refine W.join (σ:=(ruRule)) (fun s=>z1 [(6,.ptr (.agg [I6 s.qf.qb,l3 none s.qf.qa,l56 none s.qd])),(9,l94 none a1),(10,I6 (a1.length:Int)),(11,I6 (k1:Int))]) (fun s=>(Qg v6 (jE (Jq) r1 (k1+1))) s=some r) (fun v24 h=>?_) (fun hK13=>?_)
  ·have h:(Qg v6 (jE (Jq) r1 (k1+1))) v24=some r:=h;unfold Qg at h;refine W.rg ?_;obtain⟨hc25,h⟩:=qh h;refine WO.appendK 3 (d:=47) (e:=54) (s:=3) (bytes:=56) (xs:=(List.map jZ v6)) (ys:=(List.map jZ [v24])) (zs:=(List.map jZ (v6++[v24]))) (env1:=[(3,l54 none v6),(6,.ptr (.agg [I6 v24.qf.qb,l3 none v24.qf.qa,l56 none v24.qd])),(9,l94 none a1),(10,I6 (a1.length:Int)),(11,I6 (k1:Int)),(44,l54 none v6),(45,.agg [I6 v24.qf.qb,l3 none v24.qf.qa,l56 none v24.qd]),(46,l54 (some 46) [v24])]) (by kernel_rfl) (List.map_append.symm) (by rw[List.length_map];exact hc25) (e1:=[(3,l54 none v6),(6,.ptr (.agg [I6 v24.qf.qb,l3 none v24.qf.qa,l56 none v24.qd])),(9,l94 none a1),(10,I6 (a1.length:Int)),(11,I6 (k1:Int)),(44,l54 none v6),(45,.agg [I6 v24.qf.qb,l3 none v24.qf.qa,l56 none v24.qd]),(46,l54 (some 46) [v24]),(47,l54 (some 47) (v6++[v24]))]) (by kernel_rfl) ?_
   let z6:=fun t=>EN ((3,l54 (some 47) (v6++[v24]))::(9,l94 none a1)::(10,I6 (a1.length:Int))::(11,I6 (k1:Int))::t)
   refine WO.fn (e2:=z6 []) ?_;refine W.rg ?_;refine WO.pk 0 (some (I6 (IntKind.wrap .i64 ((k1:Int)+1)))) (v:=I6 ((k1+1:Nat):Int)) (by rw[qX hl1 hk1]) (e1:=z6 [(48,I6 ((k1+1:Nat):Int))]) ?_;refine WO.fin [3,9,10,11] [] [] [(47,some 10300)] (e2:=[(3,l54 (some 10300) (v6++[v24])),(9,l94 none a1),(10,I6 (a1.length:Int)),(11,I6 ((k1+1:Nat):Int))]) (by kernel_rfl) (fun _ h=>h) ?_;exact hN1 (v6++[v24]) h
  refine W.seq ?_;refine W.rg ?_;refine WO.pk 2 (some (I6 ((List.map QZ x1.qd).length:Int))) (v:=I6 (x1.qd.length:Int)) (by rw[List.length_map]) (e1:=z5 [(22,.ptr (l96 none x1.qd)),(23,l96 none x1.qd),(24,I6 (x1.qd.length:Int))]) ?_;refine WO.fn (e2:=z1 [(6,.box [I6 w12.qb,l3 none w12.qa,.nils]),(9,l94 none a1),(10,I6 (a1.length:Int)),(11,I6 (k1:Int)),(23,l96 none x1.qd),(24,I6 (x1.qd.length:Int)),(25,.int .i64 0)]) ?_;refine W.block ?_;obtain⟨hl2,h⟩:=qh h;refine W.weak [3,6,9,10,11,23,24,25] [] [(6,2,56,3,10602)] [] (env':=z1 [(6,.box [I6 w12.qb,l3 none w12.qa,l56 (some 10602) ([]:(List ruLit))]),(9,l94 none a1),(10,I6 (a1.length:Int)),(11,I6 (k1:Int)),(23,l96 none x1.qd),(24,I6 (x1.qd.length:Int)),(25,I6 ((0:Nat):Int))]) (by kernel_rfl) ?_;refine W.range (σ:=(Int×(List Int)×(List ruLit))) x1.qd (fun k2 s=>z1 [(6,.box [I6 s.1,l3 none s.2.1,l56 (some 10602) s.2.2]),(9,l94 none a1),(10,I6 (a1.length:Int)),(11,I6 (k1:Int)),(23,l96 none x1.qd),(24,I6 (x1.qd.length:Int)),(25,I6 (k2:Int))]) (fun r0 k0 s=>JB (Qg v6 (jE (Jq) r1 (k1+1))) r0 k0 s.1 s.2.1 s.2.2=some r) (fun s h=>?_) (fun x2 r2 k2 s hx2 hk2 h hN2=>?_) (w12.qb,w12.qa,([]:(List ruLit))) h
  ·obtain⟨v15,v16,v17⟩:=s;have h:JB (Qg v6 (jE (Jq) r1 (k1+1))) [] (x1.qd).length v15 v16 v17=some r:=h;rw[JB.eq_1]at h;refine W.seq ?_;refine W.rg ?_
   let z7:=fun t=>z1 ((6,.box [I6 v15,l3 none v16,l56 (some 10602) v17])::(9,l94 none a1)::(10,I6 (a1.length:Int))::(11,I6 (k1:Int))::(23,l96 none x1.qd)::(24,I6 (x1.qd.length:Int))::(25,I6 ((x1.qd).length:Int))::(26,.bool false)::t)
   refine WO.pk 0 (some (.bool (decide (((x1.qd).length:Int)<(x1.qd.length:Int))))) (v:=.bool false) (by rw[jy (l:=x1.qd)]) (e1:=z7 []) ?_;refine WO.fn (e2:=z7 []) ?_;refine W.seq ?_;refine W.cb false (fun h=>Bool.noConfusion h) (fun _=>?_);refine W.exit ?_;refine W.weak [3,6,9,10,11] [6] [] [] (env':=z1 [(6,.ptr (.agg [I6 (ruRule.mk (qi.mk v15 v16) v17).qf.qb,l3 none (ruRule.mk (qi.mk v15 v16) v17).qf.qa,l56 none (ruRule.mk (qi.mk v15 v16) v17).qd])),(9,l94 none a1),(10,I6 (a1.length:Int)),(11,I6 (k1:Int))]) (by kernel_rfl) ?_;exact hK13 (ruRule.mk (qi.mk v15 v16) v17) h
  ·obtain⟨v15,v16,v17⟩:=s;have h:JB (Qg v6 (jE (Jq) r1 (k1+1))) (x2::r2) k2 v15 v16 v17=some r:=h;rw[JB.eq_2]at h;refine W.seq ?_;refine W.rg ?_
   let z8:=fun t=>z1 ((6,.box [I6 v15,l3 none v16,l56 (some 10602) v17])::(9,l94 none a1)::(10,I6 (a1.length:Int))::(11,I6 (k1:Int))::(23,l96 none x1.qd)::(24,I6 (x1.qd.length:Int))::(25,I6 (k2:Int))::t)
   refine WO.pk 0 (some (.bool (decide ((k2:Int)<(x1.qd.length:Int))))) (v:=.bool true) (by rw[Jm hk2]) (e1:=z8 [(26,.bool true)]) ?_;refine WO.fn (e2:=z8 [(26,.bool true)]) ?_;refine W.seq ?_;refine W.cb true (fun _=>?_) (fun h=>Bool.noConfusion h);refine W.skip ?_;refine W.wk (env':=z8 []) ?_;refine W.seq ?_;refine W.join (σ:=((List ruLit))) (fun s=>z1 [(6,.box [I6 v15,l3 none v16,l56 (some 10602) s]),(9,l94 none a1),(10,I6 (a1.length:Int)),(11,I6 (k1:Int)),(23,l96 none x1.qd),(24,I6 (x1.qd.length:Int)),(25,I6 (k2:Int))]) (fun s=>(Xk v15 v16 (JB (Qg v6 (jE (Jq) r1 (k1+1))) r2 (k2+1))) s=some r) (fun v23 h=>?_) (fun hK18=>?_)
   ·have h:(Xk v15 v16 (JB (Qg v6 (jE (Jq) r1 (k1+1))) r2 (k2+1))) v23=some r:=h;unfold Xk at h;refine W.rg ?_
    let z9:=fun t=>z1 ((6,.box [I6 v15,l3 none v16,l56 (some 10602) v23])::(9,l94 none a1)::(10,I6 (a1.length:Int))::(11,I6 (k1:Int))::(23,l96 none x1.qd)::(24,I6 (x1.qd.length:Int))::t)
    refine WO.pk 0 (some (I6 (IntKind.wrap .i64 ((k2:Int)+1)))) (v:=I6 ((k2+1:Nat):Int)) (by rw[qX hl2 hk2]) (e1:=z9 [(25,I6 (k2:Int)),(43,I6 ((k2+1:Nat):Int))]) ?_;refine WO.fn (e2:=z9 [(25,I6 ((k2+1:Nat):Int))]) ?_;exact hN2 (v15,v16,v23) h
   refine W.block ?_;refine W.seq ?_;refine W.rg ?_;refine WO.pk 1 (if (0:Int)≤(k2:Int) then ((List.map QZ x1.qd)[Int.toNat (k2:Int)]?).map AV.ptr else none) (v:=.ptr (.agg [.bool x2.qn,I6 x2.qe.qb,l3 none x2.qe.qa])) (Jn (f:=QZ) hx2) (e1:=z8 [(27,I6 (k2:Int)),(28,.ptr (.agg [.bool x2.qn,I6 x2.qe.qb,l3 none x2.qe.qa]))]) ?_
   let z10:=fun t=>z1 ((6,.box [I6 v15,l3 none v16,l56 (some 10602) v17])::t)
   refine WO.fin [3,6,7,8,9,10,11,23,24,25] [8] [] [] (e2:=z10 [(7,I6 (k2:Int)),(8,.ptr (.agg [.bool x2.qn,I6 x2.qe.qb,l3 none x2.qe.qa])),(9,l94 none a1),(10,I6 (a1.length:Int)),(11,I6 (k1:Int)),(23,l96 none x1.qd),(24,I6 (x1.qd.length:Int)),(25,I6 (k2:Int))]) (by kernel_rfl) (fun _ h=>h) ?_;refine W.seq ?_
   let z11:=fun t=>z10 ((8,.ptr (.agg [.bool x2.qn,I6 x2.qe.qb,l3 none x2.qe.qa]))::(9,l94 none a1)::(10,I6 (a1.length:Int))::(11,I6 (k1:Int))::(23,l96 none x1.qd)::(24,I6 (x1.qd.length:Int))::(25,I6 (k2:Int))::(31,.bool (decide ((k2:Int)<5)))::t)
   refine W.rt (e2:=z11 []) ?_;refine W.cb (decide ((k2:Int)<5)) (fun hb=>?_) (fun hb=>?_)
   ·replace h:=qz hb h;refine W.rg ?_;obtain⟨w21,hw21,h⟩:=qc h;refine WO.ck 6 (F:=59) (l:=[.agg [I6 x2.qe.qb,l3 none x2.qe.qa]]) (C:=[]) (r:=.agg [I6 w21.qb,l3 none w21.qa]) (run_lw3_atom x2.qe w21 hw21) (e1:=z11 [(32,.pb 6 2),(33,l56 (some 10602) v17),(34,.ptr (.bool x2.qn)),(35,.bool x2.qn),(36,.ptr (.agg [I6 x2.qe.qb,l3 none x2.qe.qa])),(37,.agg [I6 x2.qe.qb,l3 none x2.qe.qa]),(38,.agg [I6 w21.qb,l3 none w21.qa])]) ?_;obtain⟨hc22,h⟩:=qh h;refine WO.appendK 2 (d:=41) (e:=56) (s:=3) (bytes:=40) (xs:=(List.map Qi v17)) (ys:=(List.map Qi [(ruLit.mk x2.qn w21)])) (zs:=(List.map Qi (v17++[(ruLit.mk x2.qn w21)]))) (env1:=[(3,l54 (some 10300) v6),(6,.box [I6 v15,l3 none v16,l56 none v17]),(8,.ptr (.agg [.bool x2.qn,I6 x2.qe.qb,l3 none x2.qe.qa])),(9,l94 none a1),(10,I6 (a1.length:Int)),(11,I6 (k1:Int)),(23,l96 none x1.qd),(24,I6 (x1.qd.length:Int)),(25,I6 (k2:Int)),(31,.bool (decide ((k2:Int)<5))),(32,.pb 6 2),(33,l56 none v17),(34,.ptr (.bool x2.qn)),(35,.bool x2.qn),(36,.ptr (.agg [I6 x2.qe.qb,l3 none x2.qe.qa])),(37,.agg [I6 x2.qe.qb,l3 none x2.qe.qa]),(38,.agg [I6 w21.qb,l3 none w21.qa]),(39,.agg [.bool x2.qn,I6 w21.qb,l3 none w21.qa]),(40,l56 none [(ruLit.mk x2.qn w21)])]) (by kernel_rfl) (List.map_append.symm) (by rw[List.length_map];exact hc22) (e1:=z1 [(6,.box [I6 v15,l3 none v16,l56 none v17]),(8,.ptr (.agg [.bool x2.qn,I6 x2.qe.qb,l3 none x2.qe.qa])),(9,l94 none a1),(10,I6 (a1.length:Int)),(11,I6 (k1:Int)),(23,l96 none x1.qd),(24,I6 (x1.qd.length:Int)),(25,I6 (k2:Int)),(31,.bool (decide ((k2:Int)<5))),(32,.pb 6 2),(33,l56 none v17),(34,.ptr (.bool x2.qn)),(35,.bool x2.qn),(36,.ptr (.agg [I6 x2.qe.qb,l3 none x2.qe.qa])),(37,.agg [I6 x2.qe.qb,l3 none x2.qe.qa]),(38,.agg [I6 w21.qb,l3 none w21.qa]),(39,.agg [.bool x2.qn,I6 w21.qb,l3 none w21.qa]),(40,l56 none [(ruLit.mk x2.qn w21)]),(41,l56 (some 41) (v17++[(ruLit.mk x2.qn w21)]))]) (by kernel_rfl) ?_;refine WO.fin [3,6,9,10,11,23,24,25] [] [] [(41,some 10602)] (e2:=z1 [(6,.box [I6 v15,l3 none v16,l56 (some 10602) (v17++[(ruLit.mk x2.qn w21)])]),(9,l94 none a1),(10,I6 (a1.length:Int)),(11,I6 (k1:Int)),(23,l96 none x1.qd),(24,I6 (x1.qd.length:Int)),(25,I6 (k2:Int))]) (by kernel_rfl) (fun _ h=>h) ?_;exact hK18 (v17++[(ruLit.mk x2.qn w21)]) h
   replace h:=qA hb h;refine W.skip ?_;refine W.wk (env':=z8 []) ?_;exact hK18 v17 h
def lw2_few (a1:(List Int)):Option (List Int) :=
 ((sub a1 0 (if 9<(a1.length:Int) then 9 else (a1.length:Int))).bind fun e4=>((JL e4).bind fun w5=>(some w5)))
theorem run_lw2_few (a1:(List Int)) (r:(List Int)) (h:lw2_few a1=some r):Run Try.prog (.call 60 [l3 none a1] (l3 (some 1) r)):=by
 refine cW Try.func60 rfl (env0:=[(0,l3 none a1)]) ?_;unfold lw2_few at h;refine W.seq ?_;refine W.rt (e2:=[(0,l3 none a1)]) ?_;refine W.seq ?_;refine W.rg ?_
 let z0:=fun t=>EN ((0,l3 none a1)::(3,l3 none a1)::(4,l3 none a1)::(5,I6 (a1.length:Int))::t)
 refine WO.pk 2 (some (I6 ((M6 a1).length:Int))) (v:=I6 (a1.length:Int)) (by rw[List.length_map]) (e1:=z0 []) ?_;obtain⟨e4,he4,h⟩:=qc h
 let z1:=fun t=>z0 ((6,I6 (if 9<(a1.length:Int) then 9 else (a1.length:Int)))::(7,l3 none e4)::t)
 refine WO.pk 1 (if (0:Int)≤0∧0≤(if 9<(a1.length:Int) then 9 else (a1.length:Int))∧(if 9<(a1.length:Int) then 9 else (a1.length:Int))≤((M6 a1).length:Int) then some (.lst 3 1 none (((M6 a1).take (Int.toNat (if 9<(a1.length:Int) then 9 else (a1.length:Int)))).drop (Int.toNat 0))) else none) (v:=l3 none e4) (sub_av he4) (e1:=z1 []) ?_;obtain⟨w5,hw5,h⟩:=qc h;refine WO.ck 0 (F:=70) (l:=[l3 none e4]) (C:=[]) (r:=l3 (some 1) w5) (Zd e4 w5 hw5) (e1:=z1 [(8,l3 (some 8) w5)]) ?_;refine WO.fn (e2:=[(2,l3 (some 8) w5)]) ?_;refine W.weak [2] [] [] [(8,some 1)] (env':=[(2,l3 (some 1) w5)]) (by kernel_rfl) ?_;cases h;exact W.ret (show qq _ _ _=some _ by kernel_rfl)
def Qh (v13:(List apiFact)):Option (List apiFact) :=
 (some v13)
def Jl (K4:((List apiFact)→Option (List apiFact))):List apiFact→Nat→(List apiFact)→Option (List apiFact)
 | [],k1,v6=>(K4 v6)
 | x1::r1,k1,v6=>(bif (decide ((k1:Int) > 25)) then (K4 v6) else ((lw2_few x1.qa).bind fun w11=>(chk (capOk 32 ((v6++[(apiFact.mk x1.qb w11)])).length) ((Jl K4 r1 (k1+1)) (v6++[(apiFact.mk x1.qb w11)])))))
def Zp (a1:(List apiFact)):Option (List apiFact) :=
 (chk (lenOk a1) (Jl (Qh) a1 0 ([]:(List apiFact))))
theorem run_lw2_Facts (a1:(List apiFact)) (r:(List apiFact)) (h:Zp a1=some r):Run Try.prog (.call 19 [l41 none a1] (l41 (some 1) r)):=by
 refine cW Try.func19 rfl (env0:=[(0,l41 none a1)]) ?_;unfold Zp at h;refine W.seq ?_;refine W.rt (e2:=[(0,l41 none a1)]) ?_;refine W.seq ?_;refine W.rt (e2:=[(0,l41 none a1),(3,.nils)]) ?_;refine W.seq ?_;refine W.join (σ:=((List apiFact))) (fun s=>[(3,l41 (some 10300) s)]) (fun s=>(Qh) s=some r) (fun v13 h=>?_) (fun hK4=>?_)
 ·have h:(Qh) v13=some r:=h;unfold Qh at h;refine W.seq ?_;refine W.rt (e2:=[(2,l41 (some 10300) v13)]) ?_;refine W.weak [2] [] [] [(10300,some 1)] (env':=[(2,l41 (some 1) v13)]) (by kernel_rfl) ?_;cases h;exact W.ret (show qq _ _ _=some _ by kernel_rfl)
 refine W.seq ?_;refine W.rg ?_;refine WO.pk 1 (some (I6 ((List.map qv a1).length:Int))) (v:=I6 (a1.length:Int)) (by rw[List.length_map]) (e1:=[(0,l41 none a1),(3,.nils),(6,l41 none a1),(7,I6 (a1.length:Int))]) ?_;refine WO.fn (e2:=[(3,.nils),(6,l41 none a1),(7,I6 (a1.length:Int)),(8,.int .i64 0)]) ?_;refine W.block ?_;obtain⟨hl1,h⟩:=qh h;refine W.weak [3,6,7,8] [] [(3,0,41,2,10300)] [] (env':=[(3,l41 (some 10300) ([]:(List apiFact))),(6,l41 none a1),(7,I6 (a1.length:Int)),(8,I6 ((0:Nat):Int))]) (by kernel_rfl) ?_;refine W.range (σ:=((List apiFact))) a1 (fun k1 s=>[(3,l41 (some 10300) s),(6,l41 none a1),(7,I6 (a1.length:Int)),(8,I6 (k1:Int))]) (fun r0 k0 s=>Jl (Qh) r0 k0 s=some r) (fun v6 h=>?_) (fun x1 r1 k1 s hx1 hk1 h hN1=>?_) ([]:(List apiFact)) h
 ·have h:Jl (Qh) [] (a1).length v6=some r:=h;rw[Jl.eq_1]at h;refine W.seq ?_;refine W.rg ?_
  let z0:=fun t=>EN ((3,l41 (some 10300) v6)::(6,l41 none a1)::(7,I6 (a1.length:Int))::(8,I6 ((a1).length:Int))::(9,.bool false)::t)
  refine WO.pk 0 (some (.bool (decide (((a1).length:Int)<(a1.length:Int))))) (v:=.bool false) (by rw[jy (l:=a1)]) (e1:=z0 []) ?_;refine WO.fn (e2:=z0 []) ?_;refine W.seq ?_;refine W.cb false (fun h=>Bool.noConfusion h) (fun _=>?_);refine W.exit ?_;refine W.wk (env':=[(3,l41 (some 10300) v6)]) ?_;exact hK4 v6 h
 ·obtain⟨v6,rfl⟩:∃ x,x=s:=⟨s,rfl⟩;have h:Jl (Qh) (x1::r1) k1 v6=some r:=h;rw[Jl.eq_2]at h;refine W.seq ?_;refine W.rg ?_
  let z1:=fun t=>EN ((3,l41 (some 10300) v6)::(6,l41 none a1)::(7,I6 (a1.length:Int))::(8,I6 (k1:Int))::t)
  refine WO.pk 0 (some (.bool (decide ((k1:Int)<(a1.length:Int))))) (v:=.bool true) (by rw[Jm hk1]) (e1:=z1 [(9,.bool true)]) ?_;refine WO.fn (e2:=z1 [(9,.bool true)]) ?_;refine W.seq ?_;refine W.cb true (fun _=>?_) (fun h=>Bool.noConfusion h);refine W.skip ?_;refine W.wk (env':=z1 []) ?_;refine W.seq ?_;refine W.block ?_;refine W.seq ?_;refine W.rg ?_;refine WO.pk 1 (if (0:Int)≤(k1:Int) then ((List.map qv a1)[Int.toNat (k1:Int)]?).map AV.ptr else none) (v:=.ptr (.agg [I6 x1.qb,l3 none x1.qa])) (Jn (f:=qv) hx1) (e1:=z1 [(10,I6 (k1:Int)),(11,.ptr (.agg [I6 x1.qb,l3 none x1.qa]))]) ?_
  let z2:=fun t=>EN ((3,l41 (some 10300) v6)::t)
  refine WO.fin [3,4,5,6,7,8] [5] [] [] (e2:=z2 [(4,I6 (k1:Int)),(5,.ptr (.agg [I6 x1.qb,l3 none x1.qa])),(6,l41 none a1),(7,I6 (a1.length:Int)),(8,I6 (k1:Int))]) (by kernel_rfl) (fun _ h=>h) ?_;refine W.seq ?_;refine W.seq ?_
  let z3:=fun t=>z2 ((5,.ptr (.agg [I6 x1.qb,l3 none x1.qa]))::(6,l41 none a1)::(7,I6 (a1.length:Int))::(8,I6 (k1:Int))::t)
  refine W.rt (e2:=z3 [(14,.bool (decide ((k1:Int) > 25)))]) ?_;refine W.cb (decide ((k1:Int) > 25)) (fun hb=>?_) (fun hb=>?_)
  ·replace h:=qz hb h;refine W.exit ?_;refine W.wk (env':=z2 []) ?_;exact hK4 v6 h
  replace h:=qA hb h;refine W.skip ?_;refine W.wk (env':=z3 []) ?_;refine W.rg ?_;obtain⟨w11,hw11,h⟩:=qc h;refine WO.ck 5 (F:=60) (l:=[l3 none x1.qa]) (C:=[]) (r:=l3 (some 1) w11) (run_lw2_few x1.qa w11 hw11) (e1:=z3 [(15,l41 (some 10300) v6),(16,.ptr (I6 x1.qb)),(17,I6 x1.qb),(18,.ptr (l3 none x1.qa)),(19,l3 none x1.qa),(20,l3 none w11)]) ?_;obtain⟨hc12,h⟩:=qh h;refine WO.appendK 2 (d:=23) (e:=41) (s:=2) (bytes:=32) (xs:=(List.map qv v6)) (ys:=(List.map qv [(apiFact.mk x1.qb w11)])) (zs:=(List.map qv (v6++[(apiFact.mk x1.qb w11)]))) (env1:=[(3,l41 none v6),(5,.ptr (.agg [I6 x1.qb,l3 none x1.qa])),(6,l41 none a1),(7,I6 (a1.length:Int)),(8,I6 (k1:Int)),(15,l41 none v6),(16,.ptr (I6 x1.qb)),(17,I6 x1.qb),(18,.ptr (l3 none x1.qa)),(19,l3 none x1.qa),(20,l3 none w11),(21,.agg [I6 x1.qb,l3 none w11]),(22,l41 none [(apiFact.mk x1.qb w11)])]) (by kernel_rfl) (List.map_append.symm) (by rw[List.length_map];exact hc12) (e1:=[(3,l41 none v6),(5,.ptr (.agg [I6 x1.qb,l3 none x1.qa])),(6,l41 none a1),(7,I6 (a1.length:Int)),(8,I6 (k1:Int)),(15,l41 none v6),(16,.ptr (I6 x1.qb)),(17,I6 x1.qb),(18,.ptr (l3 none x1.qa)),(19,l3 none x1.qa),(20,l3 none w11),(21,.agg [I6 x1.qb,l3 none w11]),(22,l41 none [(apiFact.mk x1.qb w11)]),(23,l41 (some 23) (v6++[(apiFact.mk x1.qb w11)]))]) (by kernel_rfl) ?_
  let z4:=fun t=>EN ((3,l41 (some 23) (v6++[(apiFact.mk x1.qb w11)]))::(6,l41 none a1)::(7,I6 (a1.length:Int))::(8,I6 (k1:Int))::t)
  refine WO.fn (e2:=z4 []) ?_;refine W.rg ?_;refine WO.pk 0 (some (I6 (IntKind.wrap .i64 ((k1:Int)+1)))) (v:=I6 ((k1+1:Nat):Int)) (by rw[qX hl1 hk1]) (e1:=z4 [(24,I6 ((k1+1:Nat):Int))]) ?_;refine WO.fin [3,6,7,8] [] [] [(23,some 10300)] (e2:=[(3,l41 (some 10300) (v6++[(apiFact.mk x1.qb w11)])),(6,l41 none a1),(7,I6 (a1.length:Int)),(8,I6 ((k1+1:Nat):Int))]) (by kernel_rfl) (fun _ h=>h) ?_;exact hN1 (v6++[(apiFact.mk x1.qb w11)]) h
def qP:Option Bool :=
 (some true)
def qF (a2:(List apiFact)) (g3:(apiFact→apiFact→Option Bool)) (K8:(Option Bool)):List apiFact→Nat→Option Bool
 | [],k1=>K8
 | x1::r1,k1=>((idx a2 (k1:Int)).bind fun e13=>((g3 x1 e13).bind fun w15=>(bif (!w15) then (some false) else (qF a2 g3 K8 r1 (k1+1)))))
def JK (a1:(List apiFact)) (a2:(List apiFact)) (g3:(apiFact→apiFact→Option Bool)):Option Bool :=
 (bif ((a1.length:Int) != (a2.length:Int)) then (some false) else (chk (lenOk a1) (qF a2 g3 (qP) a1 0)))
theorem YQ (a1:(List apiFact)) (a2:(List apiFact)) (g3:(apiFact→apiFact→Option Bool)) (F_g3:Nat) (C_g3:List AV) (hok_g3:okFn Try.prog F_g3=true) (hrun_g3:∀ (x0:apiFact) (x1:apiFact) r,g3 x0 x1=some r→Run Try.prog (.call F_g3 ([.agg [I6 x0.qb,l3 none x0.qa],.agg [I6 x1.qb,l3 none x1.qa]]++C_g3) (.bool r))) (r:Bool) (h:JK a1 a2 g3=some r):Run Try.prog (.call 65 [l41 none a1,l41 none a2,.clo F_g3 C_g3] (.bool r)):=by
 refine cW Try.func65 rfl (env0:=[(0,l41 none a1),(1,l41 none a2),(2,.clo F_g3 C_g3)]) ?_;unfold JK at h;refine W.seq ?_
 let z0:=fun t=>EN ((0,l41 none a1)::(1,l41 none a2)::(2,.clo F_g3 C_g3)::t)
 refine W.rt (e2:=z0 []) ?_;refine W.seq ?_;refine W.seq ?_;refine W.rg ?_
 let z1:=fun t=>z0 ((10,l41 none a1)::(11,I6 (a1.length:Int))::t)
 refine WO.pk 1 (some (I6 ((List.map qv a1).length:Int))) (v:=I6 (a1.length:Int)) (by rw[List.length_map]) (e1:=z1 []) ?_;refine WO.pk 1 (some (I6 ((List.map qv a2).length:Int))) (v:=I6 (a2.length:Int)) (by rw[List.length_map]) (e1:=z1 [(12,l41 none a2),(13,I6 (a2.length:Int))]) ?_;refine WO.fn (e2:=z0 [(14,.bool ((a1.length:Int) != (a2.length:Int)))]) ?_;refine W.cb ((a1.length:Int) != (a2.length:Int)) (fun hb=>?_) (fun hb=>?_)
 ·replace h:=qz hb h;refine W.seq ?_;refine W.rt (e2:=[(6,.bool false)]) ?_;refine W.wk (env':=[(6,.bool false)]) ?_;cases h;exact W.ret (show qq _ _ _=some _ by kernel_rfl)
 replace h:=qA hb h;refine W.skip ?_;refine W.wk (env':=z0 []) ?_;refine W.seq ?_;refine W.join (σ:=Unit) (fun s=>[]) (fun s=>(qP)=some r) (fun s h=>?_) (fun hK8=>?_)
 ·have h:(qP)=some r:=h;unfold qP at h;refine W.seq ?_;refine W.rt (e2:=[(6,.bool true)]) ?_;refine W.wk (env':=[(6,.bool true)]) ?_;cases h;exact W.ret (show qq _ _ _=some _ by kernel_rfl)
 refine W.seq ?_;refine W.rg ?_;refine WO.pk 1 (some (I6 ((List.map qv a1).length:Int))) (v:=I6 (a1.length:Int)) (by rw[List.length_map]) (e1:=z0 [(15,l41 none a1),(16,I6 (a1.length:Int))]) ?_
 let z2:=fun t=>EN ((1,l41 none a2)::(2,.clo F_g3 C_g3)::(15,l41 none a1)::(16,I6 (a1.length:Int))::t)
 refine WO.fn (e2:=z2 [(17,.int .i64 0)]) ?_;refine W.block ?_;obtain⟨hl1,h⟩:=qh h;refine W.wk (env':=z2 [(17,I6 ((0:Nat):Int))]) ?_;refine W.range (σ:=Unit) a1 (fun k1 s=>z2 [(17,I6 (k1:Int))]) (fun r0 k0 s=>qF a2 g3 (qP) r0 k0=some r) (fun s h=>?_) (fun x1 r1 k1 s hx1 hk1 h hN1=>?_) () h
 ·have h:qF a2 g3 (qP) [] (a1).length=some r:=h;rw[qF.eq_1]at h;refine W.seq ?_;refine W.rg ?_
  let z3:=fun t=>z2 ((17,I6 ((a1).length:Int))::(18,.bool false)::t)
  refine WO.pk 0 (some (.bool (decide (((a1).length:Int)<(a1.length:Int))))) (v:=.bool false) (by rw[jy (l:=a1)]) (e1:=z3 []) ?_;refine WO.fn (e2:=z3 []) ?_;refine W.seq ?_;refine W.cb false (fun h=>Bool.noConfusion h) (fun _=>?_);refine W.exit ?_;refine W.wk (env':=[]) ?_;exact hK8 () h
 ·have h:qF a2 g3 (qP) (x1::r1) k1=some r:=h;rw[qF.eq_2]at h;refine W.seq ?_;refine W.rg ?_
  let z4:=fun t=>z2 ((17,I6 (k1:Int))::t)
  refine WO.pk 0 (some (.bool (decide ((k1:Int)<(a1.length:Int))))) (v:=.bool true) (by rw[Jm hk1]) (e1:=z4 [(18,.bool true)]) ?_;refine WO.fn (e2:=z4 [(18,.bool true)]) ?_;refine W.seq ?_;refine W.cb true (fun _=>?_) (fun h=>Bool.noConfusion h);refine W.skip ?_;refine W.wk (env':=z4 []) ?_;refine W.seq ?_;refine W.block ?_;refine W.seq ?_;refine W.rg ?_;refine WO.pk 1 (if (0:Int)≤(k1:Int) then ((List.map qv a1)[Int.toNat (k1:Int)]?).map AV.ptr else none) (v:=.ptr (.agg [I6 x1.qb,l3 none x1.qa])) (Jn (f:=qv) hx1) (e1:=z4 [(19,I6 (k1:Int)),(20,.ptr (.agg [I6 x1.qb,l3 none x1.qa]))]) ?_
  let z5:=fun t=>EN ((1,l41 none a2)::(2,.clo F_g3 C_g3)::t)
  let z6:=fun t=>z5 ((7,I6 (k1:Int))::(8,.ptr (.agg [I6 x1.qb,l3 none x1.qa]))::(15,l41 none a1)::(16,I6 (a1.length:Int))::(17,I6 (k1:Int))::t)
  refine WO.fin [1,2,7,8,15,16,17] [8] [] [] (e2:=z6 []) (by kernel_rfl) (fun _ h=>h) ?_;refine W.seq ?_;refine W.rg ?_;obtain⟨e13,he13,h⟩:=qc h;refine WO.pk 2 (if (0:Int)≤(k1:Int) then ((List.map qv a2)[Int.toNat (k1:Int)]?).map AV.ptr else none) (v:=.ptr (.agg [I6 e13.qb,l3 none e13.qa])) (idx_av (f:=qv) he13) (e1:=z6 [(22,l41 none a2),(23,I6 (k1:Int)),(24,.ptr (.agg [I6 e13.qb,l3 none e13.qa]))]) ?_
  let z7:=fun t=>z5 ((8,.ptr (.agg [I6 x1.qb,l3 none x1.qa]))::(9,.ptr (.agg [I6 e13.qb,l3 none e13.qa]))::(15,l41 none a1)::(16,I6 (a1.length:Int))::(17,I6 (k1:Int))::t)
  refine WO.fin [1,2,8,9,15,16,17] [9] [] [] (e2:=z7 []) (by kernel_rfl) (fun _ h=>h) ?_;refine W.seq ?_;refine W.rg ?_;obtain⟨w15,hw15,h⟩:=qc h;refine WO.callK 3 (F:=F_g3) (l:=[.agg [I6 x1.qb,l3 none x1.qa],.agg [I6 e13.qb,l3 none e13.qa]]) (C:=C_g3) (r:=.bool w15) (by kernel_rfl) hok_g3 (hrun_g3 x1 e13 w15 hw15) (e1:=z7 [(26,.clo F_g3 C_g3),(27,.agg [I6 x1.qb,l3 none x1.qa]),(28,.agg [I6 e13.qb,l3 none e13.qa]),(29,.bool w15)]) (by kernel_rfl) ?_;refine WO.fn (e2:=z4 [(30,.bool (!w15))]) ?_;refine W.cb (!w15) (fun hb=>?_) (fun hb=>?_)
  ·replace h:=qz hb h;refine W.seq ?_;refine W.rt (e2:=[(6,.bool false)]) ?_;refine W.wk (env':=[(6,.bool false)]) ?_;cases h;exact W.ret (show qq _ _ _=some _ by kernel_rfl)
  replace h:=qA hb h;refine W.skip ?_;refine W.wk (env':=z4 []) ?_;refine W.rg ?_;refine WO.pk 0 (some (I6 (IntKind.wrap .i64 ((k1:Int)+1)))) (v:=I6 ((k1+1:Nat):Int)) (by rw[qX hl1 hk1]) (e1:=z4 [(31,I6 ((k1+1:Nat):Int))]) ?_;refine WO.fn (e2:=z2 [(17,I6 ((k1+1:Nat):Int))]) ?_;exact hN1 () h
def jY:Option Bool :=
 (some true)
def jp (a2:(List Int)) (K7:(Option Bool)):List Int→Nat→Option Bool
 | [],k1=>K7
 | x1::r1,k1=>((idx a2 (k1:Int)).bind fun e12=>(bif (x1 != e12) then (some false) else (jp a2 K7 r1 (k1+1))))
def Yd (a1:(List Int)) (a2:(List Int)):Option Bool :=
 (bif ((a1.length:Int) != (a2.length:Int)) then (some false) else (chk (lenOk a1) (jp a2 (jY) a1 0)))
theorem run_sl_Equal_int (a1:(List Int)) (a2:(List Int)) (r:Bool) (h:Yd a1 a2=some r):Run Try.prog (.call 34 [l3 none a1,l3 none a2] (.bool r)):=by
 refine cW Try.func34 rfl (env0:=[(0,l3 none a1),(1,l3 none a2)]) ?_;unfold Yd at h;refine W.seq ?_
 let z0:=fun t=>EN ((0,l3 none a1)::(1,l3 none a2)::t)
 refine W.rt (e2:=z0 []) ?_;refine W.seq ?_;refine W.seq ?_;refine W.rg ?_
 let z1:=fun t=>z0 ((6,l3 none a1)::(7,I6 (a1.length:Int))::t)
 refine WO.pk 1 (some (I6 ((M6 a1).length:Int))) (v:=I6 (a1.length:Int)) (by rw[List.length_map]) (e1:=z1 []) ?_;refine WO.pk 1 (some (I6 ((M6 a2).length:Int))) (v:=I6 (a2.length:Int)) (by rw[List.length_map]) (e1:=z1 [(8,l3 none a2),(9,I6 (a2.length:Int))]) ?_;refine WO.fn (e2:=z0 [(10,.bool ((a1.length:Int) != (a2.length:Int)))]) ?_;refine W.cb ((a1.length:Int) != (a2.length:Int)) (fun hb=>?_) (fun hb=>?_)
 ·replace h:=qz hb h;refine W.seq ?_;refine W.rt (e2:=[(4,.bool false)]) ?_;refine W.wk (env':=[(4,.bool false)]) ?_;cases h;exact W.ret (show qq _ _ _=some _ by kernel_rfl)
 replace h:=qA hb h;refine W.skip ?_;refine W.wk (env':=z0 []) ?_;refine W.seq ?_;refine W.join (σ:=Unit) (fun s=>[]) (fun s=>(jY)=some r) (fun s h=>?_) (fun hK7=>?_)
 ·have h:(jY)=some r:=h;unfold jY at h;refine W.seq ?_;refine W.rt (e2:=[(4,.bool true)]) ?_;refine W.wk (env':=[(4,.bool true)]) ?_;cases h;exact W.ret (show qq _ _ _=some _ by kernel_rfl)
 refine W.seq ?_;refine W.rg ?_;refine WO.pk 1 (some (I6 ((M6 a1).length:Int))) (v:=I6 (a1.length:Int)) (by rw[List.length_map]) (e1:=z0 [(11,l3 none a1),(12,I6 (a1.length:Int))]) ?_
 let z2:=fun t=>z0 ((12,I6 (a1.length:Int))::t)
 refine WO.fn (e2:=z2 [(13,.int .i64 0)]) ?_;refine W.block ?_;obtain⟨hl1,h⟩:=qh h;refine W.wk (env':=z2 [(13,I6 ((0:Nat):Int))]) ?_;refine W.range (σ:=Unit) a1 (fun k1 s=>z2 [(13,I6 (k1:Int))]) (fun r0 k0 s=>jp a2 (jY) r0 k0=some r) (fun s h=>?_) (fun x1 r1 k1 s hx1 hk1 h hN1=>?_) () h
 ·have h:jp a2 (jY) [] (a1).length=some r:=h;rw[jp.eq_1]at h;refine W.seq ?_;refine W.rg ?_
  let z3:=fun t=>z2 ((13,I6 ((a1).length:Int))::(14,.bool false)::t)
  refine WO.pk 0 (some (.bool (decide (((a1).length:Int)<(a1.length:Int))))) (v:=.bool false) (by rw[jy (l:=a1)]) (e1:=z3 []) ?_;refine WO.fn (e2:=z3 []) ?_;refine W.seq ?_;refine W.cb false (fun h=>Bool.noConfusion h) (fun _=>?_);refine W.exit ?_;refine W.wk (env':=[]) ?_;exact hK7 () h
 ·have h:jp a2 (jY) (x1::r1) k1=some r:=h;rw[jp.eq_2]at h;refine W.seq ?_;refine W.rg ?_
  let z4:=fun t=>z2 ((13,I6 (k1:Int))::t)
  refine WO.pk 0 (some (.bool (decide ((k1:Int)<(a1.length:Int))))) (v:=.bool true) (by rw[Jm hk1]) (e1:=z4 [(14,.bool true)]) ?_;refine WO.fn (e2:=z4 [(14,.bool true)]) ?_;refine W.seq ?_;refine W.cb true (fun _=>?_) (fun h=>Bool.noConfusion h);refine W.skip ?_;refine W.wk (env':=z4 []) ?_;refine W.seq ?_;refine W.block ?_;refine W.seq ?_
  let z5:=fun t=>z0 ((5,I6 (k1:Int))::(12,I6 (a1.length:Int))::(13,I6 (k1:Int))::t)
  refine W.rt (e2:=z5 []) ?_;refine W.seq ?_;refine W.rg ?_
  let z6:=fun t=>z5 ((16,l3 none a1)::(17,I6 (k1:Int))::(18,.ptr (I6 x1))::t)
  refine WO.pk 2 (if (0:Int)≤(k1:Int) then ((M6 a1)[Int.toNat (k1:Int)]?).map AV.ptr else none) (v:=.ptr (I6 x1)) (Jn (f:=(AV.int .i64)) hx1) (e1:=z6 []) ?_;obtain⟨e12,he12,h⟩:=qc h;refine WO.pk 3 (if (0:Int)≤(k1:Int) then ((M6 a2)[Int.toNat (k1:Int)]?).map AV.ptr else none) (v:=.ptr (I6 e12)) (idx_av (f:=(AV.int .i64)) he12) (e1:=z6 [(19,I6 x1),(20,l3 none a2),(21,I6 (k1:Int)),(22,.ptr (I6 e12))]) ?_;refine WO.fn (e2:=z4 [(24,.bool (x1 != e12))]) ?_;refine W.cb (x1 != e12) (fun hb=>?_) (fun hb=>?_)
  ·replace h:=qz hb h;refine W.seq ?_;refine W.rt (e2:=[(4,.bool false)]) ?_;refine W.wk (env':=[(4,.bool false)]) ?_;cases h;exact W.ret (show qq _ _ _=some _ by kernel_rfl)
  replace h:=qA hb h;refine W.skip ?_;refine W.wk (env':=z4 []) ?_;refine W.rg ?_;refine WO.pk 0 (some (I6 (IntKind.wrap .i64 ((k1:Int)+1)))) (v:=I6 ((k1+1:Nat):Int)) (by rw[qX hl1 hk1]) (e1:=z4 [(25,I6 ((k1+1:Nat):Int))]) ?_;refine WO.fn (e2:=z2 [(13,I6 ((k1+1:Nat):Int))]) ?_;exact hN1 () h
def QW (v6:Bool):Option Bool :=
 (some v6)
def Xl (a1:apiFact) (a2:apiFact):Option Bool :=
 (bif (a1.qb == a2.qb) then ((Yd a1.qa a2.qa).bind fun w5=>((QW) w5)) else ((QW) false))
theorem run_lw2_Same_1 (a1:apiFact) (a2:apiFact) (r:Bool) (h:Xl a1 a2=some r):Run Try.prog (.call 66 [.agg [I6 a1.qb,l3 none a1.qa],.agg [I6 a2.qb,l3 none a2.qa]] (.bool r)):=by
 refine cW Try.func66 rfl (env0:=[(0,.agg [I6 a1.qb,l3 none a1.qa]),(1,.agg [I6 a2.qb,l3 none a2.qa])]) ?_;unfold Xl at h;refine W.seq ?_
 let z0:=fun t=>EN ((2,.ptr (.agg [I6 a1.qb,l3 none a1.qa]))::(3,.ptr (.agg [I6 a2.qb,l3 none a2.qa]))::t)
 refine W.regT [2,3] [2,3] [] [] (e2:=z0 []) (by kernel_rfl) (by kernel_rfl) (fun _ h=>h) ?_;refine W.seq ?_;refine W.join (σ:=(Bool)) (fun s=>[(4,.bool s)]) (fun s=>(QW) s=some r) (fun v6 h=>?_) (fun hK4=>?_)
 ·have h:(QW) v6=some r:=h;unfold QW at h;refine W.wk (env':=[(4,.bool v6)]) ?_;cases h;exact W.ret (show qq _ _ _=some _ by kernel_rfl)
 refine W.rg ?_
 let z1:=fun t=>z0 ((5,.ptr (I6 a1.qb))::(6,I6 a1.qb)::(7,.ptr (I6 a2.qb))::(8,I6 a2.qb)::t)
 refine WO.bk 6 (fun b=>z1 [(9,.bool b),(10,.bool b)]) (a1.qb == a2.qb) (fun hb=>?_) (fun hb=>?_)
 ·replace h:=qz hb h;obtain⟨w5,hw5,h⟩:=qc h;refine WO.ck 4 (F:=34) (l:=[l3 none a1.qa,l3 none a2.qa]) (C:=[]) (r:=.bool w5) (run_sl_Equal_int a1.qa a2.qa w5 hw5) (e1:=z1 [(9,.bool true),(10,.bool true),(11,.ptr (l3 none a1.qa)),(12,l3 none a1.qa),(13,.ptr (l3 none a2.qa)),(14,l3 none a2.qa),(15,.bool w5)]) ?_;refine WO.fn (e2:=[(4,.bool w5)]) ?_;exact hK4 w5 h
 replace h:=qA hb h;refine WO.fn (e2:=[(4,.bool false)]) ?_;exact hK4 false h
def Zo (a1:(List apiFact)) (a2:(List apiFact)):Option Bool :=
 ((JK a1 a2 (fun y0 y1=>Xl y0 y1)).bind fun w5=>(some w5))
theorem run_lw2_Same (a1:(List apiFact)) (a2:(List apiFact)) (r:Bool) (h:Zo a1 a2=some r):Run Try.prog (.call 23 [l41 none a1,l41 none a2] (.bool r)):=by
 refine cW Try.func23 rfl (env0:=[(0,l41 none a1),(1,l41 none a2)]) ?_;unfold Zo at h;refine W.seq ?_;refine W.rt (e2:=[(0,l41 none a1),(1,l41 none a2)]) ?_;refine W.seq ?_;refine W.rg ?_;obtain⟨w5,hw5,h⟩:=qc h;refine WO.ck 2 (F:=65) (l:=[l41 none a1,l41 none a2,.clo 66 []]) (C:=[]) (r:=.bool w5) (YQ a1 a2 (fun y0 y1=>Xl y0 y1) 66 [] (by kernel_rfl) (fun y0 y1 r h=>run_lw2_Same_1 y0 y1 r h) w5 hw5) (e1:=[(0,l41 none a1),(1,l41 none a2),(5,l41 none a1),(6,l41 none a2),(7,.bool w5)]) ?_;refine WO.fn (e2:=[(4,.bool w5)]) ?_;refine W.wk (env':=[(4,.bool w5)]) ?_;cases h;exact W.ret (show qq _ _ _=some _ by kernel_rfl)
end Go.AM
