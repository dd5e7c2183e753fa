import Derived.Test.YtoiejpkfpjingaaHD1
import Derived.Test.YtoiejpkfpjingaaHDT
set_option linter.all false
set_option maxRecDepth 100000
open Int renaming toNat→A0
open Option renaming bind_some→A1
open List renaming length_map→A2, map→A4, map_cons→A6, length_append→A7, map_nil→A8, append_assoc→B5, any_cons→B6, mem_cons_of_mem→B9, mem_cons_self→C4, map_map→C5, nil_append→C7, length_singleton→C8, take_of_length_le→D0, singleton_append→D1, mem_of_getElem?→D2, mem_append_left→D3
open Bool renaming and_eq_true→A3, or_eq_false_iff→B7, true_and→C6
open Nat renaming le_of_ble_eq_true→A5, ble_eq_true_of_le→A9
namespace Go.AM
open Go.Proofs
def bigFuel:Nat:=36893488147419103232
theorem jv {α:Type} {l:List α} (h:l.length≤9223372036854775807):lenOk l=true:=A9 (by omega)
theorem qx {α:Type} {x:Option α}:chk true x=x:=rfl
theorem wr {i:Int} (h1 : -9000000000000000000≤i) (h2:i≤9000000000000000000):IntKind.wrap .i64 i=i:=qeJ (by omega) (by omega)
theorem capS {b n:Nat} (hb:b≤1000) (hn:n≤100000):capOk b n=true:=by
 have:n * b≤100000 * 1000:=Nat.mul_le_mul hn hb;simp only[capOk,A3,Nat.ble_eq];omega
theorem wf6 {i:Int} (h1 : -1000≤i) (h2:i≤1000):wfI .i64 i=true:=by
 unfold wfI Lit.wf;simp[IntKind.min,IntKind.max,IntKind.signed,IntKind.bits];omega
theorem UZ {α:Type} (p q:List α):sub (p++q) 0 ((p.length:Nat):Int)=some p:=by
 unfold sub;rw[if_pos ⟨by omega,by omega,by simp;omega⟩];simp
theorem DS {α:Type} {l:List α} {i:Nat} {x:α} (h:l[i]? = some x):idx l ((i:Nat):Int)=some x:=by
 unfold idx;rw[if_pos (Int.natCast_nonneg _),Int.toNat_natCast];exact h
theorem NZ {V:Type} (z v:V) (k t:Int):∀ l:List (Int×V),mget keq1 z t (mset keq1 k v l)=if k=t then v else mget keq1 z t l
 | []=>by
  unfold mset mget mget keq1;by_cases h:k=t
  ·subst h;simp
  ·have:(k == t)=false:=beq_eq_false_iff_ne.2 h;rw[this,if_neg h];rfl
 | p::r=>by
  have ih:=NZ z v k t r;unfold mset;by_cases hk:p.1=k
  ·have e1:keq1 p.1 k=true:=by unfold keq1;simp[hk]
   rw[e1];simp only[cT];unfold mget;have e2:keq1 (p.1,v).1 t=keq1 p.1 t:=rfl;rw[e2];by_cases h:k=t
   ·rw[if_pos h]
    have:keq1 p.1 t=true:=by unfold keq1;simp[hk,h]
    rw[this];rfl
   ·rw[if_neg h]
    have:keq1 p.1 t=false:=by unfold keq1;rw[hk];exact beq_eq_false_iff_ne.2 h
    rw[this];rfl
  ·have e1:keq1 p.1 k=false:=by unfold keq1;exact beq_eq_false_iff_ne.2 hk
   rw[e1];simp only[cN];unfold mget;rw[ih];by_cases hp:p.1=t
   ·have e2:keq1 p.1 t=true:=by unfold keq1;simp[hp]
    have h:¬ k=t:=fun e=>hk (by rw[hp,e])
    simp only[e2,if_neg h]
   ·have e2:keq1 p.1 t=false:=by unfold keq1;exact beq_eq_false_iff_ne.2 hp
    rw[e2];rfl
theorem qdj {V:Type} (k:Int) (v:V):∀ l:List (Int×V),(mset keq1 k v l).length≤l.length+1
 | []=>by simp[mset]
 | p::r=>by
  have:=qdj k v r;unfold mset;cases keq1 p.1 k <;> simp <;> omega
def cv (x:rf5Op):hsOp:=hsOp.mk x.qb x.qh x.qi
theorem qhV (K:List hsOp→Option (List hsOp)):∀ (r:List rf5Op) (k:Nat) (v:List hsOp),v.length=k→k≤43→Xv K r k v=K (v++(r.take (43 - k)).map cv)
 | [],k,v,hv,hk=>by rw[Xv.eq_1];simp
 | x::r,k,v,hv,hk=>by
  rw[Xv.eq_2];by_cases h:k=43
  ·subst h;rw[dT (by omega)];simp
  ·rw[dF (by omega),capS (by omega) (by simp;omega)];simp only[cN,qx];rw[qhV K r (k+1) _ (by simp;omega) (by omega)]
   have:43 - k=(43 - (k+1))+1:=by omega
   rw[this,List.take_succ_cons,A6,B5];rfl
theorem qhX {h:List rf5Op} (hl:lenOk h=true):DM h=some ((h.take 43).map cv):=by
 unfold DM;rw[hl,qx,qhV _ h 0 [] rfl (by omega)];rfl
def bad6 (x:rf5Op):Bool:=decide (x.qb<1) || (decide (x.qb > 6) || (decide (x.qh<0) || (decide (x.qh > 3) || (decide (x.qi<0) || decide (x.qi > 5)))))
def ended (t:Int) (l:List rf5Op):Bool:=l.any fun p=>(p.qb == t) && decide (p.qh > 1)
def okFrom (pre:List rf5Op):List rf5Op→Bool
 | []=>true
 | x::r=>(!bad6 x && (!(decide (x.qh > 1) && (x.qi != 0)) && !ended x.qb pre)) && okFrom (pre++[x]) r
theorem chain6 {β:Type} (a z:β) (d1 d2 d3 d4 d5 d6:Bool):(bif d1 then a else bif d2 then a else bif d3 then a else bif d4 then a else bif d5 then a else bif d6 then a else z)=bif (d1 || (d2 || (d3 || (d4 || (d5 || d6))))) then a else z:=by
 cases d1 <;> cases d2 <;> cases d3 <;> cases d4 <;> cases d5 <;> cases d6 <;> rfl
theorem qaT (x:rf5Op) (K:Option Bool):∀ (e:List rf5Op) (k:Nat),Qf x K e k=bif ended x.qb e then some false else K
 | [],k=>by rw[Qf.eq_1];rfl
 | p::e,k=>by
  rw[Qf.eq_2,qaT x K e (k+1)];unfold XQ ended;rw[B6]
  cases (p.qb == x.qb) with
  | false=>rfl
  | true=>cases decide (p.qh > 1) <;> rfl
theorem qaU {h:List rf5Op} (hh:lenOk h=true) (K:Option Bool):∀ (r:List rf5Op) (k:Nat) (pre:List rf5Op),h=pre++r→pre.length=k→jt h K r k=bif okFrom pre r then K else some false
 | [],k,pre,_,_=>by rw[jt.eq_1];rfl
 | x::r,k,pre,he,hk=>by
  have ih:=qaU hh K r (k+1) (pre++[x]) (by rw[he];simp) (by simp[hk])
  have hsub:sub h 0 (k:Int)=some pre:=by rw[he,← hk];exact UZ pre _
  have hlp:lenOk pre=true:=by
   have:=A5 hh;rw[he,A7]at this;exact jv (by omega)
  rw[jt.eq_2,chain6,ih];unfold JM Jh;rw[hsub];simp only[A1,hlp,qx,qaT,cT,cN];show _=bif (!bad6 x && (!(decide (x.qh > 1) && (x.qi != 0)) && !ended x.qb pre)) && okFrom (pre++[x]) r then K else some false;have:(decide (x.qb<1) || (decide (x.qb > 6) || (decide (x.qh<0) || (decide (x.qh > 3) || (decide (x.qi<0) || decide (x.qi > 5))))))=bad6 x:=rfl;rw[this];cases bad6 x <;> cases decide (x.qh > 1) <;> cases (x.qi != 0) <;> cases ended x.qb pre <;> rfl
def validB (h:List rf5Op):Bool:=okFrom [] h && decide (h.length≤40)
theorem qea {h:List rf5Op} (hh:lenOk h=true):ZY h=some (validB h):=by
 unfold ZY;rw[hh,qx,qaU hh _ h 0 [] rfl rfl];unfold Qw validB
 have:decide ((h.length:Int)≤40)=decide (h.length≤40):=by
  by_cases hc:h.length≤40
  ·rw[dT (by omega),dT hc]
  ·rw[dF (by omega),dF hc]
 rw[this];cases okFrom [] h <;> rfl
theorem qaX (K:Option Bool):∀ (r:List rf5Op) (k:Nat) (pre:List rf5Op) (m:List (Int×Bool)),(∀ t,mget keq1 false t m=ended t pre)→m.length≤pre.length→pre.length+r.length≤1000 →
  Jl K (r.map cv) k m=bif okFrom pre r then K else some false
 | [],k,pre,m,_,_,_=>by rw[A8,Jl.eq_1];rfl
 | x::r,k,pre,m,hm,hml,hl=>by
  have hl:pre.length+(r.length+1)≤1000:=hl
  have ih:=fun m' h1 h2=>qaX K r (k+1) (pre++[x]) m' h1 h2 (by simp;omega)
  rw[A6,Jl.eq_2];unfold Yp Jr;simp only[chain6]
  have e5:decide ((cv x).qi ≥ 6)=decide (x.qi > 5):=by
   by_cases hc:x.qi > 5
   ·rw[dT hc];exact dT (show x.qi ≥ 6 by omega)
   ·rw[dF hc];exact dF (show ¬ x.qi ≥ 6 by omega)
  rw[e5];have:(decide ((cv x).qb<1) || (decide ((cv x).qb > 6) || (decide ((cv x).qh<0) || (decide ((cv x).qh > 3) || (decide ((cv x).qi<0) || decide (x.qi > 5))))))=bad6 x:=rfl;rw[this];show _=bif (!bad6 x && (!(decide (x.qh > 1) && (x.qi != 0)) && !ended x.qb pre)) && okFrom (pre++[x]) r then K else some false
  cases hb:bad6 x with
  | true =>
   simp only[cT];cases ((cv x).qh == 2) <;> rfl
  | false =>
   simp only[bad6,B7,decide_eq_false_iff_not]at hb;obtain⟨b1,b2,b3,b4,b5,b6⟩:=hb;have hwf:wfI .i64 (cv x).qb=true:=wf6 (by show -1000≤x.qb;omega) (by show x.qb≤1000;omega);have hml2:Nat.blt m.length 1000000000=true:=A9 (by omega);have hmt:mget keq1 false (cv x).qb m=ended x.qb pre:=hm x.qb;simp only[cN,hwf,qx,hml2,hmt]
   have hstep:∀ b:Bool,b=decide (x.qh > 1)→ended x.qb pre=false→Jl K (r.map cv) (k+1) (mset keq1 (cv x).qb b m)=bif okFrom (pre++[x]) r then K else some false:=by
    intro b hb2 hen;refine ih _ (fun t=>?_) (by have:=qdj x.qb b m;rw[A7,C8];show (mset keq1 x.qb b m).length≤_;omega);show mget keq1 false t (mset keq1 x.qb b m)=_;rw[NZ,hm];unfold ended at hen ⊢;rw[List.any_append,B6,List.any_nil,Bool.or_false];by_cases ht:x.qb=t
    ·subst ht;rw[if_pos rfl,hen,hb2];simp
    ·rw[if_neg ht];have:(x.qb == t)=false:=beq_eq_false_iff_ne.2 ht;rw[this];simp
   have k2:((cv x).qh == 2)=(x.qh == 2):=rfl;have k3:((cv x).qh == 3)=(x.qh == 3):=rfl;have i0:((cv x).qi != 0)=(x.qi != 0):=rfl;rw[k2,k3,i0];by_cases hk:x.qh > 1
   ·have h23:(x.qh == 2)=true∨(x.qh == 2)=false∧(x.qh == 3)=true:=by
     by_cases h2:x.qh=2
     ·left;simp[h2]
     ·right;exact⟨beq_eq_false_iff_ne.2 h2,by simp;omega⟩
    have hst:=hstep true (dT hk).symm;rw[dT hk]
    cases hi:(x.qi != 0) with
    | true=>rcases h23 with h2 | ⟨h2,h3⟩ <;> simp[*]
    | false =>
     cases hen:ended x.qb pre with
     | true=>rcases h23 with h2 | ⟨h2,h3⟩ <;> simp[*]
     | false =>
      have:=hst hen
      rcases h23 with h2 | ⟨h2,h3⟩ <;> simp[*]
   ·have h2:(x.qh == 2)=false:=beq_eq_false_iff_ne.2 (by omega);have h3:(x.qh == 3)=false:=beq_eq_false_iff_ne.2 (by omega);have hst:=hstep false (dF hk).symm;rw[dF hk,h2,h3]
    cases hen:ended x.qb pre with
    | true=>simp
    | false =>
     have:=hst hen;simp[*]
theorem DF {h:List rf5Op} (hl:h.length≤1000):XF (h.map cv)=some (validB h):=by
 unfold XF validB;rw[A2];by_cases hc:h.length≤40
 ·rw[dF (by omega),jv (by simp;omega),dT hc];simp only[cN,qx];rw[qaX _ h 0 [] [] (fun t=>rfl) (by simp) (by simp;omega)];unfold Qz;cases okFrom [] h <;> rfl
 ·rw[dT (by omega),dF hc];simp
theorem Vj {h:List rf5Op}:XF ((h.take 43).map cv)=some (validB h):=by
 rw[DF (by rw[List.length_take];omega)];by_cases hc:h.length≤43
 ·rw[D0 hc]
 ·unfold validB;rw[dF (p:=h.length≤40) (by omega),dF (p:=(h.take 43).length≤40) (by rw[List.length_take];omega)];simp
theorem DI:∀ (r pre:List rf5Op),okFrom pre r=true→∀ x,x∈r→bad6 x=false∧(x.qh > 1→x.qi=0)
 | [],pre,_,x,hx=>by cases hx
 | y::r,pre,h,x,hx=>by
  unfold okFrom at h;simp only[A3,Bool.not_eq_true']at h;obtain⟨⟨h1,h2,h3⟩,h4⟩:=h
  rcases List.mem_cons.1 hx with rfl | hx
  ·refine⟨h1,fun hk=>?_⟩;rw[dT hk]at h2
   simpa using h2
  ·exact DI r _ h4 x hx
structure Hist (h:List rf5Op):Prop where
 len:h.length≤1000
 txn:∀ x,x∈h→1≤x.qb∧x.qb≤6
 kind:∀ x,x∈h→0≤x.qh∧x.qh≤3
 item:∀ x,x∈h→0≤x.qi∧x.qi≤5
 zero:∀ x,x∈h→x.qh > 1→x.qi=0
theorem YN {h:List rf5Op} (hv:validB h=true):Hist h∧h.length≤40:=by
 unfold validB at hv;simp only[A3,decide_eq_true_eq]at hv;have hm:=DI h [] hv.1
 have hb:∀ x,x∈h→(1≤x.qb∧x.qb≤6)∧(0≤x.qh∧x.qh≤3)∧(0≤x.qi∧x.qi≤5):=by
  intro x hx;have:=(hm x hx).1;simp only[bad6,B7,decide_eq_false_iff_not]at this;omega
 exact⟨⟨by omega,fun x hx=>(hb x hx).1,fun x hx=>(hb x hx).2.1,fun x hx=>(hb x hx).2.2,fun x hx=>(hm x hx).2⟩,hv.2⟩
def endL (t k:Int):List rf5Op→Nat→Int
 | [],_ => -1
 | x::r,i=>bif (x.qb == t) && (x.qh == k) then (i:Int) else endL t k r (i+1)
theorem qhi (t k:Int):∀ (r:List rf5Op) (i:Nat),QY t k (Yw) r i=some (endL t k r i)
 | [],i=>by rw[QY.eq_1];rfl
 | x::r,i=>by
  rw[QY.eq_2,qhi t k r (i+1)];unfold Zt;show _=some (bif (x.qb == t) && (x.qh == k) then (i:Int) else endL t k r (i+1))
  cases (x.qb == t) with
  | false=>rfl
  | true=>cases (x.qh == k) <;> rfl
theorem qfj {h:List rf5Op} (hl:lenOk h=true) (t k:Int):Ul h t k=some (endL t k h 0):=by
 unfold Ul;rw[hl,qx];exact qhi t k h 0
theorem qdr {t k:Int} (hk:k > 1):∀ (r:List rf5Op) (i:Nat),(∀ x,x∈r→x.qh > 1→x.qi=0)→jQ (hsOp.mk t k 0) (QA) (r.map cv) i=some (endL t k r i)
 | [],i,_=>by rw[A8,jQ.eq_1];rfl
 | x::r,i,hz=>by
  rw[A6,jQ.eq_2,qdr hk r (i+1) fun y hy=>hz y (B9 _ hy)]
  have:((t == (cv x).qb) && ((k == (cv x).qh) && (((0:Int) == (cv x).qi) && true)))=((x.qb == t) && (x.qh == k)):=by
   show ((t == x.qb) && ((k == x.qh) && (((0:Int) == x.qi) && true)))=_;rw[Bool.beq_comm (a:=t),Bool.beq_comm (a:=k)];by_cases h1:x.qh=k
   ·have:=hz x (C4 ..) (by omega);rw[this];simp
   ·have:(x.qh == k)=false:=beq_eq_false_iff_ne.2 h1;rw[this];simp
  rw[this];show _=some (bif (x.qb == t) && (x.qh == k) then (i:Int) else endL t k r (i+1));cases (x.qb == t) && (x.qh == k) <;> rfl
theorem qfZ {h:List rf5Op} (H:Hist h) {t k:Int} (hk:k > 1):QU (h.map cv) (hsOp.mk t k 0)=some (endL t k h 0):=by
 have:=H.len;unfold QU;rw[jv (by simp;omega),qx];exact qdr hk h 0 H.zero
def endMap (f:Int→Int):List (Int×Int):=[(1,f 1),(2,f 2),(3,f 3),(4,f 4),(5,f 5),(6,f 6)]
theorem Va {f:Int→Int} {t:Int} (h1:1≤t) (h2:t≤6):mget keq1 0 t (endMap f)=f t:=by
 have:t=1∨t=2∨t=3∨t=4∨t=5∨t=6:=by omega
 rcases this with rfl | rfl | rfl | rfl | rfl | rfl <;> rfl
theorem Ye {h:List rf5Op} (H:Hist h) {k:Int} (hk:k > 1) (K:List (Int×Int)→Option (List (Int×Int))) {m:Nat} {v:List (Int×Int)} (t t':Int) (h1:1≤t) (h2:t≤6) (ht:t'=t+1) (hv:v.length≤10) :
  jl (h.map cv) k K (m+1) v t=jl (h.map cv) k K m (mset keq1 t (endL t k h 0) v) t':=by
 subst ht;rw[jl.eq_2,dT h2,qfZ H hk];simp only[cT,A1];rw[wf6 (by omega) (by omega),qx,A9 (show v.length+1≤1000000000 by omega) |> (fun e=>show Nat.blt v.length 1000000000=true from e),qx,wr (by omega) (by omega)]
theorem ZC {h:List rf5Op} (H:Hist h) {k:Int} (hk:k > 1):jV bigFuel (h.map cv) k=some (endMap fun t=>endL t k h 0):=by
 unfold jV;have e:bigFuel=36893488147419103225+1+1+1+1+1+1+1:=rfl;rw[e,Ye H hk _ 1 2 (by omega) (by omega) rfl (by simp),Ye H hk _ 2 3 (by omega) (by omega) rfl (A5 rfl),Ye H hk _ 3 4 (by omega) (by omega) rfl (A5 rfl),Ye H hk _ 4 5 (by omega) (by omega) rfl (A5 rfl),Ye H hk _ 5 6 (by omega) (by omega) rfl (A5 rfl),Ye H hk _ 6 7 (by omega) (by omega) rfl (A5 rfl)];rw[jl.eq_2,dF (by omega)];rfl
def scanB (W:rf5Op→Bool):List rf5Op→Int
 | []=>0
 | p::r=>bif W p then p.qb else scanB W r
def wins (h:List rf5Op) (i:Nat) (x p:rf5Op):Bool:=(p.qh == 1) && ((p.qi == x.qi) && !(decide (endL p.qb 3 h 0 ≥ 0) && decide (endL p.qb 3 h 0<(i:Int))))
def fromAt (h:List rf5Op) (i:Nat) (x:rf5Op):Int:=bif x.qh != 0 then -1 else scanB (wins h i x) (h.take i).reverse
def fromL (h:List rf5Op):List rf5Op→Nat→List Int
 | [],_=>[]
 | x::r,i=>fromAt h i x::fromL h r (i+1)
theorem qbp (h:List rf5Op):∀ (r:List rf5Op) (i:Nat),(fromL h r i).length=r.length
 | [],i=>rfl
 | x::r,i=>by unfold fromL;simp[qbp h r (i+1)]
theorem qfg {h:List rf5Op} (H:Hist h) (i:Nat) (x:rf5Op) (K:Int→Option (List Int)):∀ (j m:Nat),j≤h.length→j<m →
  jh (h.map cv) i (cv x) (endMap fun t=>endL t 3 h 0) K m 0 ((j:Int) - 1)=K (scanB (wins h i x) (h.take j).reverse)
 | 0,m,hj,hm=>by
  obtain⟨m,rfl⟩:∃ m',m=m'+1:=⟨m - 1,by omega⟩;rw[jh.eq_2,dF (by omega)];rfl
 | j+1,m,hj,hm=>by
  have hlen:=H.len;obtain⟨m,rfl⟩:∃ m',m=m'+1:=⟨m - 1,by omega⟩
  have ej:((j+1:Nat):Int) - 1=(j:Int):=by omega
  have hmem:h[j]∈h:=List.getElem_mem (by omega);have ht:=H.txn _ hmem;have ih:=qfg H i x K j m (by omega) (by omega);rw[jh.eq_2,ej,dT (by omega),DS (x:=cv h[j]) (by rw[List.getElem?_map,List.getElem?_eq_getElem (by omega)];rfl)];simp only[cT,A1];have hwf:wfI .i64 (cv h[j]).qb=true:=wf6 (by show -1000≤h[j].qb;omega) (by show h[j].qb≤1000;omega);have hmg:mget keq1 0 (cv h[j]).qb (endMap fun t=>endL t 3 h 0)=endL h[j].qb 3 h 0:=Va ht.1 ht.2;simp only[hwf,qx,hmg]
  have etk:(h.take (j+1)).reverse=h[j]::(h.take j).reverse:=by
   rw[List.take_succ_eq_append_getElem (by omega),List.reverse_append];rfl
  rw[etk];unfold Qv JR scanB wins;have a1:((cv h[j]).qh == 1)=(h[j].qh == 1):=rfl;have a2:((cv h[j]).qi == (cv x).qi)=(h[j].qi == x.qi):=rfl;have a3:(cv h[j]).qb=h[j].qb:=rfl;rw[a1,a2,a3,wr (by omega) (by omega),ih]
  cases (h[j].qh == 1) with
  | false=>cases decide (endL h[j].qb 3 h 0 ≥ 0) <;> rfl
  | true =>
   cases (h[j].qi == x.qi) with
   | false=>cases decide (endL h[j].qb 3 h 0 ≥ 0) <;> rfl
   | true=>cases decide (endL h[j].qb 3 h 0 ≥ 0) <;> cases decide (endL h[j].qb 3 h 0<(i:Int)) <;> rfl
theorem qfh {h:List rf5Op} (H:Hist h) (K:List Int→Option (List Int)):∀ (r:List rf5Op) (k:Nat) (v:List Int),k+r.length=h.length→v.length=k →
  qM bigFuel (h.map cv) (endMap fun t=>endL t 3 h 0) K (r.map cv) k v=K (v++fromL h r k)
 | [],k,v,_,_=>by rw[A8,qM.eq_1];simp[fromL]
 | x::r,k,v,hk,hv=>by
  have hlen:=H.len;have hk:k+(r.length+1)=h.length:=hk
  have ih:=fun z=>qfh H K r (k+1) (v++[z]) (by omega) (by simp;omega)
  have hcap:∀ z:Int,capOk 8 (v++[z]).length=true:=fun z=>capS (by omega) (by simp;omega)
  rw[A6,qM.eq_2];unfold ji js;rw[wr (by omega) (by omega),qfg H k x _ k bigFuel (by omega) (by unfold bigFuel;omega)];simp only[hcap,qx,ih];have:((cv x).qh != 0)=(x.qh != 0):=rfl;rw[this];have ef:fromL h (x::r) k=fromAt h k x::fromL h r (k+1):=rfl;rw[ef];unfold fromAt
  cases (x.qh != 0) with
  | true=>simp only[cT,B5,D1]
  | false=>simp only[cN,B5,D1]
theorem qhe {h:List rf5Op} (H:Hist h):Xr bigFuel (h.map cv)=some (fromL h h 0):=by
 have:=H.len;unfold Xr;rw[ZC H (by omega)];simp only[A1];rw[jv (by simp;omega),qx,qfh H _ h 0 [] (by simp) rfl];rfl
theorem qgB {l:List Int} (hm:l.Pairwise fun a b=>a≤b):sortI l=l:=by
 have h1:(sortI l).Pairwise fun a b=>decide (a≤b)=true:=List.pairwise_mergeSort (by intro a b c;simp;omega) (by intro a b;simp;omega) l
 refine List.Perm.eq_of_pairwise (le:=fun a b=>a≤b) (fun a b _ _ x y=>by omega) (h1.imp fun h=>by simpa using h) hm (List.mergeSort_perm l _)
def commL (h:List rf5Op):List Int:=([1,2,3,4,5,6]:List Int).filter fun t=>decide (endL t 2 h 0 ≥ 0)
theorem qho (f:Int→Int):comm (endMap f)=([1,2,3,4,5,6]:List Int).filter fun t=>decide (f t ≥ 0):=by
 have:endMap f=([1,2,3,4,5,6]:List Int).map fun t=>(t,f t):=rfl
 unfold comm;rw[this,List.filter_map,C5];have e:(Prod.fst ∘ fun t:Int=>(t,f t))=id:=rfl;rw[e,List.map_id];rfl
theorem YO {h:List rf5Op} (H:Hist h):Jm bigFuel (h.map cv)=some (commL h):=by
 unfold Jm;rw[ZC H (by omega)];simp only[A1];have:decide ((endMap fun t=>endL t 2 h 0).length≤1000)=true:=rfl;rw[this,qx,qho]
 have hp:(([1,2,3,4,5,6]:List Int).filter fun t=>decide (endL t 2 h 0 ≥ 0)).Pairwise fun a b=>a≤b:=by
  refine List.Pairwise.filter _ ?_
  decide
 rw[qgB hp];rfl
def sample:List rf5Op:=[⟨2,1,0⟩,⟨1,0,0⟩,⟨1,2,0⟩,⟨2,2,0⟩]
theorem qcJ:Hist sample:=(YN (by rfl)).1
theorem qbD:Zk bigFuel=some true:=by
 have e:[(hsOp.mk 2 1 0),(hsOp.mk 1 0 0),(hsOp.mk 1 2 0),(hsOp.mk 2 2 0)]=sample.map cv:=rfl;have hc:=YO qcJ;have hcl:commL sample=[1,2]:=rfl;rw[hcl]at hc
 have ho:YX bigFuel (sample.map cv)=some ([2,1],0):=by
  unfold YX QM;rw[hc]
  kernel_rfl
 unfold Zk;rw[e,ho];rfl
def overL (h:List rf5Op) (t:Int):Int:=if endL t 3 h 0 > endL t 2 h 0 then endL t 3 h 0 else endL t 2 h 0
def badP (h:List rf5Op) (i:Nat) (x p:rf5Op):Bool:=(p.qh == 1) && ((p.qi == x.qi) && ((p.qb != x.qb) && (decide (overL h p.qb<0) || decide (overL h p.qb > (i:Int)))))
def readsOf (h:List rf5Op) (i:Nat) (x:rf5Op):Bool:=decide (fromAt h i x > 0) && (fromAt h i x != x.qb)
def mayA (h:List rf5Op) (x:rf5Op) (f:Int):Bool:=decide (endL x.qb 2 h 0<0) || (decide (endL f 2 h 0 ≥ 0) && decide (endL f 2 h 0<endL x.qb 2 h 0))
def mayB (h:List rf5Op) (i:Nat) (f:Int):Bool:=decide (endL f 2 h 0 ≥ 0) && decide (endL f 2 h 0<(i:Int))
def okA (h:List rf5Op):List rf5Op→Nat→Bool
 | [],_=>true
 | x::r,i=>(!readsOf h i x || mayA h x (fromAt h i x)) && okA h r (i+1)
def okB (h:List rf5Op):List rf5Op→Nat→Bool
 | [],_=>true
 | x::r,i=>(!readsOf h i x || mayB h i (fromAt h i x)) && okB h r (i+1)
def okC (h:List rf5Op):List rf5Op→Nat→Bool
 | [],_=>true
 | x::r,i=>(decide (x.qh > 1) || !((h.take i).any (badP h i x))) && okC h r (i+1)
theorem Hn {W:rf5Op→Bool}:∀ {l:List rf5Op},(∀ p,p∈l→1≤p.qb∧p.qb≤6)→0≤scanB W l∧scanB W l≤6
 | [],_=>by unfold scanB;omega
 | p::l,h=>by
  have ih:=Hn (W:=W) fun q hq=>h q (B9 _ hq)
  have hp:=h p (C4 ..);unfold scanB;cases W p
  ·exact ih
  ·exact⟨by show 0≤p.qb;omega,hp.2⟩
theorem qcn {h:List rf5Op} (H:Hist h) (i:Nat) (x:rf5Op) : -1≤fromAt h i x∧fromAt h i x≤6:=by
 have:=Hn (W:=wins h i x) (l:=(h.take i).reverse) fun p hp=>H.txn p (List.mem_of_mem_take (List.mem_reverse.1 hp))
 unfold fromAt;cases (x.qh != 0)
 ·show -1≤scanB _ _∧scanB _ _≤6;omega
 ·show (-1:Int) ≤ -1∧(-1:Int)≤6;omega
theorem qeP {h:List rf5Op} (H:Hist h) (i:Nat) (x:rf5Op) (a b:Bool) (K:Bool→Bool→Bool→Option (Bool×Bool×Bool×Int)):∀ (e:List rf5Op) (k:Nat) (v:Bool),(∀ p,p∈e→p∈h) →
  jr i (endMap fun t=>endL t 2 h 0) (endMap fun t=>endL t 3 h 0) (cv x) a b K (e.map cv) k v=K a b (v && !(e.any (badP h i x)))
 | [],k,v,_=>by rw[A8,jr.eq_1];simp
 | p::e,k,v,he=>by
  have ht:=H.txn p (he p (C4 ..))
  have ih:=fun v=>qeP H i x a b K e (k+1) v fun q hq=>he q (B9 _ hq)
  have hwf:wfI .i64 (cv p).qb=true:=wf6 (by show -1000≤p.qb;omega) (by show p.qb≤1000;omega);have m2:mget keq1 0 (cv p).qb (endMap fun t=>endL t 2 h 0)=endL p.qb 2 h 0:=Va ht.1 ht.2;have m3:mget keq1 0 (cv p).qb (endMap fun t=>endL t 3 h 0)=endL p.qb 3 h 0:=Va ht.1 ht.2;rw[A6,jr.eq_2];unfold JV Jy;simp only[hwf,qx,m2,m3,ih];rw[B6];have hb:badP h i x p=((p.qh == 1) && ((p.qi == x.qi) && ((p.qb != x.qb) && (decide (overL h p.qb<0) || decide (overL h p.qb > (i:Int)))))):=rfl;have ho:(if endL p.qb 3 h 0 > endL p.qb 2 h 0 then endL p.qb 3 h 0 else endL p.qb 2 h 0)=overL h p.qb:=rfl;have a1:((cv p).qh == 1)=(p.qh == 1):=rfl;have a2:((cv p).qi == (cv x).qi)=(p.qi == x.qi):=rfl;have a3:((cv p).qb != (cv x).qb)=(p.qb != x.qb):=rfl;rw[hb,ho,a1,a2,a3];generalize e.any (badP h i x)=u
  cases (p.qh == 1) with
  | false=>rfl
  | true =>
   cases (p.qi == x.qi) with
   | false=>rfl
   | true =>
    cases (p.qb != x.qb) with
    | false=>rfl
    | true=>cases decide (overL h p.qb<0) <;> cases decide (overL h p.qb > (i:Int)) <;> cases v <;> rfl
theorem qeQ {h:List rf5Op} (H:Hist h) (K:Bool→Bool→Bool→Option (Bool×Bool×Bool×Int)):∀ (r:List rf5Op) (k:Nat) (a b c:Bool) (pre:List rf5Op),h=pre++r→pre.length=k →
  qQ (h.map cv) (endMap fun t=>endL t 2 h 0) (endMap fun t=>endL t 3 h 0) K (fromL h r k) k a b c=K (a && okA h r k) (b && okB h r k) (c && okC h r k)
 | [],k,a,b,c,pre,_,_=>by unfold fromL;rw[qQ.eq_1];simp[okA,okB,okC]
 | x::r,k,a,b,c,pre,he,hk=>by
  have hlen:=H.len;have hl2:=congrArg List.length he;rw[A7,List.length_cons]at hl2
  have ih:=fun a b c=>qeQ H K r (k+1) a b c (pre++[x]) (by rw[he];simp) (by simp[hk])
  have hat:h[k]? = some x:=by rw[he,← hk];simp
  have hmem:x∈h:=D2 hat;have htx:=H.txn x hmem
  have htk:h.take k=pre:=by rw[he,← hk,List.take_left]
  have hsub:sub (h.map cv) 0 (k:Int)=some (pre.map cv):=by
   have:=UZ (pre.map cv) ((x::r).map cv);rw[← List.map_append,← he,A2,hk]at this;exact this
  have hf:=qcn H k x;have ef:fromL h (x::r) k=fromAt h k x::fromL h r (k+1):=rfl;have hidx:idx (h.map cv) ((k:Nat):Int)=some (cv x):=DS (by rw[List.getElem?_map,hat];rfl);have hwx:wfI .i64 (cv x).qb=true:=wf6 (by show -1000≤x.qb;omega) (by show x.qb≤1000;omega);have hwf:wfI .i64 (fromAt h k x)=true:=wf6 (by omega) (by omega);have m2:mget keq1 0 (cv x).qb (endMap fun t=>endL t 2 h 0)=endL x.qb 2 h 0:=Va htx.1 htx.2;rw[ef,qQ.eq_2,hidx];simp only[A1];have eA:okA h (x::r) k=((!readsOf h k x || mayA h x (fromAt h k x)) && okA h r (k+1)):=rfl;have eB:okB h (x::r) k=((!readsOf h k x || mayB h k (fromAt h k x)) && okB h r (k+1)):=rfl;have eC:okC h (x::r) k=((decide (x.qh > 1) || !((h.take k).any (badP h k x))) && okC h r (k+1)):=rfl;rw[eA,eB,eC]
  have h21:∀ a b:Bool,Jn (h.map cv) k (endMap fun t=>endL t 2 h 0) (endMap fun t=>endL t 3 h 0) c (cv x) (jg (qQ (h.map cv) (endMap fun t=>endL t 2 h 0) (endMap fun t=>endL t 3 h 0) K (fromL h r (k+1)) (k+1))) a b=K (a && okA h r (k+1)) (b && okB h r (k+1)) (c && ((decide (x.qh > 1) || !((h.take k).any (badP h k x))) && okC h r (k+1))):=by
   intro a b;unfold Jn jg;rw[hsub];simp only[A1];rw[jv (by rw[A2];omega),qx,qeP H k x a b _ pre 0 c (fun p hp=>by rw[he];exact D3 _ hp)];simp only[ih];rw[htk];have:decide ((cv x).qh > 1)=decide (x.qh > 1):=rfl;rw[this]
   cases decide (x.qh > 1) with
   | true=>simp only[cT,Bool.true_or,C6]
   | false=>simp only[cN,Bool.false_or,Bool.and_assoc]
  have h22:∀ g:Bool,(g=true→fromAt h k x > 0)→QL k (fromAt h k x) (endMap fun t=>endL t 2 h 0) a b (cv x) (Jn (h.map cv) k (endMap fun t=>endL t 2 h 0) (endMap fun t=>endL t 3 h 0) c (cv x) (jg (qQ (h.map cv) (endMap fun t=>endL t 2 h 0) (endMap fun t=>endL t 3 h 0) K (fromL h r (k+1)) (k+1)))) g=K (a && ((!g || mayA h x (fromAt h k x)) && okA h r (k+1))) (b && ((!g || mayB h k (fromAt h k x)) && okB h r (k+1))) (c && ((decide (x.qh > 1) || !((h.take k).any (badP h k x))) && okC h r (k+1))):=by
   intro g hg;unfold QL Qp;simp only[h21]
   cases g with
   | false=>simp only[cN,Bool.not_false,Bool.true_or,C6]
   | true =>
    have hpos:=hg rfl;have m1:mget keq1 0 (fromAt h k x) (endMap fun t=>endL t 2 h 0)=endL (fromAt h k x) 2 h 0:=Va (by omega) hf.2;simp only[cT,hwx,hwf,qx,m1,m2,Bool.not_true,Bool.false_or];unfold mayA mayB;cases a <;> cases b <;> cases decide (endL x.qb 2 h 0<0) <;> cases decide (endL (fromAt h k x) 2 h 0 ≥ 0) <;> cases decide (endL (fromAt h k x) 2 h 0<(k:Int)) <;> cases decide (endL (fromAt h k x) 2 h 0<endL x.qb 2 h 0) <;> rfl
  have hrd:readsOf h k x=(decide (fromAt h k x > 0) && (fromAt h k x != (cv x).qb)):=rfl;rw[hrd];by_cases hp:fromAt h k x > 0
  ·rw[dT hp];simp only[cT,C6]
   exact h22 _ fun _=>hp
  ·rw[dF hp];simp only[cN,Bool.false_and]
   exact h22 false fun e=>by cases e
theorem qcc (h:List rf5Op):YW bigFuel ((h.take 43).map cv)=some (if validB h then (okA h h 0,okB h h 0,okC h h 0,0) else (false,false,false,2)):=by
 unfold YW;rw[Vj];simp only[A1]
 cases hv:validB h with
 | false=>rfl
 | true =>
  obtain⟨H,hl⟩:=YN hv;rw[D0 (by omega)];simp only[Bool.not_true,cN,if_true,qhe H,ZC H (k:=2) (by omega),ZC H (k:=3) (by omega),A1];rw[jv (by rw[qbp];omega),qx,qeQ H _ h 0 true true true [] rfl rfl];rfl
theorem qbd:∀ (r pre:List rf5Op) (i:Nat) (x:rf5Op),okFrom pre r=true→r[i]? = some x→ended x.qb (pre++r.take i)=false
 | [],pre,i,x,_,hx=>by simp at hx
 | y::r,pre,0,x,h,hx=>by
  unfold okFrom at h;simp only[A3,Bool.not_eq_true']at h;simp only[List.getElem?_cons_zero,Option.some.injEq]at hx;subst hx
  simpa using h.1.2.2
 | y::r,pre,i+1,x,h,hx=>by
  unfold okFrom at h;simp only[A3]at h;have:=qbd r (pre++[y]) i x h.2 (by simpa using hx)
  simpa using this
theorem qad (t k:Int):∀ (r:List rf5Op) (j i:Nat),endL t k r j=(i:Int)→∃ x,r[i - j]? = some x∧j≤i∧x.qh=k∧x.qb=t
 | [],j,i,h=>by unfold endL at h;omega
 | x::r,j,i,h=>by
  unfold endL at h
  cases hc:(x.qb == t) && (x.qh == k) with
  | true =>
   rw[hc]at h;simp only[cT]at h
   obtain rfl:j=i:=by omega
   simp only[A3,beq_iff_eq]at hc;exact⟨x,by simp,Nat.le_refl _,hc.2,hc.1⟩
  | false =>
   rw[hc]at h;obtain⟨y,h1,h2,h3⟩:=qad t k r (j+1) i h;refine⟨y,?_,by omega,h3⟩
   have:i - j=(i - (j+1))+1:=by omega
   rw[this,List.getElem?_cons_succ];exact h1
def uv (o:hsOp):rf5Op:=rf5Op.mk o.qb o.qh o.qi
theorem qif (o:hsOp):cv (uv o)=o:=rfl
theorem qib (x:rf5Op):uv (cv x)=x:=rfl
theorem Hc (l:List hsOp):(l.map uv).map cv=l:=by
 rw[C5];exact List.map_id'' (fun o=>qif o) l
theorem qhW (l:List rf5Op):(l.map cv).map uv=l:=by
 rw[C5];exact List.map_id'' (fun o=>qib o) l
def VH (l:List hsOp):Prop:=∀ p o q,l=p++o::q→OkOp o∧(1<o.qh→o.qi=0)∧∀ e,e∈p→e.qb=o.qb→e.qh≤1
theorem qbc:∀ (r pre:List rf5Op),(∀ p x q,pre++r=p++x::q→pre.length≤p.length→bad6 x=false∧(x.qh > 1→x.qi=0)∧ended x.qb p=false)→okFrom pre r=true
 | [],_,_=>rfl
 | x::r,pre,h=>by
  obtain⟨h1,h2,h3⟩:=h pre x r rfl (Nat.le_refl _)
  have ih:=qbc r (pre++[x]) fun p y q e hl=>by
   refine h p y q (by rw[← e];simp) ?_;rw[A7,C8]at hl;omega
  unfold okFrom;rw[ih,h1,h3];by_cases hk:x.qh > 1
  ·rw[h2 hk];simp
  ·rw[dF hk];rfl
theorem qgv {l:List hsOp} (h:VH l) (hl:l.length≤40):validB (l.map uv)=true:=by
 unfold validB;rw[dT (by rw[A2];exact hl),Bool.and_true]
 refine qbc _ [] fun p x q e _=>?_
 have e2:l=p.map cv++cv x::q.map cv:=by
  rw[C7]at e;rw[← Hc l,e];simp
 obtain⟨⟨a1,a2,a3,a4,a5,a6⟩,b,c⟩:=h _ _ _ e2;refine⟨?_,b,?_⟩
 ·simp only[bad6,B7,decide_eq_false_iff_not];have a1:1≤x.qb:=a1;have a2:x.qb≤6:=a2;have a3:0≤x.qh:=a3;have a4:x.qh≤3:=a4;have a5:0≤x.qi:=a5;have a6:x.qi≤5:=a6;omega
 ·unfold ended;rw[List.any_eq_false];intro y hy;simp only[A3,beq_iff_eq,decide_eq_true_eq,not_and];intro ht;have:=c (cv y) (List.mem_map.2 ⟨y,hy,rfl⟩) ht;have:y.qh≤1:=this;omega
theorem qih {h:List rf5Op} (hv:validB h=true):VH (h.map cv):=by
 obtain⟨H,_⟩:=YN hv;unfold validB at hv;simp only[A3,decide_eq_true_eq]at hv;intro p o q e
 have e2:h=p.map uv++uv o::q.map uv:=by
  have:=congrArg (A4 uv) e;rw[qhW]at this;rw[this];simp
 have hx:h[p.length]? = some (uv o):=by rw[e2,List.getElem?_append_right (by simp)];simp
 have hm:=D2 hx;have hen:=qbd h [] p.length (uv o) hv.1 hx;rw[C7]at hen
 have htk:h.take p.length=p.map uv:=by rw[e2,List.take_left' (by simp)]
 rw[htk]at hen;have t:=H.txn _ hm;have k:=H.kind _ hm;have i:=H.item _ hm;refine⟨⟨t.1,t.2,k.1,k.2,i.1,i.2⟩,H.zero _ hm,fun y hy ht=>?_⟩;unfold ended at hen;rw[List.any_eq_false]at hen;have:=hen (uv y) (List.mem_map.2 ⟨y,hy,rfl⟩);simp only[A3,beq_iff_eq,decide_eq_true_eq,not_and]at this;have:=this ht;have:¬ y.qh > 1:=this;omega
theorem VH.ofT {l:List hsOp} (h:VH l) {t:Int} {p q:List hsOp} {o:hsOp} (e:ofT t l=p++o::q):OkOp o∧(1<o.qh→o.qi=0)∧o.qb=t∧∀ y,y∈p→y.qh≤1:=by
 unfold Go.AM.ofT at e;obtain⟨l1,l2,rfl,h1,h2⟩:=List.filter_eq_append_iff.1 e;obtain⟨m1,m2,rfl,h3,h4,h5⟩:=List.filter_eq_cons_iff.1 h2
 have ht:o.qb=t:=by simpa using h4
 obtain⟨a,b,c⟩:=h (l1++m1) o m2 (by simp);refine⟨a,b,ht,fun y hy=>?_⟩;rw[← h1]at hy;have hy2:=List.mem_filter.1 hy;exact c y (D3 _ hy2.1) (by rw[ht];simpa using hy2.2)
theorem JJ.valid {pre:List hsOp} {s:LS} (hj:JJ pre s) (hv:VH pre):VH s.done:=by
 intro p o q e
 have hft:ofT o.qb s.done=ofT o.qb p++o::ofT o.qb q:=by
  rw[e,Zx]
  congr 1
  unfold ofT;rw[List.filter_cons];simp
 have key:∀ y,y∈p→y.qb=o.qb→y∈ofT o.qb p:=fun y hy ht=>List.mem_filter.2 ⟨hy,by simpa using ht⟩
 rcases hj o.qb with ⟨h1,h2⟩ | ⟨h1,h2,D,w,E,h3,h4⟩
 ·rw[hft]at h2;obtain⟨a,b,_,c⟩:=hv.ofT (t:=o.qb) (p:=ofT o.qb p) (o:=o) (q:=ofT o.qb q++(s.wt o.qb).map Prod.fst) (by rw[h2];simp);exact⟨a,b,fun y hy ht=>c y (key y hy ht)⟩
 ·rw[hft]at h3;obtain⟨a,b,tw,c⟩:=hv.ofT h4
  rcases UH h3.symm with ⟨_,e1,e2⟩ | ⟨q',e1,e2⟩
  ·have e3:o.qh=3∧o.qi=0:=by
    have:=congrArg hsOp.qh e2;have:=congrArg hsOp.qi e2;exact⟨by assumption,by assumption⟩
   refine⟨⟨by rw[← tw];exact a.1,by rw[← tw];exact a.2.1,by omega,by omega,by omega,by omega⟩,fun _=>e3.2,fun y hy ht=>?_⟩;exact c y (by rw[← e1];exact key y hy ht)
  ·rw[e2]at h4;obtain⟨a',b',_,c'⟩:=hv.ofT (t:=o.qb) (p:=ofT o.qb p) (o:=o) (q:=q'++w::E) (by rw[h4];simp);exact⟨a',b',fun y hy ht=>c' y (key y hy ht)⟩
open Classical in
theorem qgX {l:List hsOp} {m:Nat} {s:LS} (hv:XF l=some true) (hl:l.length≤100000) (ho:∀ o,o∈l→OkOp o) (hr:runL m LS.zero 0 l=some s):lockP m l=some (s.done,s.ab,0):=by
 unfold lockP;rw[hv];simp only[A1,cT];rw[dT hl,qx,if_pos ho,hr,A1]
theorem qfX {l:List hsOp} (hv:validB (l.map uv)=true) (hg:Good l):lockP bigFuel l=some (l,[],0):=by
 obtain⟨H,h40⟩:=YN hv;rw[A2]at h40
 have ho:∀ o,o∈l→OkOp o:=fun o hm=>by
  obtain⟨p,q,e⟩:=List.append_of_mem hm;exact (qih hv p o q (by rw[Hc];exact e)).1
 have hb:1000<bigFuel:=by unfold bigFuel;omega
 obtain⟨s,a,b,c,_⟩:=qcN (m:=bigFuel) (by omega) l [] LS.zero hg rfl rfl rfl rfl rfl 0;rw[← Hc l]at *;rw[Hc]at *;rw[qgX (s:=s) ?_ (by omega) ho a,b,c,C7];have:=DF (h:=l.map uv) (by rw[A2];omega);rw[Hc,hv]at this;exact this
end Go.AM
namespace Go.AM
open Go.Proofs
def Qe (v25:(List (List Int))):Option (List (List Int)) :=
 (some v25)
def QX (N1:((List (List Int))→Option (List (List Int)))) (v24:(List (List Int))):Option (List (List Int)) :=
 (N1 v24)
def Qd (x1:Int) (K10:((List (List Int))→Option (List (List Int)))):List (List Int)→Nat→(List (List Int))→Option (List (List Int))
 | [],k2,v19=>(K10 v19)
 | x2::r2,k2,v19=>(chk (capOk 8 (([x1]++x2)).length) (chk (capOk 24 ((v19++[([x1]++x2)])).length) ((Qd x1 K10 r2 (k2+1)) (v19++[([x1]++x2)]))))
def Jf (a1:(List Int)) (K0:((List Int)→Option (List (List Int)))) (K7:((List (List Int))→Option (List (List Int)))):List Int→Nat→(List (List Int))→Option (List (List Int))
 | [],k1,v9=>(K7 v9)
 | x1::r1,k1,v9=>((sub a1 0 (k1:Int)).bind fun e13=>(chk (capOk 8 ((([]:(List Int))++e13)).length) ((sub a1 ((k1+1:Nat):Int) (a1.length:Int)).bind fun e15=>(chk (capOk 8 (((([]:(List Int))++e13)++e15)).length) ((K0 ((([]:(List Int))++e13)++e15)).bind fun w18=>(chk (lenOk w18) (Qd x1 (QX (Jf a1 K0 K7 r1 (k1+1))) w18 0 v9)))))))
def JY:Nat→(List Int)→Option (List (List Int))
 | 0,_=>none
 | fuel+1,a1=>(bif ((a1.length:Int) == 0) then (some [([]:(List Int))]) else (chk (lenOk a1) (Jf a1 (JY fuel) (Qe) a1 0 ([]:(List (List Int))))))
theorem qau:∀ (fuel:Nat) (a1:(List Int)) (r:(List (List Int))) (h:JY fuel a1=some r),Run Try.prog (.call 67 [l3 none a1] (l24 none r)):=by
 intro fuel
 induction fuel with
 | zero=>intro a1 r h;cases h
 | succ fuel ih =>
  intro a1 r h;refine cW Try.func67 rfl (env0:=[(0,l3 none a1)]) ?_;rw[JY.eq_2]at h;refine W.seq ?_;let z0:=fun t=>EN ((0,l3 none a1)::t);refine W.rt (e2:=z0 []) ?_;refine W.seq<|W.sr<|WO.pq 1 (jM (.int .i64) a1) (e1:=z0 [(9,l3 none a1),(10,I6 (a1.length:Int))])<|WO.fn (e2:=z0 [(11,.bool ((a1.length:Int) == 0))]) ?_;refine W.ch ((a1.length:Int) == 0) h (fun h=>?_) (fun h=>?_)
  ·refine W.seq<|W.rt (e2:=[(2,l24 (some 12) [([]:(List Int))])]) ?_;refine W.weak [2] [] [] [(12,none)] (env':=[(2,l24 none [([]:(List Int))])]) (by kernel_rfl) ?_;cases h;exact W.rr
  refine W.sw (e:=z0 []) ?_;refine W.seq<|W.rt (e2:=z0 [(3,.nils)]) ?_;refine W.seq<|W.join (σ:=((List (List Int)))) (fun s=>[(3,l24 (some 10300) s)]) (fun s=>(Qe) s=some r) (fun v25 h=>?_) (fun hK7=>?_)
  ·unfold Qe at h;refine W.seq<|W.rt (e2:=[(2,l24 (some 10300) v25)]) ?_;refine W.weak [2] [] [] [(10300,none)] (env':=[(2,l24 none v25)]) (by kernel_rfl) ?_;cases h;exact W.rr
  refine W.sr ?_;let z1:=fun t=>z0 ((3,.nils)::(13,l3 none a1)::(14,I6 (a1.length:Int))::t);refine WO.pq 1 (jM (.int .i64) a1) (e1:=z1 [])<|WO.fn (e2:=z1 [(15,.int .i64 0)]) ?_;refine W.block ?_;obtain⟨hl1,h⟩:=qq h;refine W.weak [0,3,13,14,15] [] [(3,0,24,1,10300)] [] (env':=z0 [(3,l24 (some 10300) ([]:(List (List Int)))),(13,l3 none a1),(14,I6 (a1.length:Int)),(15,I6 ((0:Nat):Int))]) (by kernel_rfl)<|W.range (σ:=((List (List Int)))) a1 (fun k1 s=>z0 [(3,l24 (some 10300) s),(13,l3 none a1),(14,I6 (a1.length:Int)),(15,I6 (k1:Int))]) (fun r0 k0 s=>Jf a1 (JY fuel) (Qe) r0 k0 s=some r) (fun v9 h=>?_) (fun x1 r1 k1 s hx1 hk1 h hN1=>?_) ([]:(List (List Int))) h
  ·have h:Jf a1 (JY fuel) (Qe) [] (a1).length v9=some r:=h;rw[Jf.eq_1]at h;refine W.sr ?_;let y0:Env:=[(3,l24 (some 10300) v9),(13,l3 none a1),(14,I6 (a1.length:Int)),(15,I6 ((a1).length:Int)),(16,.bool false)];refine WO.pq 0 (jB (jj (l:=a1))) (e1:=z0 y0)<|WO.fn (e2:=z0 y0) ?_;refine W.seq<|W.cF<|W.exit<|W.wk (e:=[(3,l24 (some 10300) v9)]) ?_;exact hK7 v9 h
  ·obtain⟨v9,rfl⟩:∃ x,x=s:=⟨s,rfl⟩;have h:Jf a1 (JY fuel) (Qe) (x1::r1) k1 v9=some r:=h;rw[Jf.eq_2]at h;refine W.sr ?_;let y1:Env:=[(3,l24 (some 10300) v9),(13,l3 none a1),(14,I6 (a1.length:Int)),(15,I6 (k1:Int)),(16,.bool true)];refine WO.pq 0 (jB (jD hk1)) (e1:=z0 y1)<|WO.fn (e2:=z0 y1) ?_;refine W.seq<|W.cT<|W.skip ?_;let y2:Env:=[(13,l3 none a1),(14,I6 (a1.length:Int)),(15,I6 (k1:Int))];let z2:=fun t=>z0 ((3,l24 (some 10300) v9)::t);refine W.wk (e:=z2 y2)<|W.seq<|W.join (σ:=((List (List Int)))) (fun s=>z0 ((3,l24 (some 10300) s)::y2)) (fun s=>(QX (Jf a1 (JY fuel) (Qe) r1 (k1+1))) s=some r) (fun v24 h=>?_) (fun hK10=>?_)
   ·unfold QX at h;refine W.rg ?_;let z3:=fun t=>z0 ((3,l24 (some 10300) v24)::(13,l3 none a1)::(14,I6 (a1.length:Int))::t);refine WO.pq 0 (jI (qS hl1 hk1)) (e1:=z3 [(15,I6 (k1:Int)),(45,I6 ((k1+1:Nat):Int))])<|WO.fn (e2:=z3 [(15,I6 ((k1+1:Nat):Int))]) ?_;exact hN1 v24 h
   refine W.block<|W.sr<|WO.pq 1 (jE (f:=(AV.int .i64)) hx1) (e1:=z2 [(13,l3 none a1),(14,I6 (a1.length:Int)),(15,I6 (k1:Int)),(17,I6 (k1:Int)),(18,.ptr (I6 x1))]) ?_;let z4:=fun t=>z2 ((4,I6 (k1:Int))::(5,I6 x1)::t);refine WO.fn (e2:=z4 y2) ?_;refine W.seq<|W.regionB (by kernel_rfl) ?_;obtain⟨e13,he13,h⟩:=ql h;let z5:=fun t=>z4 ((13,l3 none a1)::(14,I6 (a1.length:Int))::(15,I6 (k1:Int))::t);refine WB.pureK 3 (if (0:Int)≤0∧0≤(k1:Int)∧(k1:Int)≤((M6 a1).length:Int) then some (.lst 3 1 none (((M6 a1).take (A0 (k1:Int))).drop (A0 0))) else none) (v:=l3 none e13) (by kernel_rfl) (NM he13) (e1:=z5 [(20,l3 (some 20) ([]:(List Int))),(21,l3 none a1),(22,I6 (k1:Int)),(23,l3 none e13)]) (by kernel_rfl) ?_;obtain⟨hc14,h⟩:=qq h;let z6:=fun t=>z5 ((20,l3 none ([]:(List Int)))::(21,l3 none a1)::(22,I6 (k1:Int))::(23,l3 none e13)::(24,l3 (some 24) (([]:(List Int))++e13))::t);refine WB.appendK 0 (by kernel_rfl) (d:=24) (e:=3) (s:=1) (bytes:=8) (xs:=(M6 ([]:(List Int)))) (ys:=(M6 e13)) (zs:=(M6 (([]:(List Int))++e13))) (env1:=[(0,l3 none a1),(3,l24 (some 10300) v9),(4,I6 (k1:Int)),(5,I6 x1),(13,l3 none a1),(14,I6 (a1.length:Int)),(15,I6 (k1:Int)),(20,l3 none ([]:(List Int))),(21,l3 none a1),(22,I6 (k1:Int)),(23,l3 none e13)]) (by kernel_rfl) (List.map_append.symm) (by rw[A2];exact hc14) (e1:=z6 []) (by kernel_rfl) ?_;let z7:=fun t=>z6 ((25,l3 none a1)::(26,I6 (k1:Int))::(27,I6 ((k1+1:Nat):Int))::t);refine WB.pureK 2 (some (I6 (IntKind.wrap .i64 ((k1:Int)+1)))) (v:=I6 ((k1+1:Nat):Int)) (by kernel_rfl) (by rw[qS hl1 hk1]) (e1:=z7 []) (by kernel_rfl) ?_;obtain⟨e15,he15,h⟩:=ql h;refine WB.pureK 0 (if (0:Int)≤((k1+1:Nat):Int)∧((k1+1:Nat):Int)≤((M6 a1).length:Int)∧((M6 a1).length:Int)≤((M6 a1).length:Int) then some (.lst 3 1 none (((M6 a1).take (A0 ((M6 a1).length:Int))).drop (A0 ((k1+1:Nat):Int)))) else none) (v:=l3 none e15) (by kernel_rfl) (Ds he15) (e1:=z7 [(28,l3 none e15)]) (by kernel_rfl) ?_;obtain⟨hc16,h⟩:=qq h;refine WB.appendK 0 (by kernel_rfl) (d:=29) (e:=3) (s:=1) (bytes:=8) (xs:=(M6 (([]:(List Int))++e13))) (ys:=(M6 e15)) (zs:=(M6 ((([]:(List Int))++e13)++e15))) (env1:=[(0,l3 none a1),(3,l24 (some 10300) v9),(4,I6 (k1:Int)),(5,I6 x1),(13,l3 none a1),(14,I6 (a1.length:Int)),(15,I6 (k1:Int)),(20,l3 none ([]:(List Int))),(21,l3 none a1),(22,I6 (k1:Int)),(23,l3 none e13),(24,l3 none (([]:(List Int))++e13)),(25,l3 none a1),(26,I6 (k1:Int)),(27,I6 ((k1+1:Nat):Int)),(28,l3 none e15)]) (by kernel_rfl) (List.map_append.symm) (by rw[A2];exact hc16) (e1:=z5 [(20,l3 none ([]:(List Int))),(21,l3 none a1),(22,I6 (k1:Int)),(23,l3 none e13),(24,l3 none (([]:(List Int))++e13)),(25,l3 none a1),(26,I6 (k1:Int)),(27,I6 ((k1+1:Nat):Int)),(28,l3 none e15),(29,l3 (some 29) ((([]:(List Int))++e13)++e15))]) (by kernel_rfl) ?_;let z8:=fun t=>z2 ((5,I6 x1)::(6,l3 none ((([]:(List Int))++e13)++e15))::t);refine WB.fin [0,3,5,6,13,14,15] [] [] [] (e2:=z8 y2) (by kernel_rfl) (fun _ h=>h) ?_;refine W.sr ?_;obtain⟨w18,hw18,h⟩:=ql h;let z9:=fun t=>z8 ((13,l3 none a1)::(14,I6 (a1.length:Int))::(15,I6 (k1:Int))::(30,l3 none ((([]:(List Int))++e13)++e15))::(31,l24 none w18)::t);refine WO.ck 1 (F:=67) (l:=[l3 none ((([]:(List Int))++e13)++e15)]) (C:=[]) (r:=l24 none w18) (ih ((([]:(List Int))++e13)++e15) w18 hw18) (e1:=z9 [])<|WO.pq 0 (jM (encL 3 1 (AV.int .i64)) w18) (e1:=z9 [(32,I6 (w18.length:Int))]) ?_;let z10:=fun t=>z2 ((5,I6 x1)::(13,l3 none a1)::(14,I6 (a1.length:Int))::(15,I6 (k1:Int))::(31,l24 none w18)::(32,I6 (w18.length:Int))::t)
   refine WO.fn (e2:=z10 [(33,.int .i64 0)]) ?_;refine W.block ?_;obtain⟨hl2,h⟩:=qq h;refine W.wk (e:=z10 [(33,I6 ((0:Nat):Int))])<|W.range (σ:=((List (List Int)))) w18 (fun k2 s=>z0 [(3,l24 (some 10300) s),(5,I6 x1),(13,l3 none a1),(14,I6 (a1.length:Int)),(15,I6 (k1:Int)),(31,l24 none w18),(32,I6 (w18.length:Int)),(33,I6 (k2:Int))]) (fun r0 k0 s=>Qd x1 (QX (Jf a1 (JY fuel) (Qe) r1 (k1+1))) r0 k0 s=some r) (fun v19 h=>?_) (fun x2 r2 k2 s hx2 hk2 h hN2=>?_) v9 h
   ·have h:Qd x1 (QX (Jf a1 (JY fuel) (Qe) r1 (k1+1))) [] (w18).length v19=some r:=h;rw[Qd.eq_1]at h;refine W.sr ?_;let y3:Env:=[(3,l24 (some 10300) v19),(5,I6 x1),(13,l3 none a1),(14,I6 (a1.length:Int)),(15,I6 (k1:Int)),(31,l24 none w18),(32,I6 (w18.length:Int)),(33,I6 ((w18).length:Int)),(34,.bool false)];refine WO.pq 0 (jB (jj (l:=w18))) (e1:=z0 y3)<|WO.fn (e2:=z0 y3) ?_;refine W.seq<|W.cF<|W.exit<|W.wk (e:=z0 ((3,l24 (some 10300) v19)::y2)) ?_;exact hK10 v19 h
   ·obtain⟨v19,rfl⟩:∃ x,x=s:=⟨s,rfl⟩;have h:Qd x1 (QX (Jf a1 (JY fuel) (Qe) r1 (k1+1))) (x2::r2) k2 v19=some r:=h;rw[Qd.eq_2]at h;refine W.sr ?_;let y4:Env:=[(3,l24 (some 10300) v19),(5,I6 x1),(13,l3 none a1),(14,I6 (a1.length:Int)),(15,I6 (k1:Int)),(31,l24 none w18),(32,I6 (w18.length:Int)),(33,I6 (k2:Int)),(34,.bool true)];refine WO.pq 0 (jB (jD hk2)) (e1:=z0 y4)<|WO.fn (e2:=z0 y4) ?_;refine W.seq<|W.cT<|W.skip ?_;let y5:Env:=[(13,l3 none a1),(14,I6 (a1.length:Int)),(15,I6 (k1:Int)),(31,l24 none w18),(32,I6 (w18.length:Int)),(33,I6 (k2:Int))];let z11:=fun t=>z0 ((3,l24 (some 10300) v19)::(5,I6 x1)::t);refine W.wk (e:=z11 y5)<|W.seq<|W.block<|W.sr<|WO.pq 0 (jE (f:=(encL 3 1 (AV.int .i64))) hx2) (e1:=z11 [(13,l3 none a1),(14,I6 (a1.length:Int)),(15,I6 (k1:Int)),(31,l24 none w18),(32,I6 (w18.length:Int)),(33,I6 (k2:Int)),(35,.ptr (l3 none x2))])<|WO.fn (e2:=z11 ((8,l3 none x2)::y5)) ?_;refine W.rg ?_;obtain⟨hc22,h⟩:=qq h;refine WO.appendK 4 (d:=41) (e:=3) (s:=1) (bytes:=8) (xs:=(M6 [x1])) (ys:=(M6 x2)) (zs:=(M6 ([x1]++x2))) (env1:=[(0,l3 none a1),(3,l24 (some 10300) v19),(5,I6 x1),(8,l3 none x2),(13,l3 none a1),(14,I6 (a1.length:Int)),(15,I6 (k1:Int)),(31,l24 none w18),(32,I6 (w18.length:Int)),(33,I6 (k2:Int)),(37,l24 (some 10300) v19),(38,I6 x1),(39,l3 none [x1]),(40,l3 none x2)]) (by kernel_rfl) (List.map_append.symm) (by rw[A2];exact hc22) (e1:=z11 [(8,l3 none x2),(13,l3 none a1),(14,I6 (a1.length:Int)),(15,I6 (k1:Int)),(31,l24 none w18),(32,I6 (w18.length:Int)),(33,I6 (k2:Int)),(37,l24 (some 10300) v19),(38,I6 x1),(39,l3 none [x1]),(40,l3 none x2),(41,l3 (some 41) ([x1]++x2))]) (by kernel_rfl) ?_;obtain⟨hc23,h⟩:=qq h;refine WO.appendK 1 (d:=43) (e:=24) (s:=1) (bytes:=24) (xs:=(A4 (encL 3 1 (AV.int .i64)) v19)) (ys:=(A4 (encL 3 1 (AV.int .i64)) [([x1]++x2)])) (zs:=(A4 (encL 3 1 (AV.int .i64)) (v19++[([x1]++x2)]))) (env1:=[(0,l3 none a1),(3,l24 none v19),(5,I6 x1),(8,l3 none x2),(13,l3 none a1),(14,I6 (a1.length:Int)),(15,I6 (k1:Int)),(31,l24 none w18),(32,I6 (w18.length:Int)),(33,I6 (k2:Int)),(37,l24 none v19),(38,I6 x1),(39,l3 none [x1]),(40,l3 none x2),(41,l3 (some 41) ([x1]++x2)),(42,l24 (some 42) [([x1]++x2)])]) (by kernel_rfl) (List.map_append.symm) (by rw[A2];exact hc23) (e1:=z0 [(3,l24 none v19),(5,I6 x1),(8,l3 none x2),(13,l3 none a1),(14,I6 (a1.length:Int)),(15,I6 (k1:Int)),(31,l24 none w18),(32,I6 (w18.length:Int)),(33,I6 (k2:Int)),(37,l24 none v19),(38,I6 x1),(39,l3 none [x1]),(40,l3 none x2),(41,l3 (some 41) ([x1]++x2)),(42,l24 (some 42) [([x1]++x2)]),(43,l24 (some 43) (v19++[([x1]++x2)]))]) (by kernel_rfl) ?_;let z12:=fun t=>z0 ((3,l24 (some 43) (v19++[([x1]++x2)]))::(5,I6 x1)::t);refine WO.fn (e2:=z12 y5) ?_;refine W.rg<|WO.pq 0 (jI (qS hl2 hk2)) (e1:=z12 [(13,l3 none a1),(14,I6 (a1.length:Int)),(15,I6 (k1:Int)),(31,l24 none w18),(32,I6 (w18.length:Int)),(33,I6 (k2:Int)),(44,I6 ((k2+1:Nat):Int))])<|WO.fin [0,3,5,13,14,15,31,32,33] [] [] [(43,some 10300)] (e2:=z0 [(3,l24 (some 10300) (v19++[([x1]++x2)])),(5,I6 x1),(13,l3 none a1),(14,I6 (a1.length:Int)),(15,I6 (k1:Int)),(31,l24 none w18),(32,I6 (w18.length:Int)),(33,I6 ((k2+1:Nat):Int))]) (by kernel_rfl) (fun _ h=>h) ?_;exact hN2 (v19++[([x1]++x2)]) h
def Xt:Option Bool :=
 (some true)
def XP (N1:(Option Bool)):Option Bool :=
 N1
def Qx (x1:Int) (a2:(List Bool)) (K7:(Option Bool)):List Int→Nat→Option Bool
 | [],k2=>K7
 | x2::r2,k2=>(chk (decide ((0:Int)≤x1∧x1<((7:Nat):Int)∧0<7)) (chk (decide ((0:Int)≤x2∧x2<((7:Nat):Int)∧0<1)) ((a2[((0+A0 x1 * 7)+A0 x2 * 1)]?).bind fun e16=>(bif e16 then (some false) else (Qx x1 a2 K7 r2 (k2+1))))))
def JG (a1:(List Int)) (a2:(List Bool)) (K5:(Option Bool)):List Int→Nat→Option Bool
 | [],k1=>K5
 | x1::r1,k1=>((sub a1 0 (k1:Int)).bind fun e10=>(chk (lenOk e10) (Qx x1 a2 (XP (JG a1 a2 K5 r1 (k1+1))) e10 0)))
def Zu (a1:(List Int)) (a2:(List Bool)):Option Bool :=
 (chk (!a2.isEmpty) (chk (lenOk a1) (JG a1 a2 (Xt) a1 0)))
theorem DA (a1:(List Int)) (a2:(List Bool)) (r:Bool) (h:Zu a1 a2=some r):Run Try.prog (.call 76 [l3 none a1,.agg (A4 AV.bool a2)] (.bool r)):=by
 refine cW Try.func76 rfl (env0:=[(0,l3 none a1),(1,.agg (A4 AV.bool a2))]) ?_;unfold Zu at h;refine W.sr ?_;obtain⟨hc4,h⟩:=qq h;let y0:Env:=[(1000003,hB a2)];let z0:=fun t=>EN ((0,l3 none a1)::t);refine WO.boxA (enc:=AV.bool) (l:=a2) (d:=3) 0 Zn hc4 (e1:=z0 ((1,.agg (A4 AV.bool a2))::(3,.pb 1000003 0)::y0)) ?_;let z1:=fun t=>z0 ((3,.pb 1000003 0)::t);refine WO.fn (e2:=z1 y0) ?_;refine W.seq<|W.join (σ:=Unit) (fun s=>[]) (fun s=>(Xt)=some r) (fun s h=>?_) (fun hK5=>?_)
 ·unfold Xt at h;refine W.seq<|W.rt (e2:=[(4,.bool true)]) ?_;refine W.wk (e:=[(4,.bool true)]) ?_;cases h;exact W.rr
 refine W.sr ?_;let z2:=fun t=>z1 ((9,l3 none a1)::(10,I6 (a1.length:Int))::t);refine WO.pq 1 (jM (.int .i64) a1) (e1:=z2 y0)<|WO.fn (e2:=z2 ((11,.int .i64 0)::y0)) ?_;refine W.block ?_;obtain⟨hl1,h⟩:=qq h;refine W.wk (e:=z2 ((11,I6 ((0:Nat):Int))::y0))<|W.range (σ:=Unit) a1 (fun k1 s=>z2 ((11,I6 (k1:Int))::y0)) (fun r0 k0 s=>JG a1 a2 (Xt) r0 k0=some r) (fun s h=>?_) (fun x1 r1 k1 s hx1 hk1 h hN1=>?_) () h
 ·rw[JG.eq_1]at h;refine W.sr ?_;let y1:Env:=(3,.pb 1000003 0)::(9,l3 none a1)::(10,I6 (a1.length:Int))::(11,I6 ((a1).length:Int))::(12,.bool false)::y0;refine WO.pq 0 (jB (jj (l:=a1))) (e1:=z0 y1)<|WO.fn (e2:=z0 y1) ?_;refine W.seq<|W.cF<|W.exit<|W.wk (e:=[]) ?_;exact hK5 () h
 ·rw[JG.eq_2]at h;refine W.sr ?_;let y2:Env:=(3,.pb 1000003 0)::(9,l3 none a1)::(10,I6 (a1.length:Int))::(11,I6 (k1:Int))::(12,.bool true)::y0;refine WO.pq 0 (jB (jD hk1)) (e1:=z0 y2)<|WO.fn (e2:=z0 y2) ?_;refine W.seq<|W.cT<|W.skip ?_;let y3:Env:=(9,l3 none a1)::(10,I6 (a1.length:Int))::(11,I6 (k1:Int))::y0;refine W.wk (e:=z1 y3)<|W.seq<|W.join (σ:=Unit) (fun s=>z1 y3) (fun s=>(XP (JG a1 a2 (Xt) r1 (k1+1)))=some r) (fun s h=>?_) (fun hK7=>?_)
  ·unfold XP at h;refine W.rg<|WO.pq 0 (jI (qS hl1 hk1)) (e1:=z2 ((11,I6 (k1:Int))::(30,I6 ((k1+1:Nat):Int))::y0))<|WO.fn (e2:=z2 ((11,I6 ((k1+1:Nat):Int))::y0)) ?_;exact hN1 () h
  refine W.block<|W.sr<|WO.pq 1 (jE (f:=(AV.int .i64)) hx1) (e1:=z2 ((11,I6 (k1:Int))::(13,I6 (k1:Int))::(14,.ptr (I6 x1))::y0)) ?_;let z3:=fun t=>z1 ((5,I6 (k1:Int))::(6,I6 x1)::t);refine WO.fn (e2:=z3 y3) ?_;refine W.sr ?_;obtain⟨e10,he10,h⟩:=ql h;let z4:=fun t=>z3 ((9,l3 none a1)::(10,I6 (a1.length:Int))::(11,I6 (k1:Int))::(16,l3 none a1)::(17,I6 (k1:Int))::(18,l3 none e10)::t);refine WO.pk 2 (if (0:Int)≤0∧0≤(k1:Int)∧(k1:Int)≤((M6 a1).length:Int) then some (.lst 3 1 none (((M6 a1).take (A0 (k1:Int))).drop (A0 0))) else none) (NM he10) (e1:=z4 y0)<|WO.pq 0 (jM (.int .i64) e10) (e1:=z4 ((19,I6 (e10.length:Int))::y0)) ?_;let z5:=fun t=>z1 ((6,I6 x1)::(9,l3 none a1)::(10,I6 (a1.length:Int))::(11,I6 (k1:Int))::(18,l3 none e10)::(19,I6 (e10.length:Int))::t);refine WO.fn (e2:=z5 ((20,.int .i64 0)::y0)) ?_;refine W.block ?_;obtain⟨hl2,h⟩:=qq h;refine W.wk (e:=z5 ((20,I6 ((0:Nat):Int))::y0))<|W.range (σ:=Unit) e10 (fun k2 s=>z5 ((20,I6 (k2:Int))::y0)) (fun r0 k0 s=>Qx x1 a2 (XP (JG a1 a2 (Xt) r1 (k1+1))) r0 k0=some r) (fun s h=>?_) (fun x2 r2 k2 s hx2 hk2 h hN2=>?_) () h
  ·rw[Qx.eq_1]at h;refine W.sr ?_;let y4:Env:=(3,.pb 1000003 0)::(6,I6 x1)::(9,l3 none a1)::(10,I6 (a1.length:Int))::(11,I6 (k1:Int))::(18,l3 none e10)::(19,I6 (e10.length:Int))::(20,I6 ((e10).length:Int))::(21,.bool false)::y0;refine WO.pq 0 (jB (jj (l:=e10))) (e1:=z0 y4)<|WO.fn (e2:=z0 y4) ?_;refine W.seq<|W.cF<|W.exit<|W.wk (e:=z1 y3) ?_;exact hK7 () h
  ·rw[Qx.eq_2]at h;refine W.sr ?_;let y5:Env:=(3,.pb 1000003 0)::(6,I6 x1)::(9,l3 none a1)::(10,I6 (a1.length:Int))::(11,I6 (k1:Int))::(18,l3 none e10)::(19,I6 (e10.length:Int))::(20,I6 (k2:Int))::(21,.bool true)::y0;refine WO.pq 0 (jB (jD hk2)) (e1:=z0 y5)<|WO.fn (e2:=z0 y5) ?_;refine W.seq<|W.cT<|W.skip ?_;let y6:Env:=(9,l3 none a1)::(10,I6 (a1.length:Int))::(11,I6 (k1:Int))::(18,l3 none e10)::(19,I6 (e10.length:Int))::(20,I6 (k2:Int))::y0;let z6:=fun t=>z1 ((6,I6 x1)::t);refine W.wk (e:=z6 y6)<|W.seq<|W.block<|W.sr ?_;let z7:=fun t=>z5 ((20,I6 (k2:Int))::t);refine WO.pq 0 (jE (f:=(AV.int .i64)) hx2) (e1:=z7 ((22,.ptr (I6 x2))::y0))<|WO.fn (e2:=z6 ((8,I6 x2)::y6)) ?_;refine W.sr ?_;obtain⟨hc14,h⟩:=qq h;let z8:=fun t=>z6 ((8,I6 x2)::(9,l3 none a1)::(10,I6 (a1.length:Int))::(11,I6 (k1:Int))::(18,l3 none e10)::(19,I6 (e10.length:Int))::(20,I6 (k2:Int))::(24,I6 x1)::(25,I6 x2)::(26,.pb 1000003 (0+A0 x1 * 7))::t);refine WO.pi 2 (v:=.pb 1000003 (0+A0 x1 * 7)) hc14 (e1:=z8 y0) ?_;obtain⟨hc15,h⟩:=qq h;let z9:=fun t=>z8 ((27,.pb 1000003 ((0+A0 x1 * 7)+A0 x2 * 1))::t);refine WO.pi 0 (v:=.pb 1000003 ((0+A0 x1 * 7)+A0 x2 * 1)) hc15 (e1:=z9 y0) ?_;obtain⟨e16,he16,h⟩:=ql h;refine WO.pk 0 (cut Try.prog 4 (A4 AV.bool a2) ((0+A0 x1 * 7)+A0 x2 * 1)) (qhZ Zn (by kernel_rfl) he16) (e1:=z9 ((28,.bool e16)::y0))<|WO.fn (e2:=z7 ((28,.bool e16)::y0)) ?_;refine W.ch e16 h (fun h=>?_) (fun h=>?_)
   ·refine W.seq<|W.rt (e2:=[(4,.bool false)]) ?_;refine W.wk (e:=[(4,.bool false)]) ?_;cases h;exact W.rr
   refine W.sw (e:=z6 y6) ?_;refine W.rg<|WO.pq 0 (jI (qS hl2 hk2)) (e1:=z7 ((29,I6 ((k2+1:Nat):Int))::y0))<|WO.fn (e2:=z5 ((20,I6 ((k2+1:Nat):Int))::y0)) ?_;exact hN2 () h
end Go.AM
