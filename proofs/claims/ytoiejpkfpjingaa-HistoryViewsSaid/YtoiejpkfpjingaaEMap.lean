import Derived.Test.YtoiejpkfpjingaaHD1
import Derived.Test.YtoiejpkfpjingaaASimJ
set_option linter.all false
set_option maxRecDepth 100000
open Option renaming bind_some→A0
open Nat renaming le_of_ble_eq_true→A1, le_refl→B6, ble_eq_true_of_le→C9
open List renaming length_map→A2, findSome?_cons→A3, map_cons→A4, append_assoc→A5, length_append→A6, map_nil→A8, singleton_append→A9, length_erase_of_mem→B8, filter_cons→C7, mem_cons_of_mem→D0, mem_cons_self→D1, perm_cons_erase→D4
open Bool renaming and_eq_true→A7, false_eq_true→D2, or_eq_false_iff→D3
open Int renaming toNat→B7
namespace Go.AM
open Go.Proofs
def bigFuel:Nat:=36893488147419103232
theorem jy {α:Type} {l:List α} (h:l.length≤9223372036854775807):lenOk l=true:=C9 (by omega)
theorem qt {α:Type} {x:Option α}:chk true x=x:=rfl
theorem wr {i:Int} (h1 : -9000000000000000000≤i) (h2:i≤9000000000000000000):IntKind.wrap .i64 i=i:=qbF (by omega) (by omega)
theorem capS {b n:Nat} (hb:b≤1000) (hn:n≤100000):capOk b n=true:=by
 have:n * b≤100000 * 1000:=Nat.mul_le_mul hn hb;simp only[capOk,A7,Nat.ble_eq];omega
theorem wf6 {i:Int} (h1 : -1000≤i) (h2:i≤1000):wfI .i64 i=true:=by
 unfold wfI Lit.wf;simp[IntKind.min,IntKind.max,IntKind.signed,IntKind.bits];omega
theorem HN {α:Type} (p q:List α):sub (p++q) 0 ((p.length:Nat):Int)=some p:=by
 unfold sub;rw[if_pos ⟨by omega,by omega,by simp;omega⟩];simp
theorem qbt {α:Type} {l:List α} {i:Nat} {x:α} (h:l[i]? = some x):idx l ((i:Nat):Int)=some x:=by
 unfold idx;rw[if_pos (Int.natCast_nonneg _),Int.toNat_natCast];exact h
theorem Hm {V:Type} (z v:V) (k t:Int):∀ l:List (Int×V),mget keq1 z t (mset keq1 k v l)=if k=t then v else mget keq1 z t l
 | []=>by
  unfold mset mget mget keq1;by_cases h:k=t
  ·subst h;simp
  ·have:(k == t)=false:=beq_eq_false_iff_ne.2 h;rw[this,if_neg h];rfl
 | p::r=>by
  have ih:=Hm z v k t r;unfold mset;by_cases hk:p.1=k
  ·have e1:keq1 p.1 k=true:=by unfold keq1;simp[hk]
   rw[e1];simp only[cond_true];unfold mget;have e2:keq1 (p.1,v).1 t=keq1 p.1 t:=rfl;rw[e2];by_cases h:k=t
   ·rw[if_pos h]
    have:keq1 p.1 t=true:=by unfold keq1;simp[hk,h]
    rw[this];rfl
   ·rw[if_neg h]
    have:keq1 p.1 t=false:=by unfold keq1;rw[hk];exact beq_eq_false_iff_ne.2 h
    rw[this];rfl
  ·have e1:keq1 p.1 k=false:=by unfold keq1;exact beq_eq_false_iff_ne.2 hk
   rw[e1];simp only[cN];unfold mget;rw[ih];by_cases hp:p.1=t
   ·have e2:keq1 p.1 t=true:=by unfold keq1;simp[hp]
    have h:¬ k=t:=fun e=>hk (by rw[hp,e])
    simp only[e2,if_neg h]
   ·have e2:keq1 p.1 t=false:=by unfold keq1;exact beq_eq_false_iff_ne.2 hp
    rw[e2];rfl
theorem qal {V:Type} (k:Int) (v:V):∀ l:List (Int×V),(mset keq1 k v l).length≤l.length+1
 | []=>by simp[mset]
 | p::r=>by
  have:=qal k v r;unfold mset;cases keq1 p.1 k <;> simp <;> omega
def cv (x:rf5Op):hsOp:=hsOp.mk x.qa x.qb x.qc
theorem qdS (K:List hsOp→Option (List hsOp)):∀ (r:List rf5Op) (k:Nat) (v:List hsOp),v.length=k→k≤43→JQ K r k v=K (v++(r.take (43 - k)).map cv)
 | [],k,v,hv,hk=>by rw[JQ.eq_1];simp
 | x::r,k,v,hv,hk=>by
  rw[JQ.eq_2];by_cases h:k=43
  ·subst h;rw[decide_eq_true (by omega)];simp
  ·rw[decide_eq_false (by omega),capS (by omega) (by simp;omega)];simp only[cN,qt];rw[qdS K r (k+1) _ (by simp;omega) (by omega)]
   have:43 - k=(43 - (k+1))+1:=by omega
   rw[this,List.take_succ_cons,A4,A5];rfl
theorem qdT {h:List rf5Op} (hl:lenOk h=true):UY h=some ((h.take 43).map cv):=by
 unfold UY;rw[hl,qt,qdS _ h 0 [] rfl (by omega)];rfl
def bad6 (x:rf5Op):Bool:=decide (x.qa<1) || (decide (x.qa > 6) || (decide (x.qb<0) || (decide (x.qb > 3) || (decide (x.qc<0) || decide (x.qc > 5)))))
def ended (t:Int) (l:List rf5Op):Bool:=l.any fun p=>(p.qa == t) && decide (p.qb > 1)
def okFrom (pre:List rf5Op):List rf5Op→Bool
 | []=>true
 | x::r=>(!bad6 x && (!(decide (x.qb > 1) && (x.qc != 0)) && !ended x.qa pre)) && okFrom (pre++[x]) r
theorem chain6 {β:Type} (a z:β) (d1 d2 d3 d4 d5 d6:Bool):(bif d1 then a else bif d2 then a else bif d3 then a else bif d4 then a else bif d5 then a else bif d6 then a else z)=bif (d1 || (d2 || (d3 || (d4 || (d5 || d6))))) then a else z:=by
 cases d1 <;> cases d2 <;> cases d3 <;> cases d4 <;> cases d5 <;> cases d6 <;> rfl
theorem Hb (x:rf5Op) (K:Option Bool):∀ (e:List rf5Op) (k:Nat),jP x K e k=bif ended x.qa e then some false else K
 | [],k=>by rw[jP.eq_1];rfl
 | p::e,k=>by
  rw[jP.eq_2,Hb x K e (k+1)];unfold Qf ended;rw[List.any_cons]
  cases (p.qa == x.qa) with
  | false=>rfl
  | true=>cases decide (p.qb > 1) <;> rfl
theorem Hc {h:List rf5Op} (hh:lenOk h=true) (K:Option Bool):∀ (r:List rf5Op) (k:Nat) (pre:List rf5Op),h=pre++r→pre.length=k→qC h K r k=bif okFrom pre r then K else some false
 | [],k,pre,_,_=>by rw[qC.eq_1];rfl
 | x::r,k,pre,he,hk=>by
  have ih:=Hc hh K r (k+1) (pre++[x]) (by rw[he];simp) (by simp[hk])
  have hsub:sub h 0 (k:Int)=some pre:=by rw[he,← hk];exact HN pre _
  have hlp:lenOk pre=true:=by
   have:=A1 hh;rw[he,A6]at this;exact jy (by omega)
  rw[qC.eq_2,chain6,ih];unfold jv qR;rw[hsub];simp only[A0,hlp,qt,Hb,cond_true,cN];show _=bif (!bad6 x && (!(decide (x.qb > 1) && (x.qc != 0)) && !ended x.qa pre)) && okFrom (pre++[x]) r then K else some false;have:(decide (x.qa<1) || (decide (x.qa > 6) || (decide (x.qb<0) || (decide (x.qb > 3) || (decide (x.qc<0) || decide (x.qc > 5))))))=bad6 x:=rfl;rw[this];cases bad6 x <;> cases decide (x.qb > 1) <;> cases (x.qc != 0) <;> cases ended x.qa pre <;> rfl
def validB (h:List rf5Op):Bool:=okFrom [] h && decide (h.length≤40)
theorem qba {h:List rf5Op} (hh:lenOk h=true):XW h=some (validB h):=by
 unfold XW;rw[hh,qt,Hc hh _ h 0 [] rfl rfl];unfold Ja validB
 have:decide ((h.length:Int)≤40)=decide (h.length≤40):=by
  by_cases hc:h.length≤40
  ·rw[decide_eq_true (by omega),decide_eq_true hc]
  ·rw[decide_eq_false (by omega),decide_eq_false hc]
 rw[this];cases okFrom [] h <;> rfl
theorem Hf (K:Option Bool):∀ (r:List rf5Op) (k:Nat) (pre:List rf5Op) (m:List (Int×Bool)),(∀ t,mget keq1 false t m=ended t pre)→m.length≤pre.length→pre.length+r.length≤1000 →
  qV K (r.map cv) k m=bif okFrom pre r then K else some false
 | [],k,pre,m,_,_,_=>by rw[A8,qV.eq_1];rfl
 | x::r,k,pre,m,hm,hml,hl=>by
  have hl:pre.length+(r.length+1)≤1000:=hl
  have ih:=fun m' h1 h2=>Hf K r (k+1) (pre++[x]) m' h1 h2 (by simp;omega)
  rw[A4,qV.eq_2];unfold Qy ja;simp only[chain6]
  have e5:decide ((cv x).qc ≥ 6)=decide (x.qc > 5):=by
   by_cases hc:x.qc > 5
   ·rw[decide_eq_true hc];exact decide_eq_true (show x.qc ≥ 6 by omega)
   ·rw[decide_eq_false hc];exact decide_eq_false (show ¬ x.qc ≥ 6 by omega)
  rw[e5];have:(decide ((cv x).qa<1) || (decide ((cv x).qa > 6) || (decide ((cv x).qb<0) || (decide ((cv x).qb > 3) || (decide ((cv x).qc<0) || decide (x.qc > 5))))))=bad6 x:=rfl;rw[this];show _=bif (!bad6 x && (!(decide (x.qb > 1) && (x.qc != 0)) && !ended x.qa pre)) && okFrom (pre++[x]) r then K else some false
  cases hb:bad6 x with
  | true =>
   simp only[cond_true];cases ((cv x).qb == 2) <;> rfl
  | false =>
   simp only[bad6,D3,decide_eq_false_iff_not]at hb;obtain⟨b1,b2,b3,b4,b5,b6⟩:=hb;have hwf:wfI .i64 (cv x).qa=true:=wf6 (by show -1000≤x.qa;omega) (by show x.qa≤1000;omega);have hml2:Nat.blt m.length 1000000000=true:=C9 (by omega);have hmt:mget keq1 false (cv x).qa m=ended x.qa pre:=hm x.qa;simp only[cN,hwf,qt,hml2,hmt]
   have hstep:∀ b:Bool,b=decide (x.qb > 1)→ended x.qa pre=false→qV K (r.map cv) (k+1) (mset keq1 (cv x).qa b m)=bif okFrom (pre++[x]) r then K else some false:=by
    intro b hb2 hen;refine ih _ (fun t=>?_) (by have:=qal x.qa b m;rw[A6,List.length_singleton];show (mset keq1 x.qa b m).length≤_;omega);show mget keq1 false t (mset keq1 x.qa b m)=_;rw[Hm,hm];unfold ended at hen ⊢;rw[List.any_append,List.any_cons,List.any_nil,Bool.or_false];by_cases ht:x.qa=t
    ·subst ht;rw[if_pos rfl,hen,hb2];simp
    ·rw[if_neg ht];have:(x.qa == t)=false:=beq_eq_false_iff_ne.2 ht;rw[this];simp
   have k2:((cv x).qb == 2)=(x.qb == 2):=rfl;have k3:((cv x).qb == 3)=(x.qb == 3):=rfl;have i0:((cv x).qc != 0)=(x.qc != 0):=rfl;rw[k2,k3,i0];by_cases hk:x.qb > 1
   ·have h23:(x.qb == 2)=true∨(x.qb == 2)=false∧(x.qb == 3)=true:=by
     by_cases h2:x.qb=2
     ·left;simp[h2]
     ·right;exact⟨beq_eq_false_iff_ne.2 h2,by simp;omega⟩
    have hst:=hstep true (decide_eq_true hk).symm;rw[decide_eq_true hk]
    cases hi:(x.qc != 0) with
    | true=>rcases h23 with h2 | ⟨h2,h3⟩ <;> simp[*]
    | false =>
     cases hen:ended x.qa pre with
     | true=>rcases h23 with h2 | ⟨h2,h3⟩ <;> simp[*]
     | false =>
      have:=hst hen
      rcases h23 with h2 | ⟨h2,h3⟩ <;> simp[*]
   ·have h2:(x.qb == 2)=false:=beq_eq_false_iff_ne.2 (by omega);have h3:(x.qb == 3)=false:=beq_eq_false_iff_ne.2 (by omega);have hst:=hstep false (decide_eq_false hk).symm;rw[decide_eq_false hk,h2,h3]
    cases hen:ended x.qa pre with
    | true=>simp
    | false =>
     have:=hst hen;simp[*]
theorem qbf {h:List rf5Op} (hl:h.length≤1000):XD (h.map cv)=some (validB h):=by
 unfold XD validB;rw[A2];by_cases hc:h.length≤40
 ·rw[decide_eq_false (by omega),jy (by simp;omega),decide_eq_true hc];simp only[cN,qt];rw[Hf _ h 0 [] [] (fun t=>rfl) (by simp) (by simp;omega)];unfold Jc;cases okFrom [] h <;> rfl
 ·rw[decide_eq_true (by omega),decide_eq_false hc];simp
theorem qaN {h:List rf5Op}:XD ((h.take 43).map cv)=some (validB h):=by
 rw[qbf (by rw[List.length_take];omega)];by_cases hc:h.length≤43
 ·rw[List.take_of_length_le hc]
 ·unfold validB;rw[decide_eq_false (p:=h.length≤40) (by omega),decide_eq_false (p:=(h.take 43).length≤40) (by rw[List.length_take];omega)];simp
theorem UU:∀ (r pre:List rf5Op),okFrom pre r=true→∀ x,x∈r→bad6 x=false∧(x.qb > 1→x.qc=0)
 | [],pre,_,x,hx=>by cases hx
 | y::r,pre,h,x,hx=>by
  unfold okFrom at h;simp only[A7,Bool.not_eq_true']at h;obtain⟨⟨h1,h2,h3⟩,h4⟩:=h
  rcases List.mem_cons.1 hx with rfl | hx
  ·refine⟨h1,fun hk=>?_⟩;rw[decide_eq_true hk]at h2
   simpa using h2
  ·exact UU r _ h4 x hx
structure Hist (h:List rf5Op):Prop where
 len:h.length≤1000
 txn:∀ x,x∈h→1≤x.qa∧x.qa≤6
 kind:∀ x,x∈h→0≤x.qb∧x.qb≤3
 item:∀ x,x∈h→0≤x.qc∧x.qc≤5
 zero:∀ x,x∈h→x.qb > 1→x.qc=0
theorem UB {h:List rf5Op} (hv:validB h=true):Hist h∧h.length≤40:=by
 unfold validB at hv;simp only[A7,decide_eq_true_eq]at hv;have hm:=UU h [] hv.1
 have hb:∀ x,x∈h→(1≤x.qa∧x.qa≤6)∧(0≤x.qb∧x.qb≤3)∧(0≤x.qc∧x.qc≤5):=by
  intro x hx;have:=(hm x hx).1;simp only[bad6,D3,decide_eq_false_iff_not]at this;omega
 exact⟨⟨by omega,fun x hx=>(hb x hx).1,fun x hx=>(hb x hx).2.1,fun x hx=>(hb x hx).2.2,fun x hx=>(hm x hx).2⟩,hv.2⟩
def endL (t k:Int):List rf5Op→Nat→Int
 | [],_ => -1
 | x::r,i=>bif (x.qa == t) && (x.qb == k) then (i:Int) else endL t k r (i+1)
theorem qdu (t k:Int):∀ (r:List rf5Op) (i:Nat),Jt t k (QI) r i=some (endL t k r i)
 | [],i=>by rw[Jt.eq_1];rfl
 | x::r,i=>by
  rw[Jt.eq_2,qdu t k r (i+1)];unfold XA;show _=some (bif (x.qa == t) && (x.qb == k) then (i:Int) else endL t k r (i+1))
  cases (x.qa == t) with
  | false=>rfl
  | true=>cases (x.qb == k) <;> rfl
theorem Du {h:List rf5Op} (hl:lenOk h=true) (t k:Int):Yk h t k=some (endL t k h 0):=by
 unfold Yk;rw[hl,qt];exact qdu t k h 0
theorem qau {t k:Int} (hk:k > 1):∀ (r:List rf5Op) (i:Nat),(∀ x,x∈r→x.qb > 1→x.qc=0)→jj (hsOp.mk t k 0) (Jw) (r.map cv) i=some (endL t k r i)
 | [],i,_=>by rw[A8,jj.eq_1];rfl
 | x::r,i,hz=>by
  rw[A4,jj.eq_2,qau hk r (i+1) fun y hy=>hz y (D0 _ hy)]
  have:((t == (cv x).qa) && ((k == (cv x).qb) && (((0:Int) == (cv x).qc) && true)))=((x.qa == t) && (x.qb == k)):=by
   show ((t == x.qa) && ((k == x.qb) && (((0:Int) == x.qc) && true)))=_;rw[Bool.beq_comm (a:=t),Bool.beq_comm (a:=k)];by_cases h1:x.qb=k
   ·have:=hz x (D1 ..) (by omega);rw[this];simp
   ·have:(x.qb == k)=false:=beq_eq_false_iff_ne.2 h1;rw[this];simp
  rw[this];show _=some (bif (x.qa == t) && (x.qb == k) then (i:Int) else endL t k r (i+1));cases (x.qa == t) && (x.qb == k) <;> rfl
theorem qcB {h:List rf5Op} (H:Hist h) {t k:Int} (hk:k > 1):Qd (h.map cv) (hsOp.mk t k 0)=some (endL t k h 0):=by
 have:=H.len;unfold Qd;rw[jy (by simp;omega),qt];exact qau hk h 0 H.zero
def endMap (f:Int→Int):List (Int×Int):=[(1,f 1),(2,f 2),(3,f 3),(4,f 4),(5,f 5),(6,f 6)]
theorem qdi {f:Int→Int} {t:Int} (h1:1≤t) (h2:t≤6):mget keq1 0 t (endMap f)=f t:=by
 have:t=1∨t=2∨t=3∨t=4∨t=5∨t=6:=by omega
 rcases this with rfl | rfl | rfl | rfl | rfl | rfl <;> rfl
theorem Qo {h:List rf5Op} (H:Hist h) {k:Int} (hk:k > 1) (K:List (Int×Int)→Option (List (Int×Int))) {m:Nat} {v:List (Int×Int)} (t t':Int) (h1:1≤t) (h2:t≤6) (ht:t'=t+1) (hv:v.length≤10) :
  qy (h.map cv) k K (m+1) v t=qy (h.map cv) k K m (mset keq1 t (endL t k h 0) v) t':=by
 subst ht;rw[qy.eq_2,decide_eq_true h2,qcB H hk];simp only[cond_true,A0];rw[wf6 (by omega) (by omega),qt,C9 (show v.length+1≤1000000000 by omega) |> (fun e=>show Nat.blt v.length 1000000000=true from e),qt,wr (by omega) (by omega)]
theorem Np {h:List rf5Op} (H:Hist h) {k:Int} (hk:k > 1):jz bigFuel (h.map cv) k=some (endMap fun t=>endL t k h 0):=by
 unfold jz;have e:bigFuel=36893488147419103225+1+1+1+1+1+1+1:=rfl;rw[e,Qo H hk _ 1 2 (by omega) (by omega) rfl (by simp),Qo H hk _ 2 3 (by omega) (by omega) rfl (A1 rfl),Qo H hk _ 3 4 (by omega) (by omega) rfl (A1 rfl),Qo H hk _ 4 5 (by omega) (by omega) rfl (A1 rfl),Qo H hk _ 5 6 (by omega) (by omega) rfl (A1 rfl),Qo H hk _ 6 7 (by omega) (by omega) rfl (A1 rfl)];rw[qy.eq_2,decide_eq_false (by omega)];rfl
def scanB (W:rf5Op→Bool):List rf5Op→Int
 | []=>0
 | p::r=>bif W p then p.qa else scanB W r
def scanF (W:rf5Op→Bool) (v:Int):List rf5Op→Int
 | []=>v
 | p::r=>scanF W (bif W p then p.qa else v) r
theorem UM (W:rf5Op→Bool) (p:rf5Op):∀ (l:List rf5Op) (v:Int),scanF W v (l++[p])=bif W p then p.qa else scanF W v l
 | [],v=>rfl
 | q::l,v=>by
  rw[List.cons_append];unfold scanF;exact UM W p l _
theorem VI (W:rf5Op→Bool):∀ (l:List rf5Op),scanF W 0 l.reverse=scanB W l
 | []=>rfl
 | p::l=>by
  rw[List.reverse_cons,UM,VI W l];rfl
theorem YD {W W':rf5Op→Bool}:∀ {l:List rf5Op},(∀ p,p∈l→W p=W' p)→scanB W l=scanB W' l
 | [],_=>rfl
 | p::l,h=>by
  unfold scanB;rw[h p (D1 ..),YD fun q hq=>h q (D0 _ hq)]
def wins (h:List rf5Op) (i:Nat) (x p:rf5Op):Bool:=(p.qb == 1) && ((p.qc == x.qc) && !(decide (endL p.qa 3 h 0 ≥ 0) && decide (endL p.qa 3 h 0<(i:Int))))
def fromAt (h:List rf5Op) (i:Nat) (x:rf5Op):Int:=bif x.qb != 0 then -1 else scanB (wins h i x) (h.take i).reverse
def fromL (h:List rf5Op):List rf5Op→Nat→List Int
 | [],_=>[]
 | x::r,i=>fromAt h i x::fromL h r (i+1)
theorem VR (h:List rf5Op):∀ (r:List rf5Op) (i:Nat),(fromL h r i).length=r.length
 | [],i=>rfl
 | x::r,i=>by unfold fromL;simp[VR h r (i+1)]
theorem qbP {h:List rf5Op} (H:Hist h) (i:Nat) (x:rf5Op) (K:Int→Option (List Int)):∀ (j m:Nat),j≤h.length→j<m →
  qw (h.map cv) i (cv x) (endMap fun t=>endL t 3 h 0) K m 0 ((j:Int) - 1)=K (scanB (wins h i x) (h.take j).reverse)
 | 0,m,hj,hm=>by
  obtain⟨m,rfl⟩:∃ m',m=m'+1:=⟨m - 1,by omega⟩;rw[qw.eq_2,decide_eq_false (by omega)];rfl
 | j+1,m,hj,hm=>by
  have hlen:=H.len;obtain⟨m,rfl⟩:∃ m',m=m'+1:=⟨m - 1,by omega⟩
  have ej:((j+1:Nat):Int) - 1=(j:Int):=by omega
  have hmem:h[j]∈h:=List.getElem_mem (by omega);have ht:=H.txn _ hmem;have ih:=qbP H i x K j m (by omega) (by omega);rw[qw.eq_2,ej,decide_eq_true (by omega),qbt (x:=cv h[j]) (by rw[List.getElem?_map,List.getElem?_eq_getElem (by omega)];rfl)];simp only[cond_true,A0];have hwf:wfI .i64 (cv h[j]).qa=true:=wf6 (by show -1000≤h[j].qa;omega) (by show h[j].qa≤1000;omega);have hmg:mget keq1 0 (cv h[j]).qa (endMap fun t=>endL t 3 h 0)=endL h[j].qa 3 h 0:=qdi ht.1 ht.2;simp only[hwf,qt,hmg]
  have etk:(h.take (j+1)).reverse=h[j]::(h.take j).reverse:=by
   rw[List.take_succ_eq_append_getElem (by omega),List.reverse_append];rfl
  rw[etk];unfold jZ jC scanB wins;have a1:((cv h[j]).qb == 1)=(h[j].qb == 1):=rfl;have a2:((cv h[j]).qc == (cv x).qc)=(h[j].qc == x.qc):=rfl;have a3:(cv h[j]).qa=h[j].qa:=rfl;rw[a1,a2,a3,wr (by omega) (by omega),ih]
  cases (h[j].qb == 1) with
  | false=>cases decide (endL h[j].qa 3 h 0 ≥ 0) <;> rfl
  | true =>
   cases (h[j].qc == x.qc) with
   | false=>cases decide (endL h[j].qa 3 h 0 ≥ 0) <;> rfl
   | true=>cases decide (endL h[j].qa 3 h 0 ≥ 0) <;> cases decide (endL h[j].qa 3 h 0<(i:Int)) <;> rfl
theorem qbQ {h:List rf5Op} (H:Hist h) (K:List Int→Option (List Int)):∀ (r:List rf5Op) (k:Nat) (v:List Int),k+r.length=h.length→v.length=k →
  qi bigFuel (h.map cv) (endMap fun t=>endL t 3 h 0) K (r.map cv) k v=K (v++fromL h r k)
 | [],k,v,_,_=>by rw[A8,qi.eq_1];simp[fromL]
 | x::r,k,v,hk,hv=>by
  have hlen:=H.len;have hk:k+(r.length+1)=h.length:=hk
  have ih:=fun z=>qbQ H K r (k+1) (v++[z]) (by omega) (by simp;omega)
  have hcap:∀ z:Int,capOk 8 (v++[z]).length=true:=fun z=>capS (by omega) (by simp;omega)
  rw[A4,qi.eq_2];unfold qx qB;rw[wr (by omega) (by omega),qbP H k x _ k bigFuel (by omega) (by unfold bigFuel;omega)];simp only[hcap,qt,ih];have:((cv x).qb != 0)=(x.qb != 0):=rfl;rw[this];have ef:fromL h (x::r) k=fromAt h k x::fromL h r (k+1):=rfl;rw[ef];unfold fromAt
  cases (x.qb != 0) with
  | true=>simp only[cond_true,A5,A9]
  | false=>simp only[cN,A5,A9]
theorem qdq {h:List rf5Op} (H:Hist h):JL bigFuel (h.map cv)=some (fromL h h 0):=by
 have:=H.len;unfold JL;rw[Np H (by omega)];simp only[A0];rw[jy (by simp;omega),qt,qbQ H _ h 0 [] (by simp) rfl];rfl
def winsR (h:List rf5Op) (i:Nat) (x p:rf5Op):Bool:=(p.qb == 1) && ((p.qc == x.qc) && (decide (endL p.qa 3 h 0<0) || decide (endL p.qa 3 h 0 > (i:Int))))
theorem qbR (t k:Int):∀ (r:List rf5Op) (j i:Nat),endL t k r j=(i:Int)→∃ x,r[i - j]? = some x∧j≤i∧x.qb=k
 | [],j,i,h=>by unfold endL at h;omega
 | x::r,j,i,h=>by
  unfold endL at h
  cases hc:(x.qa == t) && (x.qb == k) with
  | true =>
   rw[hc]at h;simp only[cond_true]at h
   obtain rfl:j=i:=by omega
   simp only[A7,beq_iff_eq]at hc;exact⟨x,by simp,B6 _,hc.2⟩
  | false =>
   rw[hc]at h;obtain⟨y,h1,h2,h3⟩:=qbR t k r (j+1) i h;refine⟨y,?_,by omega,h3⟩
   have:i - j=(i - (j+1))+1:=by omega
   rw[this,List.getElem?_cons_succ];exact h1
theorem qbT {h:List rf5Op} {i:Nat} {x:rf5Op} (hx:h[i]? = some x) (h0:x.qb=0) (p:rf5Op):wins h i x p=winsR h i x p:=by
 unfold wins winsR
 congr 2
 have hne:endL p.qa 3 h 0≠(i:Int):=fun e=>by
  obtain⟨y,h1,_,h3⟩:=qbR _ _ h 0 i e;rw[Nat.sub_zero,hx]at h1;cases h1;omega
 by_cases h1:endL p.qa 3 h 0<0
 ·rw[decide_eq_true h1,decide_eq_false (p:=endL p.qa 3 h 0 ≥ 0) (by omega)];rfl
 ·rw[decide_eq_false h1,decide_eq_true (p:=endL p.qa 3 h 0 ≥ 0) (by omega)];by_cases h2:endL p.qa 3 h 0<(i:Int)
  ·rw[decide_eq_true h2,decide_eq_false (by omega)];rfl
  ·rw[decide_eq_false h2,decide_eq_true (by omega)];rfl
theorem DR {h:List rf5Op} (hl:lenOk h=true) (i:Nat) (x:rf5Op) (K:Int→Option (List Int)):∀ (e:List rf5Op) (k:Nat) (v:Int),jb h i x K e k v=K (scanF (winsR h i x) v e)
 | [],k,v=>by rw[jb.eq_1];rfl
 | p::e,k,v=>by
  rw[jb.eq_2];unfold Qq Qp JE;simp only[Du hl,A0,DR hl i x K e (k+1)];have ef:scanF (winsR h i x) v (p::e)=scanF (winsR h i x) (bif winsR h i x p then p.qa else v) e:=rfl;have hw:winsR h i x p=((p.qb == 1) && ((p.qc == x.qc) && (decide (endL p.qa 3 h 0<0) || decide (endL p.qa 3 h 0 > (i:Int))))):=rfl;rw[ef,hw]
  cases (p.qb == 1) with
  | false=>rfl
  | true =>
   cases (p.qc == x.qc) with
   | false=>rfl
   | true =>
    cases decide (endL p.qa 3 h 0<0) <;> cases decide (endL p.qa 3 h 0 > (i:Int)) <;> rfl
theorem DS {h:List rf5Op} (H:Hist h) (K:List Int→Option (List Int)):∀ (r:List rf5Op) (k:Nat) (v:List Int) (pre:List rf5Op),h=pre++r→pre.length=k→v.length=k →
  qI h K r k v=K (v++fromL h r k)
 | [],k,v,pre,_,_,_=>by rw[qI.eq_1];simp[fromL]
 | x::r,k,v,pre,he,hk,hv=>by
  have hlen:=H.len;have hl2:=congrArg List.length he;rw[A6,List.length_cons]at hl2
  have ih:=fun z=>DS H K r (k+1) (v++[z]) (pre++[x]) (by rw[he];simp) (by simp[hk]) (by simp[hv])
  have hsub:sub h 0 (k:Int)=some pre:=by
   have:=HN pre (x::r);rw[← he,hk]at this;exact this
  have htk:h.take k=pre:=by rw[he,← hk,List.take_left]
  have hat:h[k]? = some x:=by rw[he,← hk];simp
  rw[qI.eq_2,hsub];simp only[A0];rw[jy (l:=pre) (by omega),qt,DR (jy (by omega))];unfold jw;simp only[capS (b:=8) (n:=(v++[_]).length) (by omega) (by simp;omega),qt,ih];have ef:fromL h (x::r) k=fromAt h k x::fromL h r (k+1):=rfl;rw[ef];unfold fromAt;rw[htk];by_cases h0:x.qb=0
  ·have e1:(x.qb == 0)=true:=by simp[h0]
   have e2:(x.qb != 0)=false:=by simp[h0]
   rw[e1,e2];simp only[cond_true,cN];rw[YD fun p _=>qbT hat h0 p,← VI,List.reverse_reverse,A5,A9]
  ·have e1:(x.qb == 0)=false:=beq_eq_false_iff_ne.2 h0
   have e2:(x.qb != 0)=true:=by simp[h0]
   rw[e1,e2];simp only[cond_true,cN,A5,A9]
theorem qcj {h:List rf5Op} (H:Hist h):YM h=some (fromL h h 0):=by
 have:=H.len;unfold YM;rw[jy (by omega),qt,DS H _ h 0 [] [] rfl rfl rfl];rfl
theorem Nn:∀ (p q:List Int),qN (p++q) (Jk) q p.length=some true
 | p,[]=>by rw[qN.eq_1];rfl
 | p,x::q=>by
  have h:idx (p++x::q) ((p.length:Nat):Int)=some x:=qbt (by simp);rw[qN.eq_2,h];simp only[A0,bne_self_eq_false,cN];have:=Nn (p++[x]) q
  simpa using this
theorem qbx {l:List Int} (hl:l.length≤100000):Jn l l=some true:=by
 unfold Jn;rw[jy (by omega)];simp only[bne_self_eq_false,cN,qt];exact Nn [] l
theorem qcV {l:List Int} (hm:l.Pairwise fun a b=>a≤b):sortI l=l:=by
 have h1:(sortI l).Pairwise fun a b=>decide (a≤b)=true:=List.pairwise_mergeSort (by intro a b c;simp;omega) (by intro a b;simp;omega) l
 refine List.Perm.eq_of_pairwise (le:=fun a b=>a≤b) (fun a b _ _ x y=>by omega) (h1.imp fun h=>by simpa using h) hm (List.mergeSort_perm l _)
def commL (h:List rf5Op):List Int:=([1,2,3,4,5,6]:List Int).filter fun t=>decide (endL t 2 h 0 ≥ 0)
theorem qdw (f:Int→Int):comm (endMap f)=([1,2,3,4,5,6]:List Int).filter fun t=>decide (f t ≥ 0):=by
 have:endMap f=([1,2,3,4,5,6]:List Int).map fun t=>(t,f t):=rfl
 unfold comm;rw[this,List.filter_map,List.map_map];have e:(Prod.fst ∘ fun t:Int=>(t,f t))=id:=rfl;rw[e,List.map_id];rfl
theorem XQ {h:List rf5Op} (H:Hist h):qW bigFuel (h.map cv)=some (commL h):=by
 unfold qW;rw[Np H (by omega)];simp only[A0];have:decide ((endMap fun t=>endL t 2 h 0).length≤1000)=true:=rfl;rw[this,qt,qdw]
 have hp:(([1,2,3,4,5,6]:List Int).filter fun t=>decide (endL t 2 h 0 ≥ 0)).Pairwise fun a b=>a≤b:=by
  refine List.Pairwise.filter _ ?_
  decide
 rw[qcV hp];rfl
def sample:List rf5Op:=[⟨2,1,0⟩,⟨1,0,0⟩,⟨1,2,0⟩,⟨2,2,0⟩]
theorem DL:Hist sample:=(UB (by rfl)).1
theorem qcJ:Xq bigFuel=some true:=by
 have e:[(hsOp.mk 2 1 0),(hsOp.mk 1 0 0),(hsOp.mk 1 2 0),(hsOp.mk 2 2 0)]=sample.map cv:=rfl;have hc:=XQ DL;have hcl:commL sample=[1,2]:=rfl;rw[hcl]at hc
 have ho:YV bigFuel (sample.map cv)=some ([2,1],0):=by
  unfold YV jW;rw[hc]
  kernel_rfl
 unfold Xq;rw[e,ho];rfl
def jO (v25:(List (List Int))):Option (List (List Int)) :=
 (some v25)
def Js (N1:((List (List Int))→Option (List (List Int)))) (v24:(List (List Int))):Option (List (List Int)) :=
 (N1 v24)
def jN (x1:Int) (K10:((List (List Int))→Option (List (List Int)))):List (List Int)→Nat→(List (List Int))→Option (List (List Int))
 | [],k2,v19=>(K10 v19)
 | x2::r2,k2,v19=>(chk (capOk 8 (([x1]++x2)).length) (chk (capOk 24 ((v19++[([x1]++x2)])).length) ((jN x1 K10 r2 (k2+1)) (v19++[([x1]++x2)]))))
def qQ (a1:(List Int)) (K0:((List Int)→Option (List (List Int)))) (K7:((List (List Int))→Option (List (List Int)))):List Int→Nat→(List (List Int))→Option (List (List Int))
 | [],k1,v9=>(K7 v9)
 | x1::r1,k1,v9=>((sub a1 0 (k1:Int)).bind fun e13=>(chk (capOk 8 ((([]:(List Int))++e13)).length) ((sub a1 ((k1+1:Nat):Int) (a1.length:Int)).bind fun e15=>(chk (capOk 8 (((([]:(List Int))++e13)++e15)).length) ((K0 ((([]:(List Int))++e13)++e15)).bind fun w18=>(chk (lenOk w18) (jN x1 (Js (qQ a1 K0 K7 r1 (k1+1))) w18 0 v9)))))))
def jG:Nat→(List Int)→Option (List (List Int))
 | 0,_=>none
 | fuel+1,a1=>(bif ((a1.length:Int) == 0) then (some [([]:(List Int))]) else (chk (lenOk a1) (qQ a1 (jG fuel) (jO) a1 0 ([]:(List (List Int))))))
theorem NC:∀ (fuel:Nat) (a1:(List Int)) (r:(List (List Int))) (h:jG fuel a1=some r),Run Try.prog (.call 67 [l3 none a1] (l24 none r)):=by
 intro fuel
 induction fuel with
 | zero=>intro a1 r h;cases h
 | succ fuel ih =>
  intro a1 r h;refine cW Try.func67 rfl (env0:=[(0,l3 none a1)]) ?_;rw[jG.eq_2]at h;refine W.seq ?_;let z0:=fun t=>EN ((0,l3 none a1)::t);refine W.rt (e2:=z0 []) ?_;refine W.seq<|W.sr<|WO.pq 1 (jM (.int .i64) a1) (e1:=z0 [(9,l3 none a1),(10,I6 (a1.length:Int))])<|WO.fn (e2:=z0 [(11,.bool ((a1.length:Int) == 0))]) ?_;refine W.ch ((a1.length:Int) == 0) h (fun h=>?_) (fun h=>?_)
  ·refine W.seq<|W.rt (e2:=[(2,l24 (some 12) [([]:(List Int))])]) ?_;refine W.weak [2] [] [] [(12,none)] (env':=[(2,l24 none [([]:(List Int))])]) (by kernel_rfl) ?_;cases h;exact W.rr
  refine W.sw (e:=z0 []) ?_;refine W.seq<|W.rt (e2:=z0 [(3,.nils)]) ?_;refine W.seq<|W.join (σ:=((List (List Int)))) (fun s=>[(3,l24 (some 10300) s)]) (fun s=>(jO) s=some r) (fun v25 h=>?_) (fun hK7=>?_)
  ·unfold jO at h;refine W.seq<|W.rt (e2:=[(2,l24 (some 10300) v25)]) ?_;refine W.weak [2] [] [] [(10300,none)] (env':=[(2,l24 none v25)]) (by kernel_rfl) ?_;cases h;exact W.rr
  refine W.sr ?_;let z1:=fun t=>z0 ((3,.nils)::(13,l3 none a1)::(14,I6 (a1.length:Int))::t);refine WO.pq 1 (jM (.int .i64) a1) (e1:=z1 [])<|WO.fn (e2:=z1 [(15,.int .i64 0)]) ?_;refine W.block ?_;obtain⟨hl1,h⟩:=qh h;refine W.weak [0,3,13,14,15] [] [(3,0,24,1,10300)] [] (env':=z0 [(3,l24 (some 10300) ([]:(List (List Int)))),(13,l3 none a1),(14,I6 (a1.length:Int)),(15,I6 ((0:Nat):Int))]) (by kernel_rfl)<|W.range (σ:=((List (List Int)))) a1 (fun k1 s=>z0 [(3,l24 (some 10300) s),(13,l3 none a1),(14,I6 (a1.length:Int)),(15,I6 (k1:Int))]) (fun r0 k0 s=>qQ a1 (jG fuel) (jO) r0 k0 s=some r) (fun v9 h=>?_) (fun x1 r1 k1 s hx1 hk1 h hN1=>?_) ([]:(List (List Int))) h
  ·have h:qQ a1 (jG fuel) (jO) [] (a1).length v9=some r:=h;rw[qQ.eq_1]at h;refine W.sr ?_;let y0:Env:=[(3,l24 (some 10300) v9),(13,l3 none a1),(14,I6 (a1.length:Int)),(15,I6 ((a1).length:Int)),(16,.bool false)];refine WO.pq 0 (jB (qS (l:=a1))) (e1:=z0 y0)<|WO.fn (e2:=z0 y0) ?_;refine W.seq<|W.cF<|W.exit<|W.wk (e:=[(3,l24 (some 10300) v9)]) ?_;exact hK7 v9 h
  ·obtain⟨v9,rfl⟩:∃ x,x=s:=⟨s,rfl⟩;have h:qQ a1 (jG fuel) (jO) (x1::r1) k1 v9=some r:=h;rw[qQ.eq_2]at h;refine W.sr ?_;let y1:Env:=[(3,l24 (some 10300) v9),(13,l3 none a1),(14,I6 (a1.length:Int)),(15,I6 (k1:Int)),(16,.bool true)];refine WO.pq 0 (jB (jp hk1)) (e1:=z0 y1)<|WO.fn (e2:=z0 y1) ?_;refine W.seq<|W.cT<|W.skip ?_;let y2:Env:=[(13,l3 none a1),(14,I6 (a1.length:Int)),(15,I6 (k1:Int))];let z2:=fun t=>z0 ((3,l24 (some 10300) v9)::t);refine W.wk (e:=z2 y2)<|W.seq<|W.join (σ:=((List (List Int)))) (fun s=>z0 ((3,l24 (some 10300) s)::y2)) (fun s=>(Js (qQ a1 (jG fuel) (jO) r1 (k1+1))) s=some r) (fun v24 h=>?_) (fun hK10=>?_)
   ·unfold Js at h;refine W.rg ?_;let z3:=fun t=>z0 ((3,l24 (some 10300) v24)::(13,l3 none a1)::(14,I6 (a1.length:Int))::t);refine WO.pq 0 (jI (qE hl1 hk1)) (e1:=z3 [(15,I6 (k1:Int)),(45,I6 ((k1+1:Nat):Int))])<|WO.fn (e2:=z3 [(15,I6 ((k1+1:Nat):Int))]) ?_;exact hN1 v24 h
   refine W.block<|W.sr<|WO.pq 1 (jq (f:=(AV.int .i64)) hx1) (e1:=z2 [(13,l3 none a1),(14,I6 (a1.length:Int)),(15,I6 (k1:Int)),(17,I6 (k1:Int)),(18,.ptr (I6 x1))]) ?_;let z4:=fun t=>z2 ((4,I6 (k1:Int))::(5,I6 x1)::t);refine WO.fn (e2:=z4 y2) ?_;refine W.seq<|W.regionB (by kernel_rfl) ?_;obtain⟨e13,he13,h⟩:=qd h;let z5:=fun t=>z4 ((13,l3 none a1)::(14,I6 (a1.length:Int))::(15,I6 (k1:Int))::t);refine WB.pureK 3 (if (0:Int)≤0∧0≤(k1:Int)∧(k1:Int)≤((M6 a1).length:Int) then some (.lst 3 1 none (((M6 a1).take (B7 (k1:Int))).drop (B7 0))) else none) (v:=l3 none e13) (by kernel_rfl) (HO he13) (e1:=z5 [(20,l3 (some 20) ([]:(List Int))),(21,l3 none a1),(22,I6 (k1:Int)),(23,l3 none e13)]) (by kernel_rfl) ?_;obtain⟨hc14,h⟩:=qh h;let z6:=fun t=>z5 ((20,l3 none ([]:(List Int)))::(21,l3 none a1)::(22,I6 (k1:Int))::(23,l3 none e13)::(24,l3 (some 24) (([]:(List Int))++e13))::t);refine WB.appendK 0 (by kernel_rfl) (d:=24) (e:=3) (s:=1) (bytes:=8) (xs:=(M6 ([]:(List Int)))) (ys:=(M6 e13)) (zs:=(M6 (([]:(List Int))++e13))) (env1:=[(0,l3 none a1),(3,l24 (some 10300) v9),(4,I6 (k1:Int)),(5,I6 x1),(13,l3 none a1),(14,I6 (a1.length:Int)),(15,I6 (k1:Int)),(20,l3 none ([]:(List Int))),(21,l3 none a1),(22,I6 (k1:Int)),(23,l3 none e13)]) (by kernel_rfl) (List.map_append.symm) (by rw[A2];exact hc14) (e1:=z6 []) (by kernel_rfl) ?_;let z7:=fun t=>z6 ((25,l3 none a1)::(26,I6 (k1:Int))::(27,I6 ((k1+1:Nat):Int))::t);refine WB.pureK 2 (some (I6 (IntKind.wrap .i64 ((k1:Int)+1)))) (v:=I6 ((k1+1:Nat):Int)) (by kernel_rfl) (by rw[qE hl1 hk1]) (e1:=z7 []) (by kernel_rfl) ?_;obtain⟨e15,he15,h⟩:=qd h;refine WB.pureK 0 (if (0:Int)≤((k1+1:Nat):Int)∧((k1+1:Nat):Int)≤((M6 a1).length:Int)∧((M6 a1).length:Int)≤((M6 a1).length:Int) then some (.lst 3 1 none (((M6 a1).take (B7 ((M6 a1).length:Int))).drop (B7 ((k1+1:Nat):Int)))) else none) (v:=l3 none e15) (by kernel_rfl) (UE he15) (e1:=z7 [(28,l3 none e15)]) (by kernel_rfl) ?_;obtain⟨hc16,h⟩:=qh h;refine WB.appendK 0 (by kernel_rfl) (d:=29) (e:=3) (s:=1) (bytes:=8) (xs:=(M6 (([]:(List Int))++e13))) (ys:=(M6 e15)) (zs:=(M6 ((([]:(List Int))++e13)++e15))) (env1:=[(0,l3 none a1),(3,l24 (some 10300) v9),(4,I6 (k1:Int)),(5,I6 x1),(13,l3 none a1),(14,I6 (a1.length:Int)),(15,I6 (k1:Int)),(20,l3 none ([]:(List Int))),(21,l3 none a1),(22,I6 (k1:Int)),(23,l3 none e13),(24,l3 none (([]:(List Int))++e13)),(25,l3 none a1),(26,I6 (k1:Int)),(27,I6 ((k1+1:Nat):Int)),(28,l3 none e15)]) (by kernel_rfl) (List.map_append.symm) (by rw[A2];exact hc16) (e1:=z5 [(20,l3 none ([]:(List Int))),(21,l3 none a1),(22,I6 (k1:Int)),(23,l3 none e13),(24,l3 none (([]:(List Int))++e13)),(25,l3 none a1),(26,I6 (k1:Int)),(27,I6 ((k1+1:Nat):Int)),(28,l3 none e15),(29,l3 (some 29) ((([]:(List Int))++e13)++e15))]) (by kernel_rfl) ?_;let z8:=fun t=>z2 ((5,I6 x1)::(6,l3 none ((([]:(List Int))++e13)++e15))::t);refine WB.fin [0,3,5,6,13,14,15] [] [] [] (e2:=z8 y2) (by kernel_rfl) (fun _ h=>h) ?_;refine W.sr ?_;obtain⟨w18,hw18,h⟩:=qd h;let z9:=fun t=>z8 ((13,l3 none a1)::(14,I6 (a1.length:Int))::(15,I6 (k1:Int))::(30,l3 none ((([]:(List Int))++e13)++e15))::(31,l24 none w18)::t);refine WO.ck 1 (F:=67) (l:=[l3 none ((([]:(List Int))++e13)++e15)]) (C:=[]) (r:=l24 none w18) (ih ((([]:(List Int))++e13)++e15) w18 hw18) (e1:=z9 [])<|WO.pq 0 (jM (encL 3 1 (AV.int .i64)) w18) (e1:=z9 [(32,I6 (w18.length:Int))]) ?_;let z10:=fun t=>z2 ((5,I6 x1)::(13,l3 none a1)::(14,I6 (a1.length:Int))::(15,I6 (k1:Int))::(31,l24 none w18)::(32,I6 (w18.length:Int))::t)
   refine WO.fn (e2:=z10 [(33,.int .i64 0)]) ?_;refine W.block ?_;obtain⟨hl2,h⟩:=qh h;refine W.wk (e:=z10 [(33,I6 ((0:Nat):Int))])<|W.range (σ:=((List (List Int)))) w18 (fun k2 s=>z0 [(3,l24 (some 10300) s),(5,I6 x1),(13,l3 none a1),(14,I6 (a1.length:Int)),(15,I6 (k1:Int)),(31,l24 none w18),(32,I6 (w18.length:Int)),(33,I6 (k2:Int))]) (fun r0 k0 s=>jN x1 (Js (qQ a1 (jG fuel) (jO) r1 (k1+1))) r0 k0 s=some r) (fun v19 h=>?_) (fun x2 r2 k2 s hx2 hk2 h hN2=>?_) v9 h
   ·have h:jN x1 (Js (qQ a1 (jG fuel) (jO) r1 (k1+1))) [] (w18).length v19=some r:=h;rw[jN.eq_1]at h;refine W.sr ?_;let y3:Env:=[(3,l24 (some 10300) v19),(5,I6 x1),(13,l3 none a1),(14,I6 (a1.length:Int)),(15,I6 (k1:Int)),(31,l24 none w18),(32,I6 (w18.length:Int)),(33,I6 ((w18).length:Int)),(34,.bool false)];refine WO.pq 0 (jB (qS (l:=w18))) (e1:=z0 y3)<|WO.fn (e2:=z0 y3) ?_;refine W.seq<|W.cF<|W.exit<|W.wk (e:=z0 ((3,l24 (some 10300) v19)::y2)) ?_;exact hK10 v19 h
   ·obtain⟨v19,rfl⟩:∃ x,x=s:=⟨s,rfl⟩;have h:jN x1 (Js (qQ a1 (jG fuel) (jO) r1 (k1+1))) (x2::r2) k2 v19=some r:=h;rw[jN.eq_2]at h;refine W.sr ?_;let y4:Env:=[(3,l24 (some 10300) v19),(5,I6 x1),(13,l3 none a1),(14,I6 (a1.length:Int)),(15,I6 (k1:Int)),(31,l24 none w18),(32,I6 (w18.length:Int)),(33,I6 (k2:Int)),(34,.bool true)];refine WO.pq 0 (jB (jp hk2)) (e1:=z0 y4)<|WO.fn (e2:=z0 y4) ?_;refine W.seq<|W.cT<|W.skip ?_;let y5:Env:=[(13,l3 none a1),(14,I6 (a1.length:Int)),(15,I6 (k1:Int)),(31,l24 none w18),(32,I6 (w18.length:Int)),(33,I6 (k2:Int))];let z11:=fun t=>z0 ((3,l24 (some 10300) v19)::(5,I6 x1)::t);refine W.wk (e:=z11 y5)<|W.seq<|W.block<|W.sr<|WO.pq 0 (jq (f:=(encL 3 1 (AV.int .i64))) hx2) (e1:=z11 [(13,l3 none a1),(14,I6 (a1.length:Int)),(15,I6 (k1:Int)),(31,l24 none w18),(32,I6 (w18.length:Int)),(33,I6 (k2:Int)),(35,.ptr (l3 none x2))])<|WO.fn (e2:=z11 ((8,l3 none x2)::y5)) ?_;refine W.rg ?_;obtain⟨hc22,h⟩:=qh h;refine WO.appendK 4 (d:=41) (e:=3) (s:=1) (bytes:=8) (xs:=(M6 [x1])) (ys:=(M6 x2)) (zs:=(M6 ([x1]++x2))) (env1:=[(0,l3 none a1),(3,l24 (some 10300) v19),(5,I6 x1),(8,l3 none x2),(13,l3 none a1),(14,I6 (a1.length:Int)),(15,I6 (k1:Int)),(31,l24 none w18),(32,I6 (w18.length:Int)),(33,I6 (k2:Int)),(37,l24 (some 10300) v19),(38,I6 x1),(39,l3 none [x1]),(40,l3 none x2)]) (by kernel_rfl) (List.map_append.symm) (by rw[A2];exact hc22) (e1:=z11 [(8,l3 none x2),(13,l3 none a1),(14,I6 (a1.length:Int)),(15,I6 (k1:Int)),(31,l24 none w18),(32,I6 (w18.length:Int)),(33,I6 (k2:Int)),(37,l24 (some 10300) v19),(38,I6 x1),(39,l3 none [x1]),(40,l3 none x2),(41,l3 (some 41) ([x1]++x2))]) (by kernel_rfl) ?_;obtain⟨hc23,h⟩:=qh h;refine WO.appendK 1 (d:=43) (e:=24) (s:=1) (bytes:=24) (xs:=(List.map (encL 3 1 (AV.int .i64)) v19)) (ys:=(List.map (encL 3 1 (AV.int .i64)) [([x1]++x2)])) (zs:=(List.map (encL 3 1 (AV.int .i64)) (v19++[([x1]++x2)]))) (env1:=[(0,l3 none a1),(3,l24 none v19),(5,I6 x1),(8,l3 none x2),(13,l3 none a1),(14,I6 (a1.length:Int)),(15,I6 (k1:Int)),(31,l24 none w18),(32,I6 (w18.length:Int)),(33,I6 (k2:Int)),(37,l24 none v19),(38,I6 x1),(39,l3 none [x1]),(40,l3 none x2),(41,l3 (some 41) ([x1]++x2)),(42,l24 (some 42) [([x1]++x2)])]) (by kernel_rfl) (List.map_append.symm) (by rw[A2];exact hc23) (e1:=z0 [(3,l24 none v19),(5,I6 x1),(8,l3 none x2),(13,l3 none a1),(14,I6 (a1.length:Int)),(15,I6 (k1:Int)),(31,l24 none w18),(32,I6 (w18.length:Int)),(33,I6 (k2:Int)),(37,l24 none v19),(38,I6 x1),(39,l3 none [x1]),(40,l3 none x2),(41,l3 (some 41) ([x1]++x2)),(42,l24 (some 42) [([x1]++x2)]),(43,l24 (some 43) (v19++[([x1]++x2)]))]) (by kernel_rfl) ?_;let z12:=fun t=>z0 ((3,l24 (some 43) (v19++[([x1]++x2)]))::(5,I6 x1)::t);refine WO.fn (e2:=z12 y5) ?_;refine W.rg<|WO.pq 0 (jI (qE hl2 hk2)) (e1:=z12 [(13,l3 none a1),(14,I6 (a1.length:Int)),(15,I6 (k1:Int)),(31,l24 none w18),(32,I6 (w18.length:Int)),(33,I6 (k2:Int)),(44,I6 ((k2+1:Nat):Int))])<|WO.fin [0,3,5,13,14,15,31,32,33] [] [] [(43,some 10300)] (e2:=z0 [(3,l24 (some 10300) (v19++[([x1]++x2)])),(5,I6 x1),(13,l3 none a1),(14,I6 (a1.length:Int)),(15,I6 (k1:Int)),(31,l24 none w18),(32,I6 (w18.length:Int)),(33,I6 ((k2+1:Nat):Int))]) (by kernel_rfl) (fun _ h=>h) ?_;exact hN2 (v19++[([x1]++x2)]) h
def permsF:Nat→List Int→List (List Int)
 | _,[]=>[[]]
 | 0,_::_=>[]
 | n+1,x::l=>(x::l).flatMap fun y=>(permsF n ((x::l).erase y)).map (y::·)
theorem YP:∀ {n:Nat} {l:List Int},l.Nodup→l.length≤n→∀ p,p∈permsF n l↔p.Perm l
 | n,[],_,_,p=>by
  have:permsF n []=[[]]:=by cases n <;> rfl
  rw[this,List.mem_singleton,List.perm_nil]
 | 0,x::l,_,h,_=>by simp at h
 | n+1,x::l,hn,hl,p=>by
  have e:permsF (n+1) (x::l)=(x::l).flatMap fun y=>(permsF n ((x::l).erase y)).map (y::·):=rfl
  rw[e,List.mem_flatMap];constructor
  ·rintro⟨y,hy,hp⟩
   obtain⟨q,hq,rfl⟩:=List.mem_map.1 hp;have:=(YP (n:=n) (hn.erase y) (by rw[B8 hy];simp at hl ⊢;omega) q).1 hq;exact (this.cons y).trans (D4 hy).symm
  ·intro hp
   cases p with
   | nil=>exact absurd hp.length_eq (by simp)
   | cons y q =>
    have hy:y∈x::l:=hp.mem_iff.1 (by simp);refine⟨y,hy,List.mem_map.2 ⟨q,?_,rfl⟩⟩;refine (YP (n:=n) (hn.erase y) (by rw[B8 hy];simp at hl ⊢;omega) q).2 ?_;have:=hp.trans (D4 hy);exact (List.perm_cons y).1 this
theorem Ds {y:Int} (f:List Int→Bool) (L:List (List Int)):(L.map (y::·)).find? f=(L.find? fun p=>f (y::p)).map (y::·):=by
 rw[List.find?_map];rfl
theorem Nk {α:Type} {f g:α→Bool}:∀ {l:List α},(∀ x,x∈l→f x=g x)→l.find? f=l.find? g
 | [],_=>rfl
 | a::l,h=>by
  rw[List.find?_cons,List.find?_cons,h a (by simp),Nk (l:=l) fun x hx=>h x (by simp[hx])]
theorem YW {α β:Type} {f g:α→Option β}:∀ {l:List α},(∀ x,x∈l→f x=g x)→l.findSome? f=l.findSome? g
 | [],_=>rfl
 | a::l,h=>by
  rw[A3,A3,h a (by simp),YW (l:=l) fun x hx=>h x (by simp[hx])]
def someF:Nat→List Int→List (List Int)
 | 0,_=>[[]]
 | n+1,l=>l.flatMap fun y=>(someF n (l.erase y)).map (y::·)
theorem Xf {α β:Type} (p:α→Bool) (g:α→Option β):∀ l:List α,(l.filter p).findSome? g=l.findSome? fun t=>if p t then g t else none
 | []=>rfl
 | a::l=>by
  rw[C7,A3]
  cases p a with
  | true=>simp only[if_true];rw[A3,Xf p g l]
  | false=>simp only[D2,if_false];rw[Xf p g l]
theorem ZE {l c:List Int} (hn:l.Nodup) (y:Int):(l.filter fun x=>!c.contains x).erase y=l.filter fun x=>!(c++[y]).contains x:=by
 rw[List.Nodup.erase_eq_filter (show List.Nodup _ from List.Pairwise.filter _ hn),List.filter_filter]
 refine List.filter_congr fun x _=>?_
 simp only[List.contains_append,Bool.not_or,List.contains_cons,List.contains_nil,Bool.or_false];cases hx:(x == y) <;> cases c.contains x <;> simp[bne,hx]
theorem Vo {α β γ:Type} (f:β→γ) (g:α→Option β):∀ l:List α,(l.findSome? g).map f=l.findSome? fun x=>(g x).map f
 | []=>rfl
 | a::l=>by
  rw[A3,A3]
  cases g a with
  | some b=>rfl
  | none=>exact Vo f g l
theorem NY:∀ (n:Nat) (l p:List Int),p∈someF n l→p.length=n∧∀ x,x∈p→x∈l
 | 0,l,p,h=>by
  have:p=[]:=by simpa[someF] using h
  subst this;simp
 | n+1,l,p,h=>by
  obtain⟨y,hy,h⟩:=List.mem_flatMap.1 h;obtain⟨q,hq,rfl⟩:=List.mem_map.1 h;obtain⟨h1,h2⟩:=NY n _ q hq;refine⟨by simp[h1],fun x hx=>?_⟩
  rcases List.mem_cons.1 hx with rfl | hx
  ·exact hy
  ·exact List.mem_of_mem_erase (h2 x hx)
theorem qdJ {α:Type} (p q:List α):sub (p++q) ((p.length:Nat):Int) ((p++q).length:Int)=some q:=by
 unfold sub
 have e:(((p++q).length:Nat):Int).toNat=(p++q).length:=by omega
 rw[if_pos ⟨by omega,by simp only[A6];omega,by omega⟩,e,List.take_length];simp
def partL (h:List rf5Op):List rf5Op:=h.filter fun x=>decide (endL x.qa 2 h 0 ≥ 0)
theorem Yb {h:List rf5Op} {t:Int}:t∈commL h↔(1≤t∧t≤6)∧endL t 2 h 0 ≥ 0:=by
 unfold commL;rw[List.mem_filter,decide_eq_true_eq]
 refine and_congr_left fun _=>?_
 simp;omega
theorem Jd (h:List rf5Op):(commL h).Nodup:=List.Pairwise.filter _ (by decide)
theorem Yc (h:List rf5Op):(commL h).length≤6:=Nat.le_trans (List.length_filter_le _ _) (by simp)
theorem qae {h:List rf5Op} (K:List hsOp→Option (List hsOp)):∀ (r:List rf5Op) (k:Nat) (v:List hsOp),(∀ x,x∈r→1≤x.qa∧x.qa≤6)→v.length+r.length≤1000 →
  qz (commL h) K (r.map cv) k v=K (v++(r.filter fun x=>decide (endL x.qa 2 h 0 ≥ 0)).map cv)
 | [],k,v,_,_=>by rw[A8,qz.eq_1];simp
 | x::r,k,v,hx,hl=>by
  have hl:v.length+(r.length+1)≤1000:=hl
  have ih:=fun v' h1=>qae (h:=h) K r (k+1) v' (fun y hy=>hx y (D0 _ hy)) h1
  rw[A4,qz.eq_2];unfold Ji;have hb:=hx x (D1 ..)
  have hc:(commL h).contains (cv x).qa=decide (endL x.qa 2 h 0 ≥ 0):=by
   rw[Bool.eq_iff_iff,List.contains_iff_mem,decide_eq_true_eq];show x.qa∈commL h↔_;rw[Yb];exact⟨fun h=>h.2,fun h=>⟨hb,h⟩⟩
  rw[Vt (by have:=Yc h;omega),hc,C7];simp only[A0]
  cases decide (endL x.qa 2 h 0 ≥ 0) with
  | true =>
   simp only[cond_true,if_true];rw[capS (by omega) (by simp;omega),qt,ih _ (by simp;omega)];simp
  | false =>
   simp only[cN,D2,if_false];rw[ih _ (by omega)]
theorem qcp {h:List rf5Op} (H:Hist h):jW bigFuel (h.map cv)=some ((partL h).map cv):=by
 have:=H.len;unfold jW;rw[XQ H,A0,jy (by simp;omega),qt,qae _ h 0 [] H.txn (by simpa using this)];rfl
theorem DQ {h:List rf5Op} (hl:lenOk h=true) (K:List rf5Op→Option (List rf5Op)):∀ (r:List rf5Op) (k:Nat) (v:List rf5Op),v.length+r.length≤1000 →
  jE h K r k v=K (v++r.filter fun x=>decide (endL x.qa 2 h 0 ≥ 0))
 | [],k,v,_=>by rw[jE.eq_1];simp
 | x::r,k,v,hv=>by
  have hv:v.length+(r.length+1)≤1000:=hv
  have ih:=fun v' h1=>DQ hl K r (k+1) v' h1
  rw[jE.eq_2];unfold QW;rw[Du hl,C7];simp only[A0]
  cases decide (endL x.qa 2 h 0 ≥ 0) with
  | true =>
   simp only[cond_true,if_true];rw[capS (by omega) (by simp;omega),qt,ih _ (by simp;omega)];simp
  | false =>
   simp only[cN,D2,if_false];rw[ih _ (by omega)]
theorem qcf {h:List rf5Op} (H:Hist h):YJ h=some (partL h):=by
 have:=H.len;have hl:lenOk h=true:=jy (by omega);unfold YJ;rw[hl,qt,DQ hl _ h 0 [] (by simpa using this)];rfl
theorem QJ {h:List rf5Op} (hl:lenOk h=true) (K:List Int→Option (List Int)) (m:Nat) (v:List Int) (t t':Int) (hv:v.length≤10) (h1:1≤t) (h2:t≤6) (ht:t'=t+1) :
  qD h K (m+1) v t=qD h K m (v++if endL t 2 h 0 ≥ 0 then [t] else []) t':=by
 subst ht;rw[qD.eq_2,decide_eq_true h2,Du hl];unfold Jo;simp only[cond_true,A0];rw[wr (by omega) (by omega)];by_cases hc:endL t 2 h 0 ≥ 0
 ·rw[decide_eq_true hc,if_pos hc,cond_true,capS (by omega) (by simp;omega),qt]
 ·rw[decide_eq_false hc,if_neg hc,cN,List.append_nil]
theorem Vi (v:List Int) (c:Prop) [Decidable c] (t:Int) (n:Nat) (hv:v.length≤n):(v++if c then [t] else []).length≤n+1:=by
 split <;> simp <;> omega
theorem qco {h:List rf5Op} (H:Hist h):Qe bigFuel h=some (commL h):=by
 have:=H.len;have hl:lenOk h=true:=jy (by omega);unfold Qe;have e:bigFuel=36893488147419103225+1+1+1+1+1+1+1:=rfl;have l0:([]:List Int).length≤0:=B6 _;have l1:=Vi _ (endL 1 2 h 0 ≥ 0) 1 0 l0;have l2:=Vi _ (endL 2 2 h 0 ≥ 0) 2 1 l1;have l3:=Vi _ (endL 3 2 h 0 ≥ 0) 3 2 l2;have l4:=Vi _ (endL 4 2 h 0 ≥ 0) 4 3 l3;have l5:=Vi _ (endL 5 2 h 0 ≥ 0) 5 4 l4;rw[e,QJ hl _ _ _ 1 2 (by omega) (by omega) (by omega) rfl,QJ hl _ _ _ 2 3 (by omega) (by omega) (by omega) rfl,QJ hl _ _ _ 3 4 (by omega) (by omega) (by omega) rfl,QJ hl _ _ _ 4 5 (by omega) (by omega) (by omega) rfl,QJ hl _ _ _ 5 6 (by omega) (by omega) (by omega) rfl,QJ hl _ _ _ 6 7 (by omega) (by omega) (by omega) rfl];rw[qD.eq_2,decide_eq_false (by omega),cN];unfold jl commL
 congr 1
 simp only[C7,List.filter_nil];by_cases c1:endL 1 2 h 0 ≥ 0 <;> by_cases c2:endL 2 2 h 0 ≥ 0 <;> by_cases c3:endL 3 2 h 0 ≥ 0 <;> by_cases c4:endL 4 2 h 0 ≥ 0 <;> by_cases c5:endL 5 2 h 0 ≥ 0 <;> by_cases c6:endL 6 2 h 0 ≥ 0 <;> simp[c1,c2,c3,c4,c5,c6]
def clash (x y:rf5Op):Bool:=(x.qa != y.qa) && ((x.qc == y.qc) && ((if y.qb > x.qb then y.qb else x.qb) == 1))
theorem Uf {α β:Type} {f:α→List β} {m:Nat}:∀ {l:List α},(∀ x,x∈l→(f x).length≤m)→(l.flatMap f).length≤l.length * m
 | [],_=>by simp
 | a::l,h=>by
  rw[List.flatMap_cons,A6,List.length_cons,Nat.add_mul,Nat.one_mul]
  have:=Uf (l:=l) fun x hx=>h x (by simp[hx])
  have:=h a (by simp);omega
def facN:Nat→Nat
 | 0=>1
 | n+1=>(n+1) * facN n
theorem Zi:∀ (n:Nat) (l:List Int),l.length≤n→(permsF n l).length≤facN l.length∧∀ p,p∈permsF n l→p.length=l.length
 | n,[],_=>by
  have:permsF n []=[[]]:=by cases n <;> rfl
  rw[this];exact⟨B6 _,fun p hp=>by rw[List.mem_singleton.1 hp]⟩
 | 0,x::l,h=>by simp at h
 | n+1,x::l,h=>by
  have e:permsF (n+1) (x::l)=(x::l).flatMap fun y=>(permsF n ((x::l).erase y)).map (y::·):=rfl
  have hy:∀ y,y∈x::l→((x::l).erase y).length=l.length:=fun y hy=>by rw[B8 hy];rfl
  have hl:l.length≤n:=by simpa using h
  refine⟨?_,fun p hp=>?_⟩
  ·rw[e];refine Nat.le_trans (Uf (m:=facN l.length) fun y hm=>?_) (B6 _);rw[A2];have:=(Zi n ((x::l).erase y) (by rw[hy y hm];exact hl)).1;rw[hy y hm]at this;exact this
  ·rw[e,List.mem_flatMap]at hp;obtain⟨y,hm,hp⟩:=hp;obtain⟨q,hq,rfl⟩:=List.mem_map.1 hp;have:=(Zi n ((x::l).erase y) (by rw[hy y hm];exact hl)).2 q hq;rw[hy y hm]at this;simp[this]
theorem qds {n:Nat} (h:n≤6):facN n≤720:=by
 have:n=0∨n=1∨n=2∨n=3∨n=4∨n=5∨n=6:=by omega
 rcases this with rfl | rfl | rfl | rfl | rfl | rfl | rfl <;> decide
theorem qaf (x:Int) (K:List (List Int)→Option (List (List Int))):∀ (ps:List (List Int)) (k:Nat) (v:List (List Int)),(∀ p,p∈ps→p.length≤100)→v.length+ps.length≤90000→jN x K ps k v=K (v++ps.map (x::·))
 | [],k,v,_,_=>by rw[jN.eq_1];simp
 | p::ps,k,v,hp,hl=>by
  have hl:v.length+(ps.length+1)≤90000:=hl;have:=hp p (by simp);rw[jN.eq_2,capS (by omega) (by simp;omega),qt,capS (by omega) (by simp;omega),qt,qaf x K ps (k+1) _ (fun q hq=>hp q (by simp[hq])) (by simp;omega)];simp
theorem qcU {pre r:List Int} {x:Int} (hn:(pre++x::r).Nodup):pre++r=(pre++x::r).erase x:=by
 rw[List.erase_append_right]
 ·simp
 ·intro h;have:=List.nodup_append.1 hn;exact this.2.2 x h x (by simp) rfl
theorem qag {a:List Int} (hn:a.Nodup) (h6:a.length≤6) (P0:List Int→List (List Int)) (K0:List Int→Option (List (List Int))) (hK:∀ x,x∈a→K0 (a.erase x)=some (P0 (a.erase x))∧(P0 (a.erase x)).length≤10000∧∀ p,p∈P0 (a.erase x)→p.length≤50) (K:List (List Int)→Option (List (List Int))) :
  ∀ (r:List Int) (k:Nat) (v:List (List Int)) (pre:List Int),a=pre++r→pre.length=k→v.length≤k * 10000→qQ a K0 K r k v=K (v++r.flatMap fun y=>(P0 (a.erase y)).map (y::·))
 | [],k,v,pre,_,_,_=>by rw[qQ.eq_1];simp
 | x::r,k,v,pre,he,hk,hv=>by
  have hlen:pre.length+(r.length+1)≤6:=by rw[he]at h6;simpa using h6
  have h1:sub a 0 (k:Int)=some pre:=by rw[he,← hk];exact HN pre _
  have h2:sub a ((k+1:Nat):Int) (a.length:Int)=some r:=by
   have:=qdJ (pre++[x]) r
   have e:(pre++[x])++r=a:=by rw[he];simp
   rw[e]at this
   simpa[hk] using this
  obtain⟨k1,k2,k3⟩:=hK x (by rw[he];simp)
  have h3:([]:List Int)++pre++r=a.erase x:=by rw[he,List.nil_append];exact qcU (he ▸ hn)
  rw[qQ.eq_2,h1,A0,capS (by omega) (by simp;omega),qt,h2,A0,capS (by omega) (by simp;omega),qt,h3,k1,A0,jy (by omega),qt];rw[qaf x _ _ 0 v (fun p hp=>by have:=k3 p hp;omega) (by omega)];unfold Js;rw[qag hn h6 P0 K0 hK K r (k+1) _ (pre++[x]) (by rw[he];simp) (by simp[hk]) (by simp;omega)];simp
theorem Hi:∀ (n:Nat) (l:List Int),l.Nodup→l.length≤n→l.length≤6→jG (n+1) l=some (permsF n l)
 | n,[],_,_,_=>by
  have:permsF n []=[[]]:=by cases n <;> rfl
  rw[jG.eq_2,this];rfl
 | 0,x::l,_,h,_=>by simp at h
 | n+1,x::l,hn,hl,h6=>by
  have e:permsF (n+1) (x::l)=(x::l).flatMap fun y=>(permsF n ((x::l).erase y)).map (y::·):=rfl
  have hy:∀ y,y∈x::l→((x::l).erase y).length=l.length:=fun y hy=>by rw[B8 hy];rfl
  have hl:l.length≤n:=by simpa using hl
  have h6':l.length≤5:=by simpa using h6
  have hz:(((x::l).length:Int) == 0)=false:=by rw[beq_eq_false_iff_ne];simp;omega
  rw[jG.eq_2,hz,cN,jy (by omega),qt,qag hn h6 (permsF n) (jG (n+1)) (fun y hm=>?_) _ (x::l) 0 [] [] rfl rfl (by simp),e]
  ·rfl
  ·have hlen:=Zi n ((x::l).erase y) (by rw[hy y hm];exact hl);rw[hy y hm]at hlen;refine⟨Hi n _ (hn.erase y) (by rw[hy y hm];exact hl) (by rw[hy y hm];omega),?_,fun p hp=>by rw[hlen.2 p hp];omega⟩;have:=qds (n:=l.length) (by omega);omega
theorem qdR {h:List rf5Op}:∀ x,x∈commL h→wfI .i64 x=true:=fun x hx=>wf6 (by have:=(Yb.1 hx).1;omega) (by have:=(Yb.1 hx).1;omega)
end Go.AM
namespace Go.AM
open Go.RowKit Go.Proofs
open Go.ChangeMaps (setBlock)
variable {K V:Type} {F:K→AV} {G:V→AV} {eq:K→K→Bool}
def MapAt (M:Mem) (w:World) (g:Nat) (F:K→AV) (G:V→AV) (l:List (K×V)):Prop :=
 ∃ es clock,w.heap[g]? = some (.map es clock)∧EntOk M es clock (l.map fun p=>F p.1) (l.map fun p=>G p.2)
theorem MapAt.mono {M M':Mem} {w:World} {g:Nat} {l:List (K×V)} (h:MapAt M w g F G l) (hs:Sub M M'):MapAt M' w g F G l:=by
 obtain⟨es,clock,h1,h2⟩:=h;exact⟨es,clock,h1,h2.mono hs⟩
theorem MapAt.of {M:Mem} {w w':World} {g:Nat} {l:List (K×V)} (h:MapAt M w g F G l) (hb:w'.heap[g]? = w.heap[g]?):MapAt M w' g F G l:=by
 obtain⟨es,clock,h1,h2⟩:=h;exact⟨es,clock,hb.trans h1,h2⟩
theorem MapAt.lt {M:Mem} {w:World} {g:Nat} {l:List (K×V)} (h:MapAt M w g F G l):g<w.heap.size:=by
 obtain⟨es,clock,h1,_⟩:=h;exact (Array.getElem?_eq_some_iff.1 h1).1
theorem MapAt.empty {M:Mem} {w:World} {g:Nat} (h:w.heap[g]? = some (.map #[] 0)):MapAt M w g F G []:=⟨#[],0,h,(MapKept.stamped_iff _ _).2 ⟨by simp,by simp,by simp⟩,Nat.zero_le _,rfl,rfl,fun j k e hk=>by simp at hk,fun j k e hk=>by simp at hk⟩
theorem Ua {w:World} {g:Nat} {o o':Obj} (h:w.heap[g]? = some o):(setBlock w g o').heap[g]? = some o':=by
 have:=(Array.getElem?_eq_some_iff.1 h).1;unfold setBlock;simp[this]
theorem Xw {w:World} {g k:Nat} {o':Obj} (h:k≠g):(setBlock w g o').heap[k]? = w.heap[k]?:=by
 unfold setBlock;simp[Array.getElem?_setIfInBounds,Ne.symm h]
theorem NB {w:World} {g:Nat} {o':Obj}:(setBlock w g o').heap.size=w.heap.size:=by
 unfold setBlock;simp
def VW (M:Mem) (w:World) (r:AV) (e:Ending) (w':World):Prop:=∃ v M',e=.returned v∧Below w.heap.size w w'∧Sub M M'∧Cons M' w'∧(∀ b o,b<w.heap.size→M' b o=M b o)∧R M' r v∧OwnR M' w.heap.size w' r v
end Go.AM
