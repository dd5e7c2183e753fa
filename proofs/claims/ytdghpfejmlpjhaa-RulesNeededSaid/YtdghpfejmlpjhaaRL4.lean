/- s -/
import Derived.Test.YtdghpfejmlpjhaaRM1
set_option maxRecDepth 100000
set_option linter.unusedVariables false
set_option linter.unusedSimpArgs false
namespace Go.AM
open Go.Proofs
theorem qN {α:Type} {l:List α} (h:l.length≤9223372036854775807):lenOk l=true:=Nat.ble_eq_true_of_le (by omega)
theorem XI {b n:Nat} (hb:b≤64) (h:n≤1000000000):capOk b n=true:=by
 simp only[capOk,Bool.and_eq_true,Nat.ble_eq];refine⟨?_,by omega⟩;exact Nat.le_trans (Nat.mul_le_mul h hb) (by omega)
theorem ZJ {α:Type} {b:Bool} {o:Option α} (h:b=true):chk b o=o:=by rw[h];rfl
theorem wrap64 {n:Int} (h1 : -9223372036854775808≤n) (h2:n≤9223372036854775807):IntKind.wrap .i64 n=n:=by
 simp[IntKind.wrap,IntKind.signed,IntKind.bits]
 omega
def cvA (a:rf2Atom):qj:=⟨a.qb,a.qa.take 5⟩
def cvL (x:rf3Lit):ruLit:=⟨x.qn,cvA x.qe⟩
def cvR (r:rf3Rule):ruRule:=⟨cvA r.qc,(r.qd.take 5).map cvL⟩
def cvF (f:apiFact):apiFact:=⟨f.qb,f.qa.take 9⟩
theorem qbx {l:List Int} (n:Nat):sub l 0 (if (n:Int)<(l.length:Int) then (n:Int) else (l.length:Int))=some (l.take n):=by
 unfold sub
 split
 ·rw[if_pos ⟨by omega,by omega,by omega⟩]
  simp
 ·rw[if_pos ⟨by omega,by omega,by omega⟩]
  simp[List.take_of_length_le (show l.length≤n by omega)]
theorem VH {l:List Int} (h:l.length≤1000):Jq l=some l:=by
 unfold Jq;rw[ZJ (XI (by omega) (by omega))]
theorem qcz (a:rf2Atom):Zk a=some (cvA a):=by
 unfold Zk;have:=qbx (l:=a.qa) 5;rw[show ((5:Nat):Int)=5 from rfl]at this;rw[this];show (Jq (a.qa.take 5)).bind _=_;rw[VH (by simp;omega)];rfl
theorem qgO (l:List Int):UH l=some (l.take 9):=by
 unfold UH;have:=qbx (l:=l) 9;rw[show ((9:Nat):Int)=9 from rfl]at this;rw[this];show (Jq (l.take 9)).bind _=_;rw[VH (by simp;omega)];rfl
theorem qfM (K:ruRule→Option (List ruRule)):∀ (body:List rf3Lit) (k:Nat) (rel:Int) (args:List Int) (acc:List ruLit),acc.length≤k→acc.length≤5→JM K body k rel args acc=K ⟨⟨rel,args⟩,acc++(body.take (5 - k)).map cvL⟩
 | [],k,rel,args,acc,_,_=>by simp[JM]
 | x::r,k,rel,args,acc,h1,h2=>by
  rw[JM]
  by_cases hk:k<5
  ·rw[decide_eq_true (by omega:(k:Int)<5),cond_true,qcz];show chk _ _=_;rw[ZJ (XI (by omega) (by simp;omega))];unfold Xn;rw[qfM K r (k+1) rel args _ (by simp;omega) (by simp;omega)];obtain⟨m,hm⟩:∃ m,5 - k=m+1:=⟨5 - k - 1,by omega⟩;rw[hm,show 5 - (k+1)=m by omega,List.take_succ_cons,List.map_cons,List.append_assoc];rfl
  ·rw[decide_eq_false (by omega:¬ (k:Int)<5),cond_false];unfold Xn;rw[qfM K r (k+1) rel args acc (by omega) h2,show 5 - (k+1)=0 by omega,show 5 - k=0 by omega]
   simp
theorem qgZ (K:List ruRule→Option (List ruRule)):∀ (l:List rf3Rule) (k:Nat) (acc:List ruRule),(∀ r,r∈l→lenOk r.qd=true)→acc.length≤k→acc.length≤12→jR K l k acc=K (acc++(l.take (12 - k)).map cvR)
 | [],k,acc,_,_,_=>by simp[jR]
 | x::r,k,acc,hb,h1,h2=>by
  rw[jR]
  by_cases hk:k > 11
  ·rw[decide_eq_true (by omega:(k:Int) > 11),cond_true,show 12 - k=0 by omega]
   simp
  ·rw[decide_eq_false (by omega:¬ (k:Int) > 11),cond_false,qcz];show chk (lenOk x.qd) _=_;rw[ZJ (hb x (List.mem_cons_self ..)),qfM _ _ _ _ _ _ (by simp) (by simp)];show chk _ _=_;rw[ZJ (XI (by omega) (by simp;omega)),qgZ K r (k+1) _ (fun q hq=>hb q (List.mem_cons_of_mem _ hq)) (by simp;omega) (by simp;omega)];obtain⟨m,hm⟩:∃ m,12 - k=m+1:=⟨12 - k - 1,by omega⟩;rw[hm,show 12 - (k+1)=m by omega,List.take_succ_cons,List.map_cons,List.append_assoc];rfl
theorem qhc {l:List rf3Rule} (hl:lenOk l=true) (hb:∀ r,r∈l→lenOk r.qd=true):Ns l=some ((l.take 12).map cvR):=by
 unfold Ns;rw[ZJ hl,qgZ _ _ _ _ hb (by simp) (by simp)];rfl
theorem qck (K:List apiFact→Option (List apiFact)):∀ (l:List apiFact) (k:Nat) (acc:List apiFact),acc.length≤k→acc.length≤26→Jv K l k acc=K (acc++(l.take (26 - k)).map cvF)
 | [],k,acc,_,_=>by simp[Jv]
 | x::r,k,acc,h1,h2=>by
  rw[Jv]
  by_cases hk:k > 25
  ·rw[decide_eq_true (by omega:(k:Int) > 25),cond_true,show 26 - k=0 by omega]
   simp
  ·rw[decide_eq_false (by omega:¬ (k:Int) > 25),cond_false,qgO];show chk _ _=_;rw[ZJ (XI (by omega) (by simp;omega)),qck K r (k+1) _ (by simp;omega) (by simp;omega)];obtain⟨m,hm⟩:∃ m,26 - k=m+1:=⟨26 - k - 1,by omega⟩;rw[hm,show 26 - (k+1)=m by omega,List.take_succ_cons,List.map_cons,List.append_assoc];rfl
theorem qas {l:List apiFact} (hl:lenOk l=true):Yl l=some ((l.take 26).map cvF):=by
 unfold Yl;rw[ZJ hl,qck _ _ _ _ (by simp) (by simp)];rfl
def groundP (f:apiFact):Prop:=(0≤f.qb∧f.qb≤5)∧(1≤f.qa.length∧f.qa.length≤2)∧∀ x,x∈f.qa→1≤x∧x≤6
def fitP (rel:Int) (args:List Int):Prop:=(0≤rel∧rel≤5)∧(1≤args.length∧args.length≤2)∧∀ x,x∈args → -6≤x∧x≤7
instance (f:apiFact):Decidable (groundP f):=by unfold groundP;infer_instance
instance (rel:Int) (args:List Int):Decidable (fitP rel args):=by unfold fitP;infer_instance
end Go.AM
namespace Go.AM
open Go.Proofs
open Classical
def szF (f:apiFact):Je:=⟨f.qb,(f.qa.length:Int)⟩
def szA (a:rf2Atom):Je:=⟨a.qb,(a.qa.length:Int)⟩
def sizesR (r:rf3Rule):List Je:=szA r.qc::r.qd.map fun b=>szA b.qe
def conP (S:List Je):Prop:=∀ x,x∈S→∀ y,y∈S→x.f_0=y.f_0→x.f_1=y.f_1
def safeR (r:rf3Rule):Prop:=∀ i:Nat,i<8→(((i:Int)∈r.qc.qa∨∃ b,b∈r.qd∧(i:Int)∈b.qe.qa)↔∃ b,b∈r.qd∧b.qn=false∧(i:Int)∈b.qe.qa)
def okR (r:rf3Rule):Prop:=fitP r.qc.qb r.qc.qa∧r.qd.length≤3∧(∀ b,b∈r.qd→fitP b.qe.qb b.qe.qa)∧safeR r
def VR (l:List rf3Rule) (facts:List apiFact):Prop:=l.length≤10∧facts.length≤20∧(∀ f,f∈facts→groundP f)∧(∀ r,r∈l→okR r)∧conP (facts.map szF++l.flatMap sizesR)
def okArgs (l:List Int):Prop:=lenOk l=true∧∀ x,x∈l→wfI .i64 x=true
def okAtom (a:rf2Atom):Prop:=wfI .i64 a.qb=true∧okArgs a.qa
def okRule (r:rf3Rule):Prop:=okAtom r.qc∧lenOk r.qd=true∧∀ b,b∈r.qd→okAtom b.qe
def okRules (l:List rf3Rule):Prop:=lenOk l=true∧∀ r,r∈l→okRule r
def okFact (f:apiFact):Prop:=wfI .i64 f.qb=true∧okArgs f.qa
def okFacts (l:List apiFact):Prop:=lenOk l=true∧∀ f,f∈l→okFact f
end Go.AM
namespace Go.AM
open Go.Proofs
open Classical
theorem qef {fuel:Nat} (hf:4≤fuel) {l:List Int} (h1:1≤l.length) (h2:l.length≤2):∃ m,QD fuel l=some m∧m∈l∧∀ x,x∈l→m≤x:=by
 obtain⟨f,rfl⟩:∃ f,fuel=f+4:=⟨fuel - 4,by omega⟩
 match l,h1,h2 with
 | [a],_,_ =>
  refine⟨a,?_,by simp,by simp⟩
  simp[QD,Jo,Jp,idx]
 | [a,b],_,_ =>
  have e:QD (f+4) [a,b]=some (if b<a then b else a):=by
   simp[QD,Jo,Jp,idx,wrap64]
  rw[e]
  by_cases h:b<a
  ·rw[if_pos h];exact⟨b,rfl,by simp,by simp;omega⟩
  ·rw[if_neg h];exact⟨a,rfl,by simp,by simp;omega⟩
theorem qei {fuel:Nat} (hf:4≤fuel) {l:List Int} (h1:1≤l.length) (h2:l.length≤2):∃ m,JA fuel l=some m∧m∈l∧∀ x,x∈l→x≤m:=by
 obtain⟨f,rfl⟩:∃ f,fuel=f+4:=⟨fuel - 4,by omega⟩
 match l,h1,h2 with
 | [a],_,_ =>
  refine⟨a,?_,by simp,by simp⟩
  simp[JA,jy,jX,idx]
 | [a,b],_,_ =>
  have e:JA (f+4) [a,b]=some (if b > a then b else a):=by
   simp[JA,jy,jX,idx,wrap64]
  rw[e]
  by_cases h:b > a
  ·rw[if_pos h];exact⟨b,rfl,by simp,by simp;omega⟩
  ·rw[if_neg h];exact⟨a,rfl,by simp,by simp;omega⟩
def rangeP (s:Je):Prop:=(0≤s.f_0∧s.f_0≤5)∧1≤s.f_1∧s.f_1≤2
def Tab (n:List Int) (S:List Je):Prop:=n.length=6∧(∀ s,s∈S→rangeP s)∧∀ i:Nat,i<6→(n[i]? = some 0∧∀ s,s∈S→s.f_0≠i)∨∃ k,n[i]? = some k∧k≠0∧(⟨i,k⟩:Je)∈S∧∀ s,s∈S→s.f_0=i→s.f_1=k
theorem Tab.zero:Tab (List.replicate 6 0) []:=⟨by simp,fun s hs=>by simp at hs,fun i hi=>.inl ⟨by rw[List.getElem?_replicate,if_pos hi],fun s hs=>by simp at hs⟩⟩
theorem Tab.con {n:List Int} {S:List Je} (h:Tab n S):conP S:=by
 intro x hx y hy hxy;obtain⟨⟨r1,r2⟩,_⟩:=h.2.1 x hx
 rcases h.2.2 x.f_0.toNat (by omega) with ⟨_,q⟩ | ⟨k,_,_,_,q⟩
 ·exact absurd (show x.f_0=(x.f_0.toNat:Int) by omega) (q x hx)
 ·rw[q x hx (by omega),q y hy (by omega)]
theorem Tab.add {n:List Int} {S:List Je} (h:Tab n S) (rel k:Int) :
  ((rangeP ⟨rel,k⟩∧conP (S++[⟨rel,k⟩]))∧∃ n',Jy n rel k=some (true,n')∧Tab n' (S++[⟨rel,k⟩]))∨(¬ (rangeP ⟨rel,k⟩∧conP (S++[⟨rel,k⟩]))∧Jy n rel k=some (false,n)):=by
 unfold Jy jg
 by_cases h1:rel<0
 ·rw[decide_eq_true h1,cond_true,cond_true];exact .inr ⟨fun h2=>by have:=h2.1.1.1;simp only at this;omega,rfl⟩
 rw[decide_eq_false h1,cond_false]
 by_cases h2:rel ≥ 6
 ·rw[decide_eq_true h2,cond_true,cond_true];exact .inr ⟨fun h2=>by have:=h2.1.1.2;simp only at this;omega,rfl⟩
 rw[decide_eq_false h2,cond_false]
 by_cases h3:k<1
 ·rw[decide_eq_true h3,cond_true,cond_true];exact .inr ⟨fun h2=>by have:=h2.1.2.1;simp only at this;omega,rfl⟩
 rw[decide_eq_false h3,cond_false]
 by_cases h4:k > 2
 ·rw[decide_eq_true h4,cond_true,cond_true];exact .inr ⟨fun h2=>by have:=h2.1.2.2;simp only at this;omega,rfl⟩
 rw[decide_eq_false h4,cond_false];have hr:rangeP ⟨rel,k⟩:=⟨⟨by simp only;omega,by simp only;omega⟩,by simp only;omega,by simp only;omega⟩;obtain⟨i,rfl⟩:∃ i:Nat,rel=i:=⟨rel.toNat,by omega⟩
 have hi:i<6:=by omega
 have e0:(0+Int.toNat (i:Int) * 1)=i:=by omega
 rw[ZJ (decide_eq_true (by omega)),e0]
 have hset:∀ m:Int,n[i]? = some m→(m=0∨m=k)→conP (S++[⟨i,k⟩])∧Tab (n.set i k) (S++[⟨i,k⟩]):=by
  intro m hm hmk
  have hq:∀ s,s∈S→s.f_0=i→s.f_1=k:=by
   rcases h.2.2 i hi with ⟨q1,q2⟩ | ⟨k',q1,q2,q3,q4⟩
   ·exact fun s hs e=>absurd e (q2 s hs)
   ·rw[hm]at q1;cases q1;intro s hs e;rw[q4 s hs e]
    rcases hmk with h5 | h5
    ·exact absurd h5 q2
    ·exact h5
  have hTab:Tab (n.set i k) (S++[⟨i,k⟩]):=by
   refine⟨by simp[h.1],fun s hs=>?_,fun j hj=>?_⟩
   ·rcases List.mem_append.1 hs with hs | hs
    ·exact h.2.1 s hs
    ·rw[List.mem_singleton.1 hs];exact hr
   ·by_cases hij:j=i
    ·subst hij;refine .inr ⟨k,by rw[List.getElem?_set_self (by rw[h.1];omega)],by omega,by simp,fun s hs e=>?_⟩
     rcases List.mem_append.1 hs with hs | hs
     ·exact hq s hs e
     ·rw[List.mem_singleton.1 hs]
    ·rw[List.getElem?_set_ne (fun e=>hij e.symm)]
     rcases h.2.2 j hj with ⟨q1,q2⟩ | ⟨k',q1,q2,q3,q4⟩
     ·refine .inl ⟨q1,fun s hs=>?_⟩
      rcases List.mem_append.1 hs with hs | hs
      ·exact q2 s hs
      ·rw[List.mem_singleton.1 hs];simp only;omega
     ·refine .inr ⟨k',q1,q2,List.mem_append_left _ q3,fun s hs e=>?_⟩
      rcases List.mem_append.1 hs with hs | hs
      ·exact q4 s hs e
      ·rw[List.mem_singleton.1 hs]at e;simp only at e;omega
  exact⟨hTab.con,hTab⟩
 have hlen:i<n.length:=by rw[h.1];exact hi
 rcases h.2.2 i hi with ⟨q1,q2⟩ | ⟨k',q1,q2,q3,q4⟩
 ·rw[q1];simp only[Option.bind_some,bne_self_eq_false,cond_false];rw[ZJ (decide_eq_true (by omega)),ZJ (decide_eq_true hlen)];obtain⟨c1,c2⟩:=hset 0 q1 (.inl rfl);exact .inl ⟨⟨hr,c1⟩,_,rfl,c2⟩
 ·rw[q1];simp only[Option.bind_some]
  have:(k' != 0)=true:=by simp[q2]
  rw[this,cond_true]
  by_cases hk:k'=k
  ·have e1:(k' != k)=false:=by simp[hk]
   rw[e1,cond_false,ZJ (decide_eq_true (by omega)),ZJ (decide_eq_true (by omega)),ZJ (decide_eq_true hlen)];obtain⟨c1,c2⟩:=hset k' q1 (.inr hk);exact .inl ⟨⟨hr,c1⟩,_,rfl,c2⟩
  ·have e1:(k' != k)=true:=by simp[hk]
   rw[e1,cond_true,ZJ (decide_eq_true (by omega))];exact .inr ⟨fun h2=>hk (h2.2 ⟨i,k'⟩ (List.mem_append_left _ q3) ⟨i,k⟩ (by simp) rfl),rfl⟩
theorem qdt {fuel:Nat} (hf:4≤fuel) (f:apiFact):Zf fuel f=some (decide (groundP f)):=by
 unfold Zf Qk
 rcases Tab.zero.add f.qb (f.qa.length:Int) with ⟨⟨h1,_⟩,n',h2,_⟩ | ⟨h1,h2⟩
 ·rw[h2];simp only[Option.bind_some,cond_true];obtain⟨⟨r1,r2⟩,r3,r4⟩:=h1;simp only at r1 r2 r3 r4;obtain⟨m,e1,e2,e3⟩:=qef hf (l:=f.qa) (by omega) (by omega);rw[e1];simp only[Option.bind_some]
  by_cases hm:m ≥ 1
  ·rw[decide_eq_true hm,cond_true];obtain⟨M,g1,g2,g3⟩:=qei hf (l:=f.qa) (by omega) (by omega);rw[g1];simp only[Option.bind_some]
   congr 1
   rw[decide_eq_decide]
   constructor
   ·intro h;exact⟨⟨r1,r2⟩,⟨by omega,by omega⟩,fun x hx=>⟨by have:=e3 x hx;omega,by have:=g3 x hx;omega⟩⟩
   ·intro h;exact (h.2.2 M g2).2
  ·rw[decide_eq_false hm,cond_false,decide_eq_false (fun h:groundP f=>by have:=(h.2.2 m e2).1;omega)]
 ·rw[h2];simp only[Option.bind_some,cond_false];rw[decide_eq_false];intro h;refine h1 ⟨⟨h.1,by simp only;have:=h.2.1.1;omega,by simp only;have:=h.2.1.2;omega⟩,?_⟩;intro x hx y hy _;rw[List.nil_append]at hx hy;rw[List.mem_singleton.1 hx,List.mem_singleton.1 hy]
theorem US {S T:List Je} (h:conP (S++T)):conP S:=fun x hx y hy e=>h x (List.mem_append_left _ hx) y (List.mem_append_left _ hy) e
theorem DV {fuel:Nat} (hf:4≤fuel) (K:List Int→Option Bool):∀ (l:List apiFact) (k:Nat) (n:List Int) (S:List Je),Tab n S →
  (((∀ f,f∈l→groundP f)∧conP (S++l.map szF))∧∃ n',jG fuel K l k n=K n'∧Tab n' (S++l.map szF))∨(¬ ((∀ f,f∈l→groundP f)∧conP (S++l.map szF))∧jG fuel K l k n=some false)
 | [],k,n,S,h=>.inl ⟨⟨fun f hf=>by simp at hf,by simpa using h.con⟩,n,by rw[jG],by simpa using h⟩
 | x::r,k,n,S,h=>by
  rw[jG,qdt hf];simp only[Option.bind_some];unfold QN
  by_cases hx:groundP x
  ·rw[decide_eq_true hx];simp only[Bool.not_true,cond_false]
   have e:S++(x::r).map szF=S++[szF x]++r.map szF:=by simp
   rcases h.add x.qb (x.qa.length:Int) with ⟨⟨q1,q2⟩,n',q3,q4⟩ | ⟨q1,q2⟩
   ·rw[q3];simp only[Option.bind_some,Bool.not_true,cond_false]
    rcases DV hf K r (k+1) n' _ q4 with ⟨⟨p1,p2⟩,n2,p3,p4⟩ | ⟨p1,p2⟩
    ·rw[e];refine .inl ⟨⟨fun f hf=>?_,p2⟩,n2,p3,p4⟩
     rcases List.mem_cons.1 hf with rfl | hf
     ·exact hx
     ·exact p1 f hf
    ·rw[e];exact .inr ⟨fun h2=>p1 ⟨fun f hf=>h2.1 f (List.mem_cons_of_mem _ hf),h2.2⟩,p2⟩
   ·rw[q2];simp only[Option.bind_some,Bool.not_false,cond_true];refine .inr ⟨fun h2=>q1 ⟨⟨hx.1,?_,?_⟩,?_⟩,by first | rfl | trivial⟩
    ·have:=hx.2.1.1;simp only;omega
    ·have:=hx.2.1.2;simp only;omega
    ·rw[e]at h2;exact US h2.2
  ·rw[decide_eq_false hx];simp only[Bool.not_false,cond_true];exact .inr ⟨fun h2=>hx (h2.1 x (List.mem_cons_self ..)),by first | rfl | trivial⟩
end Go.AM
namespace Go.AM
open Go.Proofs
open Classical
theorem mgetI (k x:Int) (v:Bool):∀ l:List (Int×Bool),mget keq1 false x (mset keq1 k v l)=if x=k then v else mget keq1 false x l
 | []=>by
  simp only[mset,mget,keq1]
  by_cases h:x=k
  ·subst h;simp
  ·have:(k == x)=false:=by simp;omega
   simp[this,h]
 | p::r=>by
  have ih:=mgetI k x v r;simp only[mset]
  cases hq:keq1 p.1 k with
  | true =>
   have hpk:p.1=k:=by simpa[keq1] using hq
   simp only[cond_true,mget,keq1]
   by_cases h:x=k
   ·subst h;simp[hpk]
   ·have h2:(p.1 == x)=false:=by simp;omega
    rw[h2];simp[h]
  | false =>
   have hpk:¬ p.1=k:=by simpa[keq1] using hq
   simp only[cond_false,mget];rw[ih]
   by_cases h:x=k
   ·subst h;rw[hq];simp
   ·simp[h]
theorem qaa (k:Int) (v:Bool):∀ l:List (Int×Bool),(mset keq1 k v l).length≤l.length+1
 | []=>by simp[mset]
 | p::r=>by
  have:=qaa k v r;unfold mset;cases keq1 p.1 k <;> simp <;> omega
theorem qdX (x:ruLit) (K:List (Int×Bool)→Option Bool):∀ (args:List Int) (k:Nat) (m:List (Int×Bool)),(∀ y,y∈args→wfI .i64 y=true)→m.length+args.length≤100000 →
  ∃ m',qR x K args k m=K m'∧m'.length≤m.length+args.length∧∀ y,mget keq1 false y m'=true↔mget keq1 false y m=true∨(x.qn=false∧y∈args)
 | [],k,m,_,_=>⟨m,by rw[qR],by simp,fun y=>by simp⟩
 | a::r,k,m,hw,hl=>by
  have hwa:=hw a (List.mem_cons_self ..)
  have hwr:∀ y,y∈r→wfI .i64 y=true:=fun y hy=>hw y (List.mem_cons_of_mem _ hy)
  rw[List.length_cons]at hl;rw[qR,ZJ hwa,ZJ hwa,ZJ hwa,ZJ (by simp[Nat.blt];omega),ZJ (by simp[Nat.blt];omega)];unfold JL
  have key:∀ v:Bool,(v=true↔mget keq1 false a m=true∨x.qn=false)→∃ m',qR x K r (k+1) (mset keq1 a v m)=K m'∧m'.length≤m.length+(a::r).length∧∀ y,mget keq1 false y m'=true↔mget keq1 false y m=true∨(x.qn=false∧y∈a::r):=by
   intro v hv;have h1:=qaa a v m;obtain⟨m',q1,q2,q3⟩:=qdX x K r (k+1) (mset keq1 a v m) hwr (by omega);refine⟨m',q1,by simp;omega,fun y=>?_⟩;rw[q3 y,mgetI,List.mem_cons]
   by_cases hy:y=a
   ·subst hy;rw[if_pos rfl,hv]
    constructor
    ·rintro ((h | h) | h)
     ·exact .inl h
     ·exact .inr ⟨h,.inl rfl⟩
     ·exact .inr ⟨h.1,.inl rfl⟩
    ·rintro (h | h)
     ·exact .inl (.inl h)
     ·exact .inl (.inr h.1)
   ·rw[if_neg hy]
    simp[hy]
  cases hm:mget keq1 false a m with
  | true =>
   rw[cond_true];exact key true (by simp[hm])
  | false =>
   rw[cond_false];exact key (!x.qn) (by simp[hm])
theorem qdY (K:List (Int×Bool)→Option Bool):∀ (body:List ruLit) (k:Nat) (m:List (Int×Bool)),(∀ b,b∈body→b.qe.qa.length≤5∧∀ y,y∈b.qe.qa→wfI .i64 y=true)→m.length+5 * body.length≤100000 →
  ∃ m',qB K body k m=K m'∧∀ y,mget keq1 false y m'=true↔mget keq1 false y m=true∨∃ b,b∈body∧b.qn=false∧y∈b.qe.qa
 | [],k,m,_,_=>⟨m,by rw[qB],fun y=>by simp⟩
 | x::r,k,m,hw,hl=>by
  obtain⟨w1,w2⟩:=hw x (List.mem_cons_self ..);rw[List.length_cons]at hl;rw[qB,ZJ (qN (by omega))];obtain⟨m1,q1,q2,q3⟩:=qdX x (jm (qB K r (k+1))) x.qe.qa 0 m w2 (by omega);rw[q1];unfold jm;obtain⟨m2,p1,p2⟩:=qdY K r (k+1) m1 (fun b hb=>hw b (List.mem_cons_of_mem _ hb)) (by omega);refine⟨m2,p1,fun y=>?_⟩;rw[p2 y,q3 y];simp only[List.mem_cons]
  constructor
  ·rintro ((h | h) | ⟨b,hb,h⟩)
   ·exact .inl h
   ·exact .inr ⟨x,.inl rfl,h⟩
   ·exact .inr ⟨b,.inr hb,h⟩
  ·rintro (h | ⟨b,rfl | hb,h⟩)
   ·exact .inl (.inl h)
   ·exact .inl (.inr h)
   ·exact .inr ⟨b,hb,h⟩
theorem qdV (m:List (Int×Bool)) (K:Option Bool):∀ (args:List Int) (k:Nat),(∀ y,y∈args→wfI .i64 y=true)→qY m K args k=if ∀ v,v∈args→0≤v→mget keq1 false v m=true then K else some false
 | [],k,_=>by simp[qY]
 | a::r,k,hw=>by
  rw[qY];unfold JK;rw[qdV m K r (k+1) fun y hy=>hw y (List.mem_cons_of_mem _ hy)];simp only[List.mem_cons,forall_eq_or_imp]
  by_cases h0:a ≥ 0
  ·rw[decide_eq_true h0,cond_true,ZJ (hw a (List.mem_cons_self ..))]
   cases hm:mget keq1 false a m with
   | true=>simp
   | false =>
    simp only[Bool.not_false,cond_true];rw[if_neg (fun h=>by have:=h.1 h0;cases this)]
  ·rw[decide_eq_false h0,cond_false,cond_false]
   have:(0≤a→mget keq1 false a m=true):=fun h=>absurd h h0
   by_cases h1:∀ v,v∈r→0≤v→mget keq1 false v m=true
   ·rw[if_pos h1,if_pos ⟨this,h1⟩]
   ·rw[if_neg h1,if_neg (fun h=>h1 h.2)]
theorem qdW (m:List (Int×Bool)):∀ (l:List qj) (k:Nat),(∀ a,a∈l→a.qa.length≤5∧∀ y,y∈a.qa→wfI .i64 y=true)→qE m qD l k=if ∀ a,a∈l→∀ v,v∈a.qa→0≤v→mget keq1 false v m=true then some true else some false
 | [],k,_=>by simp[qE,qD]
 | a::r,k,hw=>by
  obtain⟨w1,w2⟩:=hw a (List.mem_cons_self ..);rw[qE,ZJ (qN (by omega)),qdV _ _ _ _ w2];unfold jp;rw[qdW m r (k+1) fun b hb=>hw b (List.mem_cons_of_mem _ hb)];simp only[List.mem_cons,forall_eq_or_imp]
  by_cases h1:∀ v,v∈a.qa→0≤v→mget keq1 false v m=true
  ·rw[if_pos h1]
   by_cases h2:∀ a,a∈r→∀ v,v∈a.qa→0≤v→mget keq1 false v m=true
   ·rw[if_pos h2,if_pos ⟨h1,h2⟩]
   ·rw[if_neg h2,if_neg (fun h=>h2 h.2)]
  ·rw[if_neg h1,if_neg (fun h=>h1 h.1)]
theorem qcy (K:List qj→Option (List qj)):∀ (body:List ruLit) (k:Nat) (acc:List qj),acc.length+body.length≤100000→jr K body k acc=K (acc++body.map fun x=>x.qe)
 | [],k,acc,_=>by simp[jr]
 | x::r,k,acc,hl=>by
  rw[jr,ZJ (XI (by omega) (by simp at hl ⊢;omega)),qcy K r (k+1) _ (by simp at hl ⊢;omega)]
  simp
def atomsU (r:ruRule):List qj:=r.qc::r.qd.map fun x=>x.qe
theorem qaD {r:ruRule} (h:r.qd.length≤5):Qt r=some (atomsU r):=by
 unfold Qt;rw[ZJ (qN (by omega)),qcy _ _ _ _ (by simp;omega)];rfl
def safeU (r:ruRule):Prop:=∀ a,a∈atomsU r→∀ v,v∈a.qa→0≤v→∃ b,b∈r.qd∧b.qn=false∧v∈b.qe.qa
def smallU (r:ruRule):Prop:=r.qd.length≤5∧∀ a,a∈atomsU r→a.qa.length≤5∧∀ y,y∈a.qa→wfI .i64 y=true
theorem qeF {r:ruRule} (h:smallU r):Xz r=some (decide (safeU r)):=by
 unfold Xz;rw[ZJ (qN (by have:=h.1;omega))];obtain⟨m,q1,q2⟩:=qdY (qH r) r.qd 0 [] (fun b hb=>h.2 b.qe (List.mem_cons_of_mem _ (List.mem_map.2 ⟨b,hb,rfl⟩))) (by have:=h.1;simp;omega);rw[q1];unfold qH;rw[qaD h.1];simp only[Option.bind_some];rw[ZJ (qN (by have:=h.1;simp[atomsU];omega)),qdW _ _ _ h.2]
 have e:(∀ a,a∈atomsU r→∀ v,v∈a.qa→0≤v→mget keq1 false v m=true)↔safeU r:=by
  unfold safeU
  constructor
  ·intro h a ha v hv h0;have:=(q2 v).1 (h a ha v hv h0)
   simpa[mget] using this
  ·intro h a ha v hv h0;exact (q2 v).2 (.inr (h a ha v hv h0))
 by_cases hs:safeU r
 ·rw[if_pos (e.2 hs),decide_eq_true hs]
 ·rw[if_neg (fun h=>hs (e.1 h)),decide_eq_false hs]
def szU (a:qj):Je:=⟨a.qb,(a.qa.length:Int)⟩
theorem DT {fuel:Nat} (hf:4≤fuel) (K:List Int→Option Bool):∀ (l:List qj) (k:Nat) (n:List Int) (S:List Je),Tab n S →
  (((∀ a,a∈l→fitP a.qb a.qa)∧conP (S++l.map szU))∧∃ n',jx fuel K l k n=K n'∧Tab n' (S++l.map szU))∨(¬ ((∀ a,a∈l→fitP a.qb a.qa)∧conP (S++l.map szU))∧jx fuel K l k n=some false)
 | [],k,n,S,h=>.inl ⟨⟨fun f hf=>by simp at hf,by simpa using h.con⟩,n,by rw[jx],by simpa using h⟩
 | x::r,k,n,S,h=>by
  rw[jx];unfold Qj
  have e:S++(x::r).map szU=S++[szU x]++r.map szU:=by simp
  rcases h.add x.qb (x.qa.length:Int) with ⟨⟨q1,q2⟩,n',q3,q4⟩ | ⟨q1,q2⟩
  ·rw[q3];simp only[Option.bind_some,Bool.not_true,cond_false];obtain⟨⟨r1,r2⟩,r3,r4⟩:=q1;simp only at r1 r2 r3 r4;obtain⟨m,e1,e2,e3⟩:=qef hf (l:=x.qa) (by omega) (by omega);rw[e1];simp only[Option.bind_some]
   by_cases hm:m < -6
   ·rw[decide_eq_true hm,cond_true,cond_true];exact .inr ⟨fun h2=>by have:=((h2.1 x (List.mem_cons_self ..)).2.2 m e2).1;omega,rfl⟩
   rw[decide_eq_false hm,cond_false];obtain⟨M,g1,g2,g3⟩:=qei hf (l:=x.qa) (by omega) (by omega);rw[g1];simp only[Option.bind_some]
   by_cases hM:M ≥ 8
   ·rw[decide_eq_true hM,cond_true];exact .inr ⟨fun h2=>by have:=((h2.1 x (List.mem_cons_self ..)).2.2 M g2).2;omega,rfl⟩
   rw[decide_eq_false hM,cond_false];have hx:fitP x.qb x.qa:=⟨⟨r1,r2⟩,⟨by omega,by omega⟩,fun y hy=>⟨by have:=e3 y hy;omega,by have:=g3 y hy;omega⟩⟩
   rcases DT hf K r (k+1) n' _ q4 with ⟨⟨p1,p2⟩,n2,p3,p4⟩ | ⟨p1,p2⟩
   ·rw[e];refine .inl ⟨⟨fun f hf=>?_,p2⟩,n2,p3,p4⟩
    rcases List.mem_cons.1 hf with rfl | hf
    ·exact hx
    ·exact p1 f hf
   ·rw[e];exact .inr ⟨fun h2=>p1 ⟨fun f hf=>h2.1 f (List.mem_cons_of_mem _ hf),h2.2⟩,p2⟩
  ·rw[q2];simp only[Option.bind_some,Bool.not_false,cond_true];refine .inr ⟨fun h2=>q1 ⟨?_,?_⟩,by first | rfl | trivial⟩
   ·have hx:=h2.1 x (List.mem_cons_self ..);refine⟨hx.1,?_,?_⟩
    ·have:=hx.2.1.1;simp only;omega
    ·have:=hx.2.1.2;simp only;omega
   ·rw[e]at h2;exact US h2.2
def okU (r:ruRule):Prop:=r.qd.length≤3∧safeU r∧∀ a,a∈atomsU r→fitP a.qb a.qa
def sizesU (r:ruRule):List Je:=(atomsU r).map szU
theorem DU {fuel:Nat} (hf:4≤fuel):∀ (l:List ruRule) (k:Nat) (n:List Int) (S:List Je),Tab n S→(∀ r,r∈l→smallU r) →
  qP fuel qT l k n=if (∀ r,r∈l→okU r)∧conP (S++l.flatMap sizesU) then some true else some false
 | [],k,n,S,h,_=>by
  rw[qP,if_pos ⟨fun r hr=>by simp at hr,by simpa using h.con⟩];rfl
 | x::r,k,n,S,h,hs=>by
  have hsx:=hs x (List.mem_cons_self ..);rw[qP,qeF hsx];unfold QM
  by_cases h3:x.qd.length≤3
  ·rw[decide_eq_false (by omega:¬ (x.qd.length:Int) > 3),cond_false];simp only[Option.bind_some]
   by_cases h4:safeU x
   ·rw[decide_eq_true h4];simp only[Bool.not_true,cond_false];rw[qaD hsx.1];simp only[Option.bind_some];rw[ZJ (qN (by have:=hsx.1;simp[atomsU];omega))]
    have e:S++(x::r).flatMap sizesU=S++sizesU x++r.flatMap sizesU:=by simp
    rcases DT hf (ju (qP fuel qT r (k+1))) (atomsU x) 0 n S h with ⟨⟨p1,p2⟩,n2,p3,p4⟩ | ⟨p1,p2⟩
    ·rw[p3];unfold ju;rw[DU hf r (k+1) n2 _ p4 fun q hq=>hs q (List.mem_cons_of_mem _ hq),e];simp only[List.mem_cons,forall_eq_or_imp];have hok:okU x:=⟨h3,h4,p1⟩
     by_cases h5:(∀ r_1,r_1∈r→okU r_1)∧conP (S++(atomsU x).map szU++r.flatMap sizesU)
     ·rw[if_pos h5,if_pos ⟨⟨hok,h5.1⟩,h5.2⟩]
     ·rw[if_neg h5,if_neg (fun h6=>h5 ⟨h6.1.2,h6.2⟩)]
    ·rw[p2,if_neg];intro h6;refine p1 ⟨(h6.1 x (List.mem_cons_self ..)).2.2,?_⟩;rw[e]at h6;exact US h6.2
   ·rw[decide_eq_false h4];simp only[Bool.not_false,cond_true];rw[if_neg (fun h6=>h4 (h6.1 x (List.mem_cons_self ..)).2.1)]
  ·rw[decide_eq_true (by omega:(x.qd.length:Int) > 3),cond_true,cond_true,if_neg (fun h6=>h3 (h6.1 x (List.mem_cons_self ..)).1)]
def VU (l:List ruRule) (facts:List apiFact):Prop:=l.length≤10∧facts.length≤20∧(∀ f,f∈facts→groundP f)∧(∀ r,r∈l→okU r)∧conP (facts.map szF++l.flatMap sizesU)
theorem qdd {fuel:Nat} (hf:4≤fuel) {l:List ruRule} {facts:List apiFact} (hl:l.length≤1000) (hfl:facts.length≤1000) (hs:∀ r,r∈l→smallU r):Qo fuel l facts=some (decide (VU l facts)):=by
 have key:Qo fuel l facts=if VU l facts then some true else some false:=by
  unfold Qo Xr
  by_cases h1:l.length≤10
  ·rw[decide_eq_false (by omega:¬ (l.length:Int) > 10),cond_false]
   by_cases h2:facts.length≤20
   ·rw[decide_eq_false (by omega:¬ (facts.length:Int) > 20),cond_false,ZJ (qN (by omega))]
    rcases DV hf (Jx fuel l) facts 0 _ [] Tab.zero with ⟨⟨p1,p2⟩,n2,p3,p4⟩ | ⟨p1,p2⟩
    ·rw[p3];unfold Jx;rw[ZJ (qN (by omega)),DU hf l 0 n2 _ p4 hs,List.nil_append]
     by_cases h5:(∀ r,r∈l→okU r)∧conP (facts.map szF++l.flatMap sizesU)
     ·rw[if_pos h5,if_pos ⟨h1,h2,p1,h5.1,h5.2⟩]
     ·rw[if_neg h5,if_neg (fun h=>h5 ⟨h.2.2.2.1,h.2.2.2.2⟩)]
    ·rw[p2,if_neg (fun h=>p1 ⟨h.2.2.1,by rw[List.nil_append];exact US h.2.2.2.2⟩)]
   ·rw[decide_eq_true (by omega:(facts.length:Int) > 20),cond_true,if_neg (fun h=>h2 h.2.1)]
  ·rw[decide_eq_true (by omega:(l.length:Int) > 10),cond_true,cond_true,if_neg (fun h=>h1 h.1)]
 rw[key]
 by_cases h:VU l facts <;> simp[h]
end Go.AM
