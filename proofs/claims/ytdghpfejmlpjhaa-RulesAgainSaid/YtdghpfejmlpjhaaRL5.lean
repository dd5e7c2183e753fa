/- s -/
import Derived.Test.YtdghpfejmlpjhaaRM1
set_option maxRecDepth 100000
set_option linter.unusedVariables false
set_option linter.unusedSimpArgs false
namespace Go.AM
open Go.Proofs
theorem qC {α:Type} {l:List α} (h:l.length≤9223372036854775807):lenOk l=true:=Nat.ble_eq_true_of_le (by omega)
theorem JG {b n:Nat} (hb:b≤64) (h:n≤1000000000):capOk b n=true:=by
 simp only[capOk,Bool.and_eq_true,Nat.ble_eq];refine⟨?_,by omega⟩;exact Nat.le_trans (Nat.mul_le_mul h hb) (by omega)
theorem chk_t {α:Type} {b:Bool} {o:Option α} (h:b=true):chk b o=o:=by rw[h];rfl
theorem wrap64 {n:Int} (h1 : -9223372036854775808≤n) (h2:n≤9223372036854775807):IntKind.wrap .i64 n=n:=by
 simp[IntKind.wrap,IntKind.signed,IntKind.bits]
 omega
def cvA (a:rf2Atom):qi:=⟨a.qb,a.qa.take 5⟩
def cvL (x:rf3Lit):ruLit:=⟨x.qn,cvA x.qe⟩
def cvR (r:rf3Rule):ruRule:=⟨cvA r.qf,(r.qd.take 5).map cvL⟩
def cvF (f:apiFact):apiFact:=⟨f.qb,f.qa.take 9⟩
theorem sub_take {l:List Int} (n:Nat):sub l 0 (if (n:Int)<(l.length:Int) then (n:Int) else (l.length:Int))=some (l.take n):=by
 unfold sub
 split
 ·rw[if_pos ⟨by omega,by omega,by omega⟩]
  simp
 ·rw[if_pos ⟨by omega,by omega,by omega⟩]
  simp[List.take_of_length_le (show l.length≤n by omega)]
theorem clone_val {l:List Int} (h:l.length≤1000):JL l=some l:=by
 unfold JL;rw[chk_t (JG (by omega) (by omega))]
theorem atom_val (a:rf2Atom):Zn a=some (cvA a):=by
 unfold Zn;have:=sub_take (l:=a.qa) 5;rw[show ((5:Nat):Int)=5 from rfl]at this;rw[this];show (JL (a.qa.take 5)).bind _=_;rw[clone_val (by simp;omega)];rfl
theorem few_val (l:List Int):lw2_few l=some (l.take 9):=by
 unfold lw2_few;have:=sub_take (l:=l) 9;rw[show ((9:Nat):Int)=9 from rfl]at this;rw[this];show (JL (l.take 9)).bind _=_;rw[clone_val (by simp;omega)];rfl
theorem of_l2 (K:ruRule→Option (List ruRule)):∀ (body:List rf3Lit) (k:Nat) (rel:Int) (args:List Int) (acc:List ruLit),acc.length≤k→acc.length≤5→JB K body k rel args acc=K ⟨⟨rel,args⟩,acc++(body.take (5 - k)).map cvL⟩
 | [],k,rel,args,acc,_,_=>by simp[JB]
 | x::r,k,rel,args,acc,h1,h2=>by
  rw[JB]
  by_cases hk:k<5
  ·rw[decide_eq_true (by omega:(k:Int)<5),cond_true,atom_val];show chk _ _=_;rw[chk_t (JG (by omega) (by simp;omega))];unfold Xk;rw[of_l2 K r (k+1) rel args _ (by simp;omega) (by simp;omega)];obtain⟨m,hm⟩:∃ m,5 - k=m+1:=⟨5 - k - 1,by omega⟩;rw[hm,show 5 - (k+1)=m by omega,List.take_succ_cons,List.map_cons,List.append_assoc];rfl
  ·rw[decide_eq_false (by omega:¬ (k:Int)<5),cond_false];unfold Xk;rw[of_l2 K r (k+1) rel args acc (by omega) h2,show 5 - (k+1)=0 by omega,show 5 - k=0 by omega]
   simp
theorem of_l1 (K:List ruRule→Option (List ruRule)):∀ (l:List rf3Rule) (k:Nat) (acc:List ruRule),(∀ r,r∈l→lenOk r.qd=true)→acc.length≤k→acc.length≤12→jE K l k acc=K (acc++(l.take (12 - k)).map cvR)
 | [],k,acc,_,_,_=>by simp[jE]
 | x::r,k,acc,hb,h1,h2=>by
  rw[jE]
  by_cases hk:k > 11
  ·rw[decide_eq_true (by omega:(k:Int) > 11),cond_true,show 12 - k=0 by omega]
   simp
  ·rw[decide_eq_false (by omega:¬ (k:Int) > 11),cond_false,atom_val];show chk (lenOk x.qd) _=_;rw[chk_t (hb x (List.mem_cons_self ..)),of_l2 _ _ _ _ _ _ (by simp) (by simp)];show chk _ _=_;rw[chk_t (JG (by omega) (by simp;omega)),of_l1 K r (k+1) _ (fun q hq=>hb q (List.mem_cons_of_mem _ hq)) (by simp;omega) (by simp;omega)];obtain⟨m,hm⟩:∃ m,12 - k=m+1:=⟨12 - k - 1,by omega⟩;rw[hm,show 12 - (k+1)=m by omega,List.take_succ_cons,List.map_cons,List.append_assoc];rfl
theorem of_val {l:List rf3Rule} (hl:lenOk l=true) (hb:∀ r,r∈l→lenOk r.qd=true):lw3_Of l=some ((l.take 12).map cvR):=by
 unfold lw3_Of;rw[chk_t hl,of_l1 _ _ _ _ hb (by simp) (by simp)];rfl
theorem facts_l1 (K:List apiFact→Option (List apiFact)):∀ (l:List apiFact) (k:Nat) (acc:List apiFact),acc.length≤k→acc.length≤26→Jl K l k acc=K (acc++(l.take (26 - k)).map cvF)
 | [],k,acc,_,_=>by simp[Jl]
 | x::r,k,acc,h1,h2=>by
  rw[Jl]
  by_cases hk:k > 25
  ·rw[decide_eq_true (by omega:(k:Int) > 25),cond_true,show 26 - k=0 by omega]
   simp
  ·rw[decide_eq_false (by omega:¬ (k:Int) > 25),cond_false,few_val];show chk _ _=_;rw[chk_t (JG (by omega) (by simp;omega)),facts_l1 K r (k+1) _ (by simp;omega) (by simp;omega)];obtain⟨m,hm⟩:∃ m,26 - k=m+1:=⟨26 - k - 1,by omega⟩;rw[hm,show 26 - (k+1)=m by omega,List.take_succ_cons,List.map_cons,List.append_assoc];rfl
theorem facts_val {l:List apiFact} (hl:lenOk l=true):Zp l=some ((l.take 26).map cvF):=by
 unfold Zp;rw[chk_t hl,facts_l1 _ _ _ _ (by simp) (by simp)];rfl
def groundP (f:apiFact):Prop:=(0≤f.qb∧f.qb≤5)∧(1≤f.qa.length∧f.qa.length≤2)∧∀ x,x∈f.qa→1≤x∧x≤6
def fitP (rel:Int) (args:List Int):Prop:=(0≤rel∧rel≤5)∧(1≤args.length∧args.length≤2)∧∀ x,x∈args → -6≤x∧x≤7
instance (f:apiFact):Decidable (groundP f):=by unfold groundP;infer_instance
instance (rel:Int) (args:List Int):Decidable (fitP rel args):=by unfold fitP;infer_instance
end Go.AM
namespace Go.AM
open Go.Proofs
open Classical
def szF (f:apiFact):jT:=⟨f.qb,(f.qa.length:Int)⟩
def szA (a:rf2Atom):jT:=⟨a.qb,(a.qa.length:Int)⟩
def sizesR (r:rf3Rule):List jT:=szA r.qf::r.qd.map fun b=>szA b.qe
def conP (S:List jT):Prop:=∀ x,x∈S→∀ y,y∈S→x.f_0=y.f_0→x.f_1=y.f_1
def safeR (r:rf3Rule):Prop:=∀ i:Nat,i<8→(((i:Int)∈r.qf.qa∨∃ b,b∈r.qd∧(i:Int)∈b.qe.qa)↔∃ b,b∈r.qd∧b.qn=false∧(i:Int)∈b.qe.qa)
def okR (r:rf3Rule):Prop:=fitP r.qf.qb r.qf.qa∧r.qd.length≤3∧(∀ b,b∈r.qd→fitP b.qe.qb b.qe.qa)∧safeR r
def VR (l:List rf3Rule) (facts:List apiFact):Prop:=l.length≤10∧facts.length≤20∧(∀ f,f∈facts→groundP f)∧(∀ r,r∈l→okR r)∧conP (facts.map szF++l.flatMap sizesR)
def okArgs (l:List Int):Prop:=lenOk l=true∧∀ x,x∈l→wfI .i64 x=true
def okAtom (a:rf2Atom):Prop:=wfI .i64 a.qb=true∧okArgs a.qa
def okRule (r:rf3Rule):Prop:=okAtom r.qf∧lenOk r.qd=true∧∀ b,b∈r.qd→okAtom b.qe
def okRules (l:List rf3Rule):Prop:=lenOk l=true∧∀ r,r∈l→okRule r
def okFact (f:apiFact):Prop:=wfI .i64 f.qb=true∧okArgs f.qa
def okFacts (l:List apiFact):Prop:=lenOk l=true∧∀ f,f∈l→okFact f
end Go.AM
namespace Go.AM
open Go.Proofs
open Classical
theorem min_val {fuel:Nat} (hf:4≤fuel) {l:List Int} (h1:1≤l.length) (h2:l.length≤2):∃ m,Qu fuel l=some m∧m∈l∧∀ x,x∈l→m≤x:=by
 obtain⟨f,rfl⟩:∃ f,fuel=f+4:=⟨fuel - 4,by omega⟩
 match l,h1,h2 with
 | [a],_,_ =>
  refine⟨a,?_,by simp,by simp⟩
  simp[Qu,Jg,Jh,idx]
 | [a,b],_,_ =>
  have e:Qu (f+4) [a,b]=some (if b<a then b else a):=by
   simp[Qu,Jg,Jh,idx,wrap64]
  rw[e]
  by_cases h:b<a
  ·rw[if_pos h];exact⟨b,rfl,by simp,by simp;omega⟩
  ·rw[if_neg h];exact⟨a,rfl,by simp,by simp;omega⟩
theorem max_val {fuel:Nat} (hf:4≤fuel) {l:List Int} (h1:1≤l.length) (h2:l.length≤2):∃ m,Jr fuel l=some m∧m∈l∧∀ x,x∈l→x≤m:=by
 obtain⟨f,rfl⟩:∃ f,fuel=f+4:=⟨fuel - 4,by omega⟩
 match l,h1,h2 with
 | [a],_,_ =>
  refine⟨a,?_,by simp,by simp⟩
  simp[Jr,jn,jF,idx]
 | [a,b],_,_ =>
  have e:Jr (f+4) [a,b]=some (if b > a then b else a):=by
   simp[Jr,jn,jF,idx,wrap64]
  rw[e]
  by_cases h:b > a
  ·rw[if_pos h];exact⟨b,rfl,by simp,by simp;omega⟩
  ·rw[if_neg h];exact⟨a,rfl,by simp,by simp;omega⟩
def rangeP (s:jT):Prop:=(0≤s.f_0∧s.f_0≤5)∧1≤s.f_1∧s.f_1≤2
def Tab (n:List Int) (S:List jT):Prop:=n.length=6∧(∀ s,s∈S→rangeP s)∧∀ i:Nat,i<6→(n[i]? = some 0∧∀ s,s∈S→s.f_0≠i)∨∃ k,n[i]? = some k∧k≠0∧(⟨i,k⟩:jT)∈S∧∀ s,s∈S→s.f_0=i→s.f_1=k
theorem Tab.zero:Tab (List.replicate 6 0) []:=⟨by simp,fun s hs=>by simp at hs,fun i hi=>.inl ⟨by rw[List.getElem?_replicate,if_pos hi],fun s hs=>by simp at hs⟩⟩
theorem Tab.con {n:List Int} {S:List jT} (h:Tab n S):conP S:=by
 intro x hx y hy hxy;obtain⟨⟨r1,r2⟩,_⟩:=h.2.1 x hx
 rcases h.2.2 x.f_0.toNat (by omega) with ⟨_,q⟩ | ⟨k,_,_,_,q⟩
 ·exact absurd (show x.f_0=(x.f_0.toNat:Int) by omega) (q x hx)
 ·rw[q x hx (by omega),q y hy (by omega)]
theorem Tab.add {n:List Int} {S:List jT} (h:Tab n S) (rel k:Int) :
  ((rangeP ⟨rel,k⟩∧conP (S++[⟨rel,k⟩]))∧∃ n',Jp n rel k=some (true,n')∧Tab n' (S++[⟨rel,k⟩]))∨(¬ (rangeP ⟨rel,k⟩∧conP (S++[⟨rel,k⟩]))∧Jp n rel k=some (false,n)):=by
 unfold Jp qU
 by_cases h1:rel<0
 ·rw[decide_eq_true h1,cond_true,cond_true];exact .inr ⟨fun h2=>by have:=h2.1.1.1;simp only at this;omega,rfl⟩
 rw[decide_eq_false h1,cond_false]
 by_cases h2:rel ≥ 6
 ·rw[decide_eq_true h2,cond_true,cond_true];exact .inr ⟨fun h2=>by have:=h2.1.1.2;simp only at this;omega,rfl⟩
 rw[decide_eq_false h2,cond_false]
 by_cases h3:k<1
 ·rw[decide_eq_true h3,cond_true,cond_true];exact .inr ⟨fun h2=>by have:=h2.1.2.1;simp only at this;omega,rfl⟩
 rw[decide_eq_false h3,cond_false]
 by_cases h4:k > 2
 ·rw[decide_eq_true h4,cond_true,cond_true];exact .inr ⟨fun h2=>by have:=h2.1.2.2;simp only at this;omega,rfl⟩
 rw[decide_eq_false h4,cond_false];have hr:rangeP ⟨rel,k⟩:=⟨⟨by simp only;omega,by simp only;omega⟩,by simp only;omega,by simp only;omega⟩;obtain⟨i,rfl⟩:∃ i:Nat,rel=i:=⟨rel.toNat,by omega⟩
 have hi:i<6:=by omega
 have e0:(0+Int.toNat (i:Int) * 1)=i:=by omega
 rw[chk_t (decide_eq_true (by omega)),e0]
 have hset:∀ m:Int,n[i]? = some m→(m=0∨m=k)→conP (S++[⟨i,k⟩])∧Tab (n.set i k) (S++[⟨i,k⟩]):=by
  intro m hm hmk
  have hq:∀ s,s∈S→s.f_0=i→s.f_1=k:=by
   rcases h.2.2 i hi with ⟨q1,q2⟩ | ⟨k',q1,q2,q3,q4⟩
   ·exact fun s hs e=>absurd e (q2 s hs)
   ·rw[hm]at q1;cases q1;intro s hs e;rw[q4 s hs e]
    rcases hmk with h5 | h5
    ·exact absurd h5 q2
    ·exact h5
  have hTab:Tab (n.set i k) (S++[⟨i,k⟩]):=by
   refine⟨by simp[h.1],fun s hs=>?_,fun j hj=>?_⟩
   ·rcases List.mem_append.1 hs with hs | hs
    ·exact h.2.1 s hs
    ·rw[List.mem_singleton.1 hs];exact hr
   ·by_cases hij:j=i
    ·subst hij;refine .inr ⟨k,by rw[List.getElem?_set_self (by rw[h.1];omega)],by omega,by simp,fun s hs e=>?_⟩
     rcases List.mem_append.1 hs with hs | hs
     ·exact hq s hs e
     ·rw[List.mem_singleton.1 hs]
    ·rw[List.getElem?_set_ne (fun e=>hij e.symm)]
     rcases h.2.2 j hj with ⟨q1,q2⟩ | ⟨k',q1,q2,q3,q4⟩
     ·refine .inl ⟨q1,fun s hs=>?_⟩
      rcases List.mem_append.1 hs with hs | hs
      ·exact q2 s hs
      ·rw[List.mem_singleton.1 hs];simp only;omega
     ·refine .inr ⟨k',q1,q2,List.mem_append_left _ q3,fun s hs e=>?_⟩
      rcases List.mem_append.1 hs with hs | hs
      ·exact q4 s hs e
      ·rw[List.mem_singleton.1 hs]at e;simp only at e;omega
  exact⟨hTab.con,hTab⟩
 have hlen:i<n.length:=by rw[h.1];exact hi
 rcases h.2.2 i hi with ⟨q1,q2⟩ | ⟨k',q1,q2,q3,q4⟩
 ·rw[q1];simp only[Option.bind_some,bne_self_eq_false,cond_false];rw[chk_t (decide_eq_true (by omega)),chk_t (decide_eq_true hlen)];obtain⟨c1,c2⟩:=hset 0 q1 (.inl rfl);exact .inl ⟨⟨hr,c1⟩,_,rfl,c2⟩
 ·rw[q1];simp only[Option.bind_some]
  have:(k' != 0)=true:=by simp[q2]
  rw[this,cond_true]
  by_cases hk:k'=k
  ·have e1:(k' != k)=false:=by simp[hk]
   rw[e1,cond_false,chk_t (decide_eq_true (by omega)),chk_t (decide_eq_true (by omega)),chk_t (decide_eq_true hlen)];obtain⟨c1,c2⟩:=hset k' q1 (.inr hk);exact .inl ⟨⟨hr,c1⟩,_,rfl,c2⟩
  ·have e1:(k' != k)=true:=by simp[hk]
   rw[e1,cond_true,chk_t (decide_eq_true (by omega))];exact .inr ⟨fun h2=>hk (h2.2 ⟨i,k'⟩ (List.mem_append_left _ q3) ⟨i,k⟩ (by simp) rfl),rfl⟩
theorem isFact_val {fuel:Nat} (hf:4≤fuel) (f:apiFact):Zg fuel f=some (decide (groundP f)):=by
 unfold Zg Qe
 rcases Tab.zero.add f.qb (f.qa.length:Int) with ⟨⟨h1,_⟩,n',h2,_⟩ | ⟨h1,h2⟩
 ·rw[h2];simp only[Option.bind_some,cond_true];obtain⟨⟨r1,r2⟩,r3,r4⟩:=h1;simp only at r1 r2 r3 r4;obtain⟨m,e1,e2,e3⟩:=min_val hf (l:=f.qa) (by omega) (by omega);rw[e1];simp only[Option.bind_some]
  by_cases hm:m ≥ 1
  ·rw[decide_eq_true hm,cond_true];obtain⟨M,g1,g2,g3⟩:=max_val hf (l:=f.qa) (by omega) (by omega);rw[g1];simp only[Option.bind_some]
   congr 1
   rw[decide_eq_decide]
   constructor
   ·intro h;exact⟨⟨r1,r2⟩,⟨by omega,by omega⟩,fun x hx=>⟨by have:=e3 x hx;omega,by have:=g3 x hx;omega⟩⟩
   ·intro h;exact (h.2.2 M g2).2
  ·rw[decide_eq_false hm,cond_false,decide_eq_false (fun h:groundP f=>by have:=(h.2.2 m e2).1;omega)]
 ·rw[h2];simp only[Option.bind_some,cond_false];rw[decide_eq_false];intro h;refine h1 ⟨⟨h.1,by simp only;have:=h.2.1.1;omega,by simp only;have:=h.2.1.2;omega⟩,?_⟩;intro x hx y hy _;rw[List.nil_append]at hx hy;rw[List.mem_singleton.1 hx,List.mem_singleton.1 hy]
theorem conP_pre {S T:List jT} (h:conP (S++T)):conP S:=fun x hx y hy e=>h x (List.mem_append_left _ hx) y (List.mem_append_left _ hy) e
theorem pvalid_l1 {fuel:Nat} (hf:4≤fuel) (K:List Int→Option Bool):∀ (l:List apiFact) (k:Nat) (n:List Int) (S:List jT),Tab n S →
  (((∀ f,f∈l→groundP f)∧conP (S++l.map szF))∧∃ n',ju fuel K l k n=K n'∧Tab n' (S++l.map szF))∨(¬ ((∀ f,f∈l→groundP f)∧conP (S++l.map szF))∧ju fuel K l k n=some false)
 | [],k,n,S,h=>.inl ⟨⟨fun f hf=>by simp at hf,by simpa using h.con⟩,n,by rw[ju],by simpa using h⟩
 | x::r,k,n,S,h=>by
  rw[ju,isFact_val hf];simp only[Option.bind_some];unfold QG
  by_cases hx:groundP x
  ·rw[decide_eq_true hx];simp only[Bool.not_true,cond_false]
   have e:S++(x::r).map szF=S++[szF x]++r.map szF:=by simp
   rcases h.add x.qb (x.qa.length:Int) with ⟨⟨q1,q2⟩,n',q3,q4⟩ | ⟨q1,q2⟩
   ·rw[q3];simp only[Option.bind_some,Bool.not_true,cond_false]
    rcases pvalid_l1 hf K r (k+1) n' _ q4 with ⟨⟨p1,p2⟩,n2,p3,p4⟩ | ⟨p1,p2⟩
    ·rw[e];refine .inl ⟨⟨fun f hf=>?_,p2⟩,n2,p3,p4⟩
     rcases List.mem_cons.1 hf with rfl | hf
     ·exact hx
     ·exact p1 f hf
    ·rw[e];exact .inr ⟨fun h2=>p1 ⟨fun f hf=>h2.1 f (List.mem_cons_of_mem _ hf),h2.2⟩,p2⟩
   ·rw[q2];simp only[Option.bind_some,Bool.not_false,cond_true];refine .inr ⟨fun h2=>q1 ⟨⟨hx.1,?_,?_⟩,?_⟩,by first | rfl | trivial⟩
    ·have:=hx.2.1.1;simp only;omega
    ·have:=hx.2.1.2;simp only;omega
    ·rw[e]at h2;exact conP_pre h2.2
  ·rw[decide_eq_false hx];simp only[Bool.not_false,cond_true];exact .inr ⟨fun h2=>hx (h2.1 x (List.mem_cons_self ..)),by first | rfl | trivial⟩
end Go.AM
namespace Go.AM
open Go.Proofs
open Classical
theorem mgetI (k x:Int) (v:Bool):∀ l:List (Int×Bool),mget keq1 false x (mset keq1 k v l)=if x=k then v else mget keq1 false x l
 | []=>by
  simp only[mset,mget,keq1]
  by_cases h:x=k
  ·subst h;simp
  ·have:(k == x)=false:=by simp;omega
   simp[this,h]
 | p::r=>by
  have ih:=mgetI k x v r;simp only[mset]
  cases hq:keq1 p.1 k with
  | true =>
   have hpk:p.1=k:=by simpa[keq1] using hq
   simp only[cond_true,mget,keq1]
   by_cases h:x=k
   ·subst h;simp[hpk]
   ·have h2:(p.1 == x)=false:=by simp;omega
    rw[h2];simp[h]
  | false =>
   have hpk:¬ p.1=k:=by simpa[keq1] using hq
   simp only[cond_false,mget];rw[ih]
   by_cases h:x=k
   ·subst h;rw[hq];simp
   ·simp[h]
theorem msetI_len (k:Int) (v:Bool):∀ l:List (Int×Bool),(mset keq1 k v l).length≤l.length+1
 | []=>by simp[mset]
 | p::r=>by
  have:=msetI_len k v r;unfold mset;cases keq1 p.1 k <;> simp <;> omega
theorem safe_l2 (x:ruLit) (K:List (Int×Bool)→Option Bool):∀ (args:List Int) (k:Nat) (m:List (Int×Bool)),(∀ y,y∈args→wfI .i64 y=true)→m.length+args.length≤100000 →
  ∃ m',qN x K args k m=K m'∧m'.length≤m.length+args.length∧∀ y,mget keq1 false y m'=true↔mget keq1 false y m=true∨(x.qn=false∧y∈args)
 | [],k,m,_,_=>⟨m,by rw[qN],by simp,fun y=>by simp⟩
 | a::r,k,m,hw,hl=>by
  have hwa:=hw a (List.mem_cons_self ..)
  have hwr:∀ y,y∈r→wfI .i64 y=true:=fun y hy=>hw y (List.mem_cons_of_mem _ hy)
  rw[List.length_cons]at hl;rw[qN,chk_t hwa,chk_t hwa,chk_t hwa,chk_t (by simp[Nat.blt];omega),chk_t (by simp[Nat.blt];omega)];unfold JA
  have key:∀ v:Bool,(v=true↔mget keq1 false a m=true∨x.qn=false)→∃ m',qN x K r (k+1) (mset keq1 a v m)=K m'∧m'.length≤m.length+(a::r).length∧∀ y,mget keq1 false y m'=true↔mget keq1 false y m=true∨(x.qn=false∧y∈a::r):=by
   intro v hv;have h1:=msetI_len a v m;obtain⟨m',q1,q2,q3⟩:=safe_l2 x K r (k+1) (mset keq1 a v m) hwr (by omega);refine⟨m',q1,by simp;omega,fun y=>?_⟩;rw[q3 y,mgetI,List.mem_cons]
   by_cases hy:y=a
   ·subst hy;rw[if_pos rfl,hv]
    constructor
    ·rintro ((h | h) | h)
     ·exact .inl h
     ·exact .inr ⟨h,.inl rfl⟩
     ·exact .inr ⟨h.1,.inl rfl⟩
    ·rintro (h | h)
     ·exact .inl (.inl h)
     ·exact .inl (.inr h.1)
   ·rw[if_neg hy]
    simp[hy]
  cases hm:mget keq1 false a m with
  | true =>
   rw[cond_true];exact key true (by simp[hm])
  | false =>
   rw[cond_false];exact key (!x.qn) (by simp[hm])
theorem safe_l1 (K:List (Int×Bool)→Option Bool):∀ (body:List ruLit) (k:Nat) (m:List (Int×Bool)),(∀ b,b∈body→b.qe.qa.length≤5∧∀ y,y∈b.qe.qa→wfI .i64 y=true)→m.length+5 * body.length≤100000 →
  ∃ m',qx K body k m=K m'∧∀ y,mget keq1 false y m'=true↔mget keq1 false y m=true∨∃ b,b∈body∧b.qn=false∧y∈b.qe.qa
 | [],k,m,_,_=>⟨m,by rw[qx],fun y=>by simp⟩
 | x::r,k,m,hw,hl=>by
  obtain⟨w1,w2⟩:=hw x (List.mem_cons_self ..);rw[List.length_cons]at hl;rw[qx,chk_t (qC (by omega))];obtain⟨m1,q1,q2,q3⟩:=safe_l2 x (jd (qx K r (k+1))) x.qe.qa 0 m w2 (by omega);rw[q1];unfold jd;obtain⟨m2,p1,p2⟩:=safe_l1 K r (k+1) m1 (fun b hb=>hw b (List.mem_cons_of_mem _ hb)) (by omega);refine⟨m2,p1,fun y=>?_⟩;rw[p2 y,q3 y];simp only[List.mem_cons]
  constructor
  ·rintro ((h | h) | ⟨b,hb,h⟩)
   ·exact .inl h
   ·exact .inr ⟨x,.inl rfl,h⟩
   ·exact .inr ⟨b,.inr hb,h⟩
  ·rintro (h | ⟨b,rfl | hb,h⟩)
   ·exact .inl (.inl h)
   ·exact .inl (.inr h)
   ·exact .inr ⟨b,hb,h⟩
theorem safe_l4 (m:List (Int×Bool)) (K:Option Bool):∀ (args:List Int) (k:Nat),(∀ y,y∈args→wfI .i64 y=true)→qQ m K args k=if ∀ v,v∈args→0≤v→mget keq1 false v m=true then K else some false
 | [],k,_=>by simp[qQ]
 | a::r,k,hw=>by
  rw[qQ];unfold Jz;rw[safe_l4 m K r (k+1) fun y hy=>hw y (List.mem_cons_of_mem _ hy)];simp only[List.mem_cons,forall_eq_or_imp]
  by_cases h0:a ≥ 0
  ·rw[decide_eq_true h0,cond_true,chk_t (hw a (List.mem_cons_self ..))]
   cases hm:mget keq1 false a m with
   | true=>simp
   | false =>
    simp only[Bool.not_false,cond_true];rw[if_neg (fun h=>by have:=h.1 h0;cases this)]
  ·rw[decide_eq_false h0,cond_false,cond_false]
   have:(0≤a→mget keq1 false a m=true):=fun h=>absurd h h0
   by_cases h1:∀ v,v∈r→0≤v→mget keq1 false v m=true
   ·rw[if_pos h1,if_pos ⟨this,h1⟩]
   ·rw[if_neg h1,if_neg (fun h=>h1 h.2)]
theorem safe_l3 (m:List (Int×Bool)):∀ (l:List qi) (k:Nat),(∀ a,a∈l→a.qa.length≤5∧∀ y,y∈a.qa→wfI .i64 y=true)→qE m qD l k=if ∀ a,a∈l→∀ v,v∈a.qa→0≤v→mget keq1 false v m=true then some true else some false
 | [],k,_=>by simp[qE,qD]
 | a::r,k,hw=>by
  obtain⟨w1,w2⟩:=hw a (List.mem_cons_self ..);rw[qE,chk_t (qC (by omega)),safe_l4 _ _ _ _ w2];unfold jg;rw[safe_l3 m r (k+1) fun b hb=>hw b (List.mem_cons_of_mem _ hb)];simp only[List.mem_cons,forall_eq_or_imp]
  by_cases h1:∀ v,v∈a.qa→0≤v→mget keq1 false v m=true
  ·rw[if_pos h1]
   by_cases h2:∀ a,a∈r→∀ v,v∈a.qa→0≤v→mget keq1 false v m=true
   ·rw[if_pos h2,if_pos ⟨h1,h2⟩]
   ·rw[if_neg h2,if_neg (fun h=>h2 h.2)]
  ·rw[if_neg h1,if_neg (fun h=>h1 h.1)]
theorem atoms_l1 (K:List qi→Option (List qi)):∀ (body:List ruLit) (k:Nat) (acc:List qi),acc.length+body.length≤100000→jh K body k acc=K (acc++body.map fun x=>x.qe)
 | [],k,acc,_=>by simp[jh]
 | x::r,k,acc,hl=>by
  rw[jh,chk_t (JG (by omega) (by simp at hl ⊢;omega)),atoms_l1 K r (k+1) _ (by simp at hl ⊢;omega)]
  simp
def atomsU (r:ruRule):List qi:=r.qf::r.qd.map fun x=>x.qe
theorem atoms_val {r:ruRule} (h:r.qd.length≤5):Qn r=some (atomsU r):=by
 unfold Qn;rw[chk_t (qC (by omega)),atoms_l1 _ _ _ _ (by simp;omega)];rfl
def safeU (r:ruRule):Prop:=∀ a,a∈atomsU r→∀ v,v∈a.qa→0≤v→∃ b,b∈r.qd∧b.qn=false∧v∈b.qe.qa
def smallU (r:ruRule):Prop:=r.qd.length≤5∧∀ a,a∈atomsU r→a.qa.length≤5∧∀ y,y∈a.qa→wfI .i64 y=true
theorem psafe_val {r:ruRule} (h:smallU r):Xx r=some (decide (safeU r)):=by
 unfold Xx;rw[chk_t (qC (by have:=h.1;omega))];obtain⟨m,q1,q2⟩:=safe_l1 (qH r) r.qd 0 [] (fun b hb=>h.2 b.qe (List.mem_cons_of_mem _ (List.mem_map.2 ⟨b,hb,rfl⟩))) (by have:=h.1;simp;omega);rw[q1];unfold qH;rw[atoms_val h.1];simp only[Option.bind_some];rw[chk_t (qC (by have:=h.1;simp[atomsU];omega)),safe_l3 _ _ _ h.2]
 have e:(∀ a,a∈atomsU r→∀ v,v∈a.qa→0≤v→mget keq1 false v m=true)↔safeU r:=by
  unfold safeU
  constructor
  ·intro h a ha v hv h0;have:=(q2 v).1 (h a ha v hv h0)
   simpa[mget] using this
  ·intro h a ha v hv h0;exact (q2 v).2 (.inr (h a ha v hv h0))
 by_cases hs:safeU r
 ·rw[if_pos (e.2 hs),decide_eq_true hs]
 ·rw[if_neg (fun h=>hs (e.1 h)),decide_eq_false hs]
def szU (a:qi):jT:=⟨a.qb,(a.qa.length:Int)⟩
theorem pvalid_l3 {fuel:Nat} (hf:4≤fuel) (K:List Int→Option Bool):∀ (l:List qi) (k:Nat) (n:List Int) (S:List jT),Tab n S →
  (((∀ a,a∈l→fitP a.qb a.qa)∧conP (S++l.map szU))∧∃ n',jm fuel K l k n=K n'∧Tab n' (S++l.map szU))∨(¬ ((∀ a,a∈l→fitP a.qb a.qa)∧conP (S++l.map szU))∧jm fuel K l k n=some false)
 | [],k,n,S,h=>.inl ⟨⟨fun f hf=>by simp at hf,by simpa using h.con⟩,n,by rw[jm],by simpa using h⟩
 | x::r,k,n,S,h=>by
  rw[jm];unfold Qd
  have e:S++(x::r).map szU=S++[szU x]++r.map szU:=by simp
  rcases h.add x.qb (x.qa.length:Int) with ⟨⟨q1,q2⟩,n',q3,q4⟩ | ⟨q1,q2⟩
  ·rw[q3];simp only[Option.bind_some,Bool.not_true,cond_false];obtain⟨⟨r1,r2⟩,r3,r4⟩:=q1;simp only at r1 r2 r3 r4;obtain⟨m,e1,e2,e3⟩:=min_val hf (l:=x.qa) (by omega) (by omega);rw[e1];simp only[Option.bind_some]
   by_cases hm:m < -6
   ·rw[decide_eq_true hm,cond_true,cond_true];exact .inr ⟨fun h2=>by have:=((h2.1 x (List.mem_cons_self ..)).2.2 m e2).1;omega,rfl⟩
   rw[decide_eq_false hm,cond_false];obtain⟨M,g1,g2,g3⟩:=max_val hf (l:=x.qa) (by omega) (by omega);rw[g1];simp only[Option.bind_some]
   by_cases hM:M ≥ 8
   ·rw[decide_eq_true hM,cond_true];exact .inr ⟨fun h2=>by have:=((h2.1 x (List.mem_cons_self ..)).2.2 M g2).2;omega,rfl⟩
   rw[decide_eq_false hM,cond_false];have hx:fitP x.qb x.qa:=⟨⟨r1,r2⟩,⟨by omega,by omega⟩,fun y hy=>⟨by have:=e3 y hy;omega,by have:=g3 y hy;omega⟩⟩
   rcases pvalid_l3 hf K r (k+1) n' _ q4 with ⟨⟨p1,p2⟩,n2,p3,p4⟩ | ⟨p1,p2⟩
   ·rw[e];refine .inl ⟨⟨fun f hf=>?_,p2⟩,n2,p3,p4⟩
    rcases List.mem_cons.1 hf with rfl | hf
    ·exact hx
    ·exact p1 f hf
   ·rw[e];exact .inr ⟨fun h2=>p1 ⟨fun f hf=>h2.1 f (List.mem_cons_of_mem _ hf),h2.2⟩,p2⟩
  ·rw[q2];simp only[Option.bind_some,Bool.not_false,cond_true];refine .inr ⟨fun h2=>q1 ⟨?_,?_⟩,by first | rfl | trivial⟩
   ·have hx:=h2.1 x (List.mem_cons_self ..);refine⟨hx.1,?_,?_⟩
    ·have:=hx.2.1.1;simp only;omega
    ·have:=hx.2.1.2;simp only;omega
   ·rw[e]at h2;exact conP_pre h2.2
def okU (r:ruRule):Prop:=r.qd.length≤3∧safeU r∧∀ a,a∈atomsU r→fitP a.qb a.qa
def sizesU (r:ruRule):List jT:=(atomsU r).map szU
theorem pvalid_l2 {fuel:Nat} (hf:4≤fuel):∀ (l:List ruRule) (k:Nat) (n:List Int) (S:List jT),Tab n S→(∀ r,r∈l→smallU r) →
  qL fuel qO l k n=if (∀ r,r∈l→okU r)∧conP (S++l.flatMap sizesU) then some true else some false
 | [],k,n,S,h,_=>by
  rw[qL,if_pos ⟨fun r hr=>by simp at hr,by simpa using h.con⟩];rfl
 | x::r,k,n,S,h,hs=>by
  have hsx:=hs x (List.mem_cons_self ..);rw[qL,psafe_val hsx];unfold QF
  by_cases h3:x.qd.length≤3
  ·rw[decide_eq_false (by omega:¬ (x.qd.length:Int) > 3),cond_false];simp only[Option.bind_some]
   by_cases h4:safeU x
   ·rw[decide_eq_true h4];simp only[Bool.not_true,cond_false];rw[atoms_val hsx.1];simp only[Option.bind_some];rw[chk_t (qC (by have:=hsx.1;simp[atomsU];omega))]
    have e:S++(x::r).flatMap sizesU=S++sizesU x++r.flatMap sizesU:=by simp
    rcases pvalid_l3 hf (jj (qL fuel qO r (k+1))) (atomsU x) 0 n S h with ⟨⟨p1,p2⟩,n2,p3,p4⟩ | ⟨p1,p2⟩
    ·rw[p3];unfold jj;rw[pvalid_l2 hf r (k+1) n2 _ p4 fun q hq=>hs q (List.mem_cons_of_mem _ hq),e];simp only[List.mem_cons,forall_eq_or_imp];have hok:okU x:=⟨h3,h4,p1⟩
     by_cases h5:(∀ r_1,r_1∈r→okU r_1)∧conP (S++(atomsU x).map szU++r.flatMap sizesU)
     ·rw[if_pos h5,if_pos ⟨⟨hok,h5.1⟩,h5.2⟩]
     ·rw[if_neg h5,if_neg (fun h6=>h5 ⟨h6.1.2,h6.2⟩)]
    ·rw[p2,if_neg];intro h6;refine p1 ⟨(h6.1 x (List.mem_cons_self ..)).2.2,?_⟩;rw[e]at h6;exact conP_pre h6.2
   ·rw[decide_eq_false h4];simp only[Bool.not_false,cond_true];rw[if_neg (fun h6=>h4 (h6.1 x (List.mem_cons_self ..)).2.1)]
  ·rw[decide_eq_true (by omega:(x.qd.length:Int) > 3),cond_true,cond_true,if_neg (fun h6=>h3 (h6.1 x (List.mem_cons_self ..)).1)]
def VU (l:List ruRule) (facts:List apiFact):Prop:=l.length≤10∧facts.length≤20∧(∀ f,f∈facts→groundP f)∧(∀ r,r∈l→okU r)∧conP (facts.map szF++l.flatMap sizesU)
theorem pvalid_val {fuel:Nat} (hf:4≤fuel) {l:List ruRule} {facts:List apiFact} (hl:l.length≤1000) (hfl:facts.length≤1000) (hs:∀ r,r∈l→smallU r):Xw fuel l facts=some (decide (VU l facts)):=by
 have key:Xw fuel l facts=if VU l facts then some true else some false:=by
  unfold Xw Xo
  by_cases h1:l.length≤10
  ·rw[decide_eq_false (by omega:¬ (l.length:Int) > 10),cond_false]
   by_cases h2:facts.length≤20
   ·rw[decide_eq_false (by omega:¬ (facts.length:Int) > 20),cond_false,chk_t (qC (by omega))]
    rcases pvalid_l1 hf (Jo fuel l) facts 0 _ [] Tab.zero with ⟨⟨p1,p2⟩,n2,p3,p4⟩ | ⟨p1,p2⟩
    ·rw[p3];unfold Jo;rw[chk_t (qC (by omega)),pvalid_l2 hf l 0 n2 _ p4 hs,List.nil_append]
     by_cases h5:(∀ r,r∈l→okU r)∧conP (facts.map szF++l.flatMap sizesU)
     ·rw[if_pos h5,if_pos ⟨h1,h2,p1,h5.1,h5.2⟩]
     ·rw[if_neg h5,if_neg (fun h=>h5 ⟨h.2.2.2.1,h.2.2.2.2⟩)]
    ·rw[p2,if_neg (fun h=>p1 ⟨h.2.2.1,by rw[List.nil_append];exact conP_pre h.2.2.2.2⟩)]
   ·rw[decide_eq_true (by omega:(facts.length:Int) > 20),cond_true,if_neg (fun h=>h2 h.2.1)]
  ·rw[decide_eq_true (by omega:(l.length:Int) > 10),cond_true,cond_true,if_neg (fun h=>h1 h.1)]
 rw[key]
 by_cases h:VU l facts <;> simp[h]
end Go.AM
namespace Go.AM
open Go.Proofs
open Classical
theorem fit_take {rel:Int} {args:List Int}:fitP rel (args.take 5)↔fitP rel args∧args.take 5=args:=by
 constructor
 ·intro h
  have h1:args.length≤5:=by
   have:=h.2.1.2;rw[List.length_take]at this;omega
  have e:args.take 5=args:=List.take_of_length_le h1;rw[e]at h;exact⟨h,e⟩
 ·rintro⟨h,e⟩
  rw[e];exact h
theorem fit_take2 {rel:Int} {args:List Int} (h:fitP rel args):args.take 5=args:=List.take_of_length_le (by have:=h.2.1.2;omega)
theorem ground_take {f:apiFact}:groundP (cvF f)↔groundP f:=by
 unfold groundP cvF
 constructor
 ·intro h
  have h1:f.qa.length≤9:=by
   have:=h.2.1.2;simp only[List.length_take]at this;omega
  rw[List.take_of_length_le h1]at h;exact h
 ·intro h;rw[List.take_of_length_le (by have:=h.2.1.2;omega)];exact h
theorem cvF_id {f:apiFact} (h:groundP f):cvF f=f:=by
 unfold cvF;rw[List.take_of_length_le (by have:=h.2.1.2;omega)]
theorem YE {a:rf2Atom} (h:fitP a.qb a.qa):(cvA a).qa=a.qa:=fit_take2 h
theorem okU_iff (r:rf3Rule):okU (cvR r)↔okR r:=by
 have hb:((cvR r).qd.length≤3↔r.qd.length≤3):=by simp[cvR];omega
 have hbody:r.qd.length≤3→(cvR r).qd=r.qd.map cvL:=fun h=>by unfold cvR;simp only;rw[List.take_of_length_le (by omega)]
 have hatoms:r.qd.length≤3→((∀ a,a∈atomsU (cvR r)→fitP a.qb a.qa)↔(fitP r.qf.qb r.qf.qa∧∀ b,b∈r.qd→fitP b.qe.qb b.qe.qa)):=fun h=>by
  unfold atomsU;rw[hbody h]
  constructor
  ·intro h2;refine⟨(fit_take.1 (h2 _ (List.mem_cons_self ..))).1,fun b hb=>?_⟩;exact (fit_take.1 (h2 (cvA b.qe) (List.mem_cons_of_mem _ (List.mem_map.2 ⟨cvL b,List.mem_map.2 ⟨b,hb,rfl⟩,rfl⟩)))).1
  ·rintro⟨h2,h3⟩ a ha
   rcases List.mem_cons.1 ha with rfl | ha
   ·exact fit_take.2 ⟨h2,fit_take2 h2⟩
   ·obtain⟨y,hy,rfl⟩:=List.mem_map.1 ha;obtain⟨b,hb,rfl⟩:=List.mem_map.1 hy;exact fit_take.2 ⟨h3 b hb,fit_take2 (h3 b hb)⟩
 have hsafe:r.qd.length≤3→(fitP r.qf.qb r.qf.qa∧∀ b,b∈r.qd→fitP b.qe.qb b.qe.qa)→(safeU (cvR r)↔safeR r):=fun h h2=>by
  have hbd:∀ v:Int,(∃ b,b∈(cvR r).qd∧b.qn=false∧v∈b.qe.qa)↔∃ b,b∈r.qd∧b.qn=false∧v∈b.qe.qa:=fun v=>by
   rw[hbody h]
   constructor
   ·rintro⟨y,hy,q1,q2⟩
    obtain⟨b,hb,rfl⟩:=List.mem_map.1 hy;have q2':v∈(cvA b.qe).qa:=q2;rw[YE (h2.2 b hb)]at q2';exact⟨b,hb,q1,q2'⟩
   ·rintro⟨b,hb,q1,q2⟩
    refine⟨cvL b,List.mem_map.2 ⟨b,hb,rfl⟩,q1,?_⟩;show v∈(cvA b.qe).qa;rw[YE (h2.2 b hb)];exact q2
  unfold safeU safeR
  constructor
  ·intro hu i hi
   constructor
   ·rintro (h3 | ⟨b,hb,h3⟩)
    ·exact (hbd i).1 (hu (cvA r.qf) (List.mem_cons_self ..) i (by rw[YE h2.1];exact h3) (by omega))
    ·refine (hbd i).1 (hu (cvA b.qe) (List.mem_cons_of_mem _ ?_) i (by rw[YE (h2.2 b hb)];exact h3) (by omega));rw[hbody h];exact List.mem_map.2 ⟨cvL b,List.mem_map.2 ⟨b,hb,rfl⟩,rfl⟩
   ·rintro⟨b,hb,_,h3⟩
    exact .inr ⟨b,hb,h3⟩
  ·intro hr a ha v hv h0;rw[hbd]
   rcases List.mem_cons.1 ha with rfl | ha
   ·have hv':v∈r.qf.qa:=by rw[← YE h2.1];exact hv
    have h7:=(h2.1.2.2 v hv').2
    have e:((v.toNat:Nat):Int)=v:=by omega
    have:=(hr v.toNat (by omega)).1 (.inl (by rw[e];exact hv'))
    rwa [e]at this
   ·rw[hbody h]at ha;obtain⟨y,hy,rfl⟩:=List.mem_map.1 ha;obtain⟨b,hb,rfl⟩:=List.mem_map.1 hy
    have hv':v∈b.qe.qa:=by
     have hv2:v∈(cvA b.qe).qa:=hv
     rwa [YE (h2.2 b hb)]at hv2
    have h7:=((h2.2 b hb).2.2 v hv').2
    have e:((v.toNat:Nat):Int)=v:=by omega
    have:=(hr v.toNat (by omega)).1 (.inr ⟨b,hb,by rw[e];exact hv'⟩)
    rwa [e]at this
 constructor
 ·rintro⟨q1,q2,q3⟩
  have h3:=hb.1 q1;have h4:=(hatoms h3).1 q3;exact⟨h4.1,h3,h4.2,(hsafe h3 h4).1 q2⟩
 ·rintro⟨q1,q2,q3,q4⟩
  exact⟨hb.2 q2,(hsafe q2 ⟨q1,q3⟩).2 q4,(hatoms q2).2 ⟨q1,q3⟩⟩
theorem sizes_eq {r:rf3Rule} (h:okR r):sizesU (cvR r)=sizesR r:=by
 unfold sizesU sizesR atomsU
 have hb:(cvR r).qd=r.qd.map cvL:=by unfold cvR;simp only;rw[List.take_of_length_le (by have:=h.2.1;omega)]
 rw[hb,List.map_cons,List.map_map,List.map_map]
 have e:∀ a:rf2Atom,fitP a.qb a.qa→szU (cvA a)=szA a:=fun a ha=>by unfold szU szA;rw[YE ha];rfl
 have h1:szU (cvR r).qf=szA r.qf:=e _ h.1;rw[h1]
 congr 1
 refine List.map_congr_left fun b hb=>?_
 exact e b.qe (h.2.2.1 b hb)
theorem VU_iff (l:List rf3Rule) (facts:List apiFact):VU ((l.take 12).map cvR) ((facts.take 26).map cvF)↔VR l facts:=by
 have key:l.length≤10→facts.length≤20→(VU (l.map cvR) (facts.map cvF)↔VR l facts):=by
  intro h1 h2
  have hok:(∀ r,r∈l.map cvR→okU r)↔∀ r,r∈l→okR r:=by
   simp only[List.mem_map,forall_exists_index,and_imp,forall_apply_eq_imp_iff₂,okU_iff]
  have hgr:(∀ f,f∈facts.map cvF→groundP f)↔∀ f,f∈facts→groundP f:=by
   simp only[List.mem_map,forall_exists_index,and_imp,forall_apply_eq_imp_iff₂,ground_take]
  unfold VU VR;rw[hok,hgr,List.length_map,List.length_map]
  constructor
  ·rintro⟨_,_,h3,h4,h5⟩
   refine⟨h1,h2,h3,h4,?_⟩
   have e1:(facts.map cvF).map szF=facts.map szF:=by rw[List.map_map];exact List.map_congr_left fun f hf=>by simp[cvF_id (h3 f hf)]
   have e2:(l.map cvR).flatMap sizesU=l.flatMap sizesR:=by
    rw[List.flatMap_map];rw[List.flatMap_def,List.flatMap_def]
    congr 1
    exact List.map_congr_left fun r hr=>sizes_eq (h4 r hr)
   rw[e1,e2]at h5;exact h5
  ·rintro⟨_,_,h3,h4,h5⟩
   refine⟨h1,h2,h3,h4,?_⟩
   have e1:(facts.map cvF).map szF=facts.map szF:=by rw[List.map_map];exact List.map_congr_left fun f hf=>by simp[cvF_id (h3 f hf)]
   have e2:(l.map cvR).flatMap sizesU=l.flatMap sizesR:=by
    rw[List.flatMap_map];rw[List.flatMap_def,List.flatMap_def]
    congr 1
    exact List.map_congr_left fun r hr=>sizes_eq (h4 r hr)
   rw[e1,e2];exact h5
 by_cases h1:l.length≤10
 ·by_cases h2:facts.length≤20
  ·rw[List.take_of_length_le (by omega),List.take_of_length_le (by omega)];exact key h1 h2
  ·constructor
   ·intro h;have:=h.2.1;simp at this;omega
   ·intro h;exact absurd h.2.1 h2
 ·constructor
  ·intro h;have:=h.1;simp at this;omega
  ·intro h;exact absurd h.1 h1
theorem smallU_of {l:List rf3Rule} (hl:okRules l):∀ r,r∈(l.take 12).map cvR→smallU r:=by
 intro r hr;obtain⟨q,hq,rfl⟩:=List.mem_map.1 hr;obtain⟨h1,h2,h3⟩:=hl.2 q (List.mem_of_mem_take hq);refine⟨by simp[cvR];omega,fun a ha=>?_⟩
 rcases List.mem_cons.1 ha with rfl | ha
 ·exact⟨by simp[cvR,cvA];omega,fun y hy=>h1.2.2 y (List.mem_of_mem_take hy)⟩
 ·obtain⟨y,hy,rfl⟩:=List.mem_map.1 ha;obtain⟨b,hb,rfl⟩:=List.mem_map.1 hy;exact⟨by simp[cvL,cvA];omega,fun y hy=>(h3 b (List.mem_of_mem_take hb)).2.2 y (List.mem_of_mem_take hy)⟩
theorem valid_same {fuel:Nat} (hf:4≤fuel) {l:List rf3Rule} {facts:List apiFact} (hl:okRules l):Xw fuel ((l.take 12).map cvR) ((facts.take 26).map cvF)=some (decide (VR l facts)):=by
 rw[pvalid_val hf (by simp;omega) (by simp;omega) (smallU_of hl)]
 congr 1
 rw[decide_eq_decide];exact VU_iff l facts
end Go.AM
