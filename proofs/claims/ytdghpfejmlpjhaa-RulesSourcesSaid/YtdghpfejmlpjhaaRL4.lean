/- s -/
import Derived.Test.YtdghpfejmlpjhaaRL3
set_option maxRecDepth 100000
set_option linter.unusedVariables false
set_option linter.unusedSimpArgs false
namespace Go.AM
open Go.Proofs
open Classical
theorem mgetI (k x:Int) (v:Bool):∀ l:List (Int×Bool),mget keq1 false x (mset keq1 k v l)=if x=k then v else mget keq1 false x l
 | []=>by
  simp only[mset,mget,keq1]
  by_cases h:x=k
  ·subst h;simp
  ·have:(k == x)=false:=by simp;omega
   simp[this,h]
 | p::r=>by
  have ih:=mgetI k x v r;simp only[mset]
  cases hq:keq1 p.1 k with
  | true =>
   have hpk:p.1=k:=by simpa[keq1] using hq
   simp only[cond_true,mget,keq1]
   by_cases h:x=k
   ·subst h;simp[hpk]
   ·have h2:(p.1 == x)=false:=by simp;omega
    rw[h2];simp[h]
  | false =>
   have hpk:¬ p.1=k:=by simpa[keq1] using hq
   simp only[cond_false,mget];rw[ih]
   by_cases h:x=k
   ·subst h;rw[hq];simp
   ·simp[h]
theorem qbo (k:Int) (v:Bool):∀ l:List (Int×Bool),(mset keq1 k v l).length≤l.length+1
 | []=>by simp[mset]
 | p::r=>by
  have:=qbo k v r;unfold mset;cases keq1 p.1 k <;> simp <;> omega
theorem qff (x:ruLit) (K:List (Int×Bool)→Option Bool):∀ (args:List Int) (k:Nat) (m:List (Int×Bool)),(∀ y,y∈args→wfI .i64 y=true)→m.length+args.length≤100000 →
  ∃ m',ji x K args k m=K m'∧m'.length≤m.length+args.length∧∀ y,mget keq1 false y m'=true↔mget keq1 false y m=true∨(x.qr=false∧y∈args)
 | [],k,m,_,_=>⟨m,by rw[ji],by simp,fun y=>by simp⟩
 | a::r,k,m,hw,hl=>by
  have hwa:=hw a (List.mem_cons_self ..)
  have hwr:∀ y,y∈r→wfI .i64 y=true:=fun y hy=>hw y (List.mem_cons_of_mem _ hy)
  rw[List.length_cons]at hl;rw[ji,VP hwa,VP hwa,VP hwa,VP (by simp[Nat.blt];omega),VP (by simp[Nat.blt];omega)];unfold QD
  have key:∀ v:Bool,(v=true↔mget keq1 false a m=true∨x.qr=false)→∃ m',ji x K r (k+1) (mset keq1 a v m)=K m'∧m'.length≤m.length+(a::r).length∧∀ y,mget keq1 false y m'=true↔mget keq1 false y m=true∨(x.qr=false∧y∈a::r):=by
   intro v hv;have h1:=qbo a v m;obtain⟨m',q1,q2,q3⟩:=qff x K r (k+1) (mset keq1 a v m) hwr (by omega);refine⟨m',q1,by simp;omega,fun y=>?_⟩;rw[q3 y,mgetI,List.mem_cons]
   by_cases hy:y=a
   ·subst hy;rw[if_pos rfl,hv]
    constructor
    ·rintro ((h | h) | h)
     ·exact .inl h
     ·exact .inr ⟨h,.inl rfl⟩
     ·exact .inr ⟨h.1,.inl rfl⟩
    ·rintro (h | h)
     ·exact .inl (.inl h)
     ·exact .inl (.inr h.1)
   ·rw[if_neg hy]
    simp[hy]
  cases hm:mget keq1 false a m with
  | true =>
   rw[cond_true];exact key true (by simp[hm])
  | false =>
   rw[cond_false];exact key (!x.qr) (by simp[hm])
theorem qfg (K:List (Int×Bool)→Option Bool):∀ (body:List ruLit) (k:Nat) (m:List (Int×Bool)),(∀ b,b∈body→b.qd.qa.length≤5∧∀ y,y∈b.qd.qa→wfI .i64 y=true)→m.length+5 * body.length≤100000 →
  ∃ m',qN K body k m=K m'∧∀ y,mget keq1 false y m'=true↔mget keq1 false y m=true∨∃ b,b∈body∧b.qr=false∧y∈b.qd.qa
 | [],k,m,_,_=>⟨m,by rw[qN],fun y=>by simp⟩
 | x::r,k,m,hw,hl=>by
  obtain⟨w1,w2⟩:=hw x (List.mem_cons_self ..);rw[List.length_cons]at hl;rw[qN,VP (jk (by omega))];obtain⟨m1,q1,q2,q3⟩:=qff x (jP (qN K r (k+1))) x.qd.qa 0 m w2 (by omega);rw[q1];unfold jP;obtain⟨m2,p1,p2⟩:=qfg K r (k+1) m1 (fun b hb=>hw b (List.mem_cons_of_mem _ hb)) (by omega);refine⟨m2,p1,fun y=>?_⟩;rw[p2 y,q3 y];simp only[List.mem_cons]
  constructor
  ·rintro ((h | h) | ⟨b,hb,h⟩)
   ·exact .inl h
   ·exact .inr ⟨x,.inl rfl,h⟩
   ·exact .inr ⟨b,.inr hb,h⟩
  ·rintro (h | ⟨b,rfl | hb,h⟩)
   ·exact .inl (.inl h)
   ·exact .inl (.inr h)
   ·exact .inr ⟨b,hb,h⟩
theorem qfd (m:List (Int×Bool)) (K:Option Bool):∀ (args:List Int) (k:Nat),(∀ y,y∈args→wfI .i64 y=true)→jv m K args k=if ∀ v,v∈args→0≤v→mget keq1 false v m=true then K else some false
 | [],k,_=>by simp[jv]
 | a::r,k,hw=>by
  rw[jv];unfold QC;rw[qfd m K r (k+1) fun y hy=>hw y (List.mem_cons_of_mem _ hy)];simp only[List.mem_cons,forall_eq_or_imp]
  by_cases h0:a ≥ 0
  ·rw[decide_eq_true h0,cond_true,VP (hw a (List.mem_cons_self ..))]
   cases hm:mget keq1 false a m with
   | true=>simp
   | false =>
    simp only[Bool.not_false,cond_true];rw[if_neg (fun h=>by have:=h.1 h0;cases this)]
  ·rw[decide_eq_false h0,cond_false,cond_false]
   have:(0≤a→mget keq1 false a m=true):=fun h=>absurd h h0
   by_cases h1:∀ v,v∈r→0≤v→mget keq1 false v m=true
   ·rw[if_pos h1,if_pos ⟨this,h1⟩]
   ·rw[if_neg h1,if_neg (fun h=>h1 h.2)]
theorem qfe (m:List (Int×Bool)):∀ (l:List ql) (k:Nat),(∀ a,a∈l→a.qa.length≤5∧∀ y,y∈a.qa→wfI .i64 y=true)→qQ m qP l k=if ∀ a,a∈l→∀ v,v∈a.qa→0≤v→mget keq1 false v m=true then some true else some false
 | [],k,_=>by simp[qQ,qP]
 | a::r,k,hw=>by
  obtain⟨w1,w2⟩:=hw a (List.mem_cons_self ..);rw[qQ,VP (jk (by omega)),qfd _ _ _ _ w2];unfold jQ;rw[qfe m r (k+1) fun b hb=>hw b (List.mem_cons_of_mem _ hb)];simp only[List.mem_cons,forall_eq_or_imp]
  by_cases h1:∀ v,v∈a.qa→0≤v→mget keq1 false v m=true
  ·rw[if_pos h1]
   by_cases h2:∀ a,a∈r→∀ v,v∈a.qa→0≤v→mget keq1 false v m=true
   ·rw[if_pos h2,if_pos ⟨h1,h2⟩]
   ·rw[if_neg h2,if_neg (fun h=>h2 h.2)]
  ·rw[if_neg h1,if_neg (fun h=>h1 h.1)]
theorem qdN (K:List ql→Option (List ql)):∀ (body:List ruLit) (k:Nat) (acc:List ql),acc.length+body.length≤100000→jR K body k acc=K (acc++body.map fun x=>x.qd)
 | [],k,acc,_=>by simp[jR]
 | x::r,k,acc,hl=>by
  rw[jR,VP (QW (by omega) (by simp at hl ⊢;omega)),qdN K r (k+1) _ (by simp at hl ⊢;omega)]
  simp
def atomsU (r:ruRule):List ql:=r.qf::r.qc.map fun x=>x.qd
theorem qbQ {r:ruRule} (h:r.qc.length≤5):Xv r=some (atomsU r):=by
 unfold Xv;rw[VP (jk (by omega)),qdN _ _ _ _ (by simp;omega)];rfl
def safeU (r:ruRule):Prop:=∀ a,a∈atomsU r→∀ v,v∈a.qa→0≤v→∃ b,b∈r.qc∧b.qr=false∧v∈b.qd.qa
def smallU (r:ruRule):Prop:=r.qc.length≤5∧∀ a,a∈atomsU r→a.qa.length≤5∧∀ y,y∈a.qa→wfI .i64 y=true
theorem qfP {r:ruRule} (h:smallU r):YC r=some (decide (safeU r)):=by
 unfold YC;rw[VP (jk (by have:=h.1;omega))];obtain⟨m,q1,q2⟩:=qfg (qS r) r.qc 0 [] (fun b hb=>h.2 b.qd (List.mem_cons_of_mem _ (List.mem_map.2 ⟨b,hb,rfl⟩))) (by have:=h.1;simp;omega);rw[q1];unfold qS;rw[qbQ h.1];simp only[Option.bind_some];rw[VP (jk (by have:=h.1;simp[atomsU];omega)),qfe _ _ _ h.2]
 have e:(∀ a,a∈atomsU r→∀ v,v∈a.qa→0≤v→mget keq1 false v m=true)↔safeU r:=by
  unfold safeU
  constructor
  ·intro h a ha v hv h0;have:=(q2 v).1 (h a ha v hv h0)
   simpa[mget] using this
  ·intro h a ha v hv h0;exact (q2 v).2 (.inr (h a ha v hv h0))
 by_cases hs:safeU r
 ·rw[if_pos (e.2 hs),decide_eq_true hs]
 ·rw[if_neg (fun h=>hs (e.1 h)),decide_eq_false hs]
def szU (a:ql):qj:=⟨a.qb,(a.qa.length:Int)⟩
theorem qbi {fuel:Nat} (hf:4≤fuel) (K:List Int→Option Bool):∀ (l:List ql) (k:Nat) (n:List Int) (S:List qj),Tab n S →
  (((∀ a,a∈l→fitP a.qb a.qa)∧conP (S++l.map szU))∧∃ n',Ja fuel K l k n=K n'∧Tab n' (S++l.map szU))∨(¬ ((∀ a,a∈l→fitP a.qb a.qa)∧conP (S++l.map szU))∧Ja fuel K l k n=some false)
 | [],k,n,S,h=>.inl ⟨⟨fun f hf=>by simp at hf,by simpa using h.con⟩,n,by rw[Ja],by simpa using h⟩
 | x::r,k,n,S,h=>by
  rw[Ja];unfold Xk
  have e:S++(x::r).map szU=S++[szU x]++r.map szU:=by simp
  rcases h.add x.qb (x.qa.length:Int) with ⟨⟨q1,q2⟩,n',q3,q4⟩ | ⟨q1,q2⟩
  ·rw[q3];simp only[Option.bind_some,Bool.not_true,cond_false];obtain⟨⟨r1,r2⟩,r3,r4⟩:=q1;simp only at r1 r2 r3 r4;obtain⟨m,e1,e2,e3⟩:=qfk hf (l:=x.qa) (by omega) (by omega);rw[e1];simp only[Option.bind_some]
   by_cases hm:m < -6
   ·rw[decide_eq_true hm,cond_true,cond_true];exact .inr ⟨fun h2=>by have:=((h2.1 x (List.mem_cons_self ..)).2.2 m e2).1;omega,rfl⟩
   rw[decide_eq_false hm,cond_false];obtain⟨M,g1,g2,g3⟩:=qfn hf (l:=x.qa) (by omega) (by omega);rw[g1];simp only[Option.bind_some]
   by_cases hM:M ≥ 8
   ·rw[decide_eq_true hM,cond_true];exact .inr ⟨fun h2=>by have:=((h2.1 x (List.mem_cons_self ..)).2.2 M g2).2;omega,rfl⟩
   rw[decide_eq_false hM,cond_false];have hx:fitP x.qb x.qa:=⟨⟨r1,r2⟩,⟨by omega,by omega⟩,fun y hy=>⟨by have:=e3 y hy;omega,by have:=g3 y hy;omega⟩⟩
   rcases qbi hf K r (k+1) n' _ q4 with ⟨⟨p1,p2⟩,n2,p3,p4⟩ | ⟨p1,p2⟩
   ·rw[e];refine .inl ⟨⟨fun f hf=>?_,p2⟩,n2,p3,p4⟩
    rcases List.mem_cons.1 hf with rfl | hf
    ·exact hx
    ·exact p1 f hf
   ·rw[e];exact .inr ⟨fun h2=>p1 ⟨fun f hf=>h2.1 f (List.mem_cons_of_mem _ hf),h2.2⟩,p2⟩
  ·rw[q2];simp only[Option.bind_some,Bool.not_false,cond_true];refine .inr ⟨fun h2=>q1 ⟨?_,?_⟩,by first | rfl | trivial⟩
   ·have hx:=h2.1 x (List.mem_cons_self ..);refine⟨hx.1,?_,?_⟩
    ·have:=hx.2.1.1;simp only;omega
    ·have:=hx.2.1.2;simp only;omega
   ·rw[e]at h2;exact Hf h2.2
def okU (r:ruRule):Prop:=r.qc.length≤3∧safeU r∧∀ a,a∈atomsU r→fitP a.qb a.qa
def sizesU (r:ruRule):List qj:=(atomsU r).map szU
theorem qbj {fuel:Nat} (hf:4≤fuel):∀ (l:List ruRule) (k:Nat) (n:List Int) (S:List qj),Tab n S→(∀ r,r∈l→smallU r) →
  je fuel jl l k n=if (∀ r,r∈l→okU r)∧conP (S++l.flatMap sizesU) then some true else some false
 | [],k,n,S,h,_=>by
  rw[je,if_pos ⟨fun r hr=>by simp at hr,by simpa using h.con⟩];rfl
 | x::r,k,n,S,h,hs=>by
  have hsx:=hs x (List.mem_cons_self ..);rw[je,qfP hsx];unfold XN
  by_cases h3:x.qc.length≤3
  ·rw[decide_eq_false (by omega:¬ (x.qc.length:Int) > 3),cond_false];simp only[Option.bind_some]
   by_cases h4:safeU x
   ·rw[decide_eq_true h4];simp only[Bool.not_true,cond_false];rw[qbQ hsx.1];simp only[Option.bind_some];rw[VP (jk (by have:=hsx.1;simp[atomsU];omega))]
    have e:S++(x::r).flatMap sizesU=S++sizesU x++r.flatMap sizesU:=by simp
    rcases qbi hf (jY (je fuel jl r (k+1))) (atomsU x) 0 n S h with ⟨⟨p1,p2⟩,n2,p3,p4⟩ | ⟨p1,p2⟩
    ·rw[p3];unfold jY;rw[qbj hf r (k+1) n2 _ p4 fun q hq=>hs q (List.mem_cons_of_mem _ hq),e];simp only[List.mem_cons,forall_eq_or_imp];have hok:okU x:=⟨h3,h4,p1⟩
     by_cases h5:(∀ r_1,r_1∈r→okU r_1)∧conP (S++(atomsU x).map szU++r.flatMap sizesU)
     ·rw[if_pos h5,if_pos ⟨⟨hok,h5.1⟩,h5.2⟩]
     ·rw[if_neg h5,if_neg (fun h6=>h5 ⟨h6.1.2,h6.2⟩)]
    ·rw[p2,if_neg];intro h6;refine p1 ⟨(h6.1 x (List.mem_cons_self ..)).2.2,?_⟩;rw[e]at h6;exact Hf h6.2
   ·rw[decide_eq_false h4];simp only[Bool.not_false,cond_true];rw[if_neg (fun h6=>h4 (h6.1 x (List.mem_cons_self ..)).2.1)]
  ·rw[decide_eq_true (by omega:(x.qc.length:Int) > 3),cond_true,cond_true,if_neg (fun h6=>h3 (h6.1 x (List.mem_cons_self ..)).1)]
def VU (l:List ruRule) (facts:List apiFact):Prop:=l.length≤10∧facts.length≤20∧(∀ f,f∈facts→groundP f)∧(∀ r,r∈l→okU r)∧conP (facts.map szF++l.flatMap sizesU)
theorem qer {fuel:Nat} (hf:4≤fuel) {l:List ruRule} {facts:List apiFact} (hl:l.length≤1000) (hfl:facts.length≤1000) (hs:∀ r,r∈l→smallU r):XY fuel l facts=some (decide (VU l facts)):=by
 have key:XY fuel l facts=if VU l facts then some true else some false:=by
  unfold XY Yt
  by_cases h1:l.length≤10
  ·rw[decide_eq_false (by omega:¬ (l.length:Int) > 10),cond_false]
   by_cases h2:facts.length≤20
   ·rw[decide_eq_false (by omega:¬ (facts.length:Int) > 20),cond_false,VP (jk (by omega))]
    rcases qbk hf (Qh fuel l) facts 0 _ [] Tab.zero with ⟨⟨p1,p2⟩,n2,p3,p4⟩ | ⟨p1,p2⟩
    ·rw[p3];unfold Qh;rw[VP (jk (by omega)),qbj hf l 0 n2 _ p4 hs,List.nil_append]
     by_cases h5:(∀ r,r∈l→okU r)∧conP (facts.map szF++l.flatMap sizesU)
     ·rw[if_pos h5,if_pos ⟨h1,h2,p1,h5.1,h5.2⟩]
     ·rw[if_neg h5,if_neg (fun h=>h5 ⟨h.2.2.2.1,h.2.2.2.2⟩)]
    ·rw[p2,if_neg (fun h=>p1 ⟨h.2.2.1,by rw[List.nil_append];exact Hf h.2.2.2.2⟩)]
   ·rw[decide_eq_true (by omega:(facts.length:Int) > 20),cond_true,if_neg (fun h=>h2 h.2.1)]
  ·rw[decide_eq_true (by omega:(l.length:Int) > 10),cond_true,cond_true,if_neg (fun h=>h1 h.1)]
 rw[key]
 by_cases h:VU l facts <;> simp[h]
end Go.AM
