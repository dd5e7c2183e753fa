/- s -/
import Derived.Test.YtdghpfejmlpjhaaRL3
set_option maxRecDepth 100000
set_option linter.unusedVariables false
set_option linter.unusedSimpArgs false
namespace Go.AM
open Go.Proofs
open Classical
theorem mgetI (k x:Int) (v:Bool):∀ l:List (Int×Bool),mget keq1 false x (mset keq1 k v l)=if x=k then v else mget keq1 false x l
 | []=>by
  simp only[mset,mget,keq1]
  by_cases h:x=k
  ·subst h;simp
  ·have:(k == x)=false:=by simp;omega
   simp[this,h]
 | p::r=>by
  have ih:=mgetI k x v r;simp only[mset]
  cases hq:keq1 p.1 k with
  | true =>
   have hpk:p.1=k:=by simpa[keq1] using hq
   simp only[cond_true,mget,keq1]
   by_cases h:x=k
   ·subst h;simp[hpk]
   ·have h2:(p.1 == x)=false:=by simp;omega
    rw[h2];simp[h]
  | false =>
   have hpk:¬ p.1=k:=by simpa[keq1] using hq
   simp only[cond_false,mget];rw[ih]
   by_cases h:x=k
   ·subst h;rw[hq];simp
   ·simp[h]
theorem qbv (k:Int) (v:Bool):∀ l:List (Int×Bool),(mset keq1 k v l).length≤l.length+1
 | []=>by simp[mset]
 | p::r=>by
  have:=qbv k v r;unfold mset;cases keq1 p.1 k <;> simp <;> omega
theorem qfx (x:ruLit) (K:List (Int×Bool)→Option Bool):∀ (args:List Int) (k:Nat) (m:List (Int×Bool)),(∀ y,y∈args→wfI .i64 y=true)→m.length+args.length≤100000 →
  ∃ m',qV x K args k m=K m'∧m'.length≤m.length+args.length∧∀ y,mget keq1 false y m'=true↔mget keq1 false y m=true∨(x.qp=false∧y∈args)
 | [],k,m,_,_=>⟨m,by rw[qV],by simp,fun y=>by simp⟩
 | a::r,k,m,hw,hl=>by
  have hwa:=hw a (List.mem_cons_self ..)
  have hwr:∀ y,y∈r→wfI .i64 y=true:=fun y hy=>hw y (List.mem_cons_of_mem _ hy)
  rw[List.length_cons]at hl;rw[qV,VK hwa,VK hwa,VK hwa,VK (by simp[Nat.blt];omega),VK (by simp[Nat.blt];omega)];unfold Ql
  have key:∀ v:Bool,(v=true↔mget keq1 false a m=true∨x.qp=false)→∃ m',qV x K r (k+1) (mset keq1 a v m)=K m'∧m'.length≤m.length+(a::r).length∧∀ y,mget keq1 false y m'=true↔mget keq1 false y m=true∨(x.qp=false∧y∈a::r):=by
   intro v hv;have h1:=qbv a v m;obtain⟨m',q1,q2,q3⟩:=qfx x K r (k+1) (mset keq1 a v m) hwr (by omega);refine⟨m',q1,by simp;omega,fun y=>?_⟩;rw[q3 y,mgetI,List.mem_cons]
   by_cases hy:y=a
   ·subst hy;rw[if_pos rfl,hv]
    constructor
    ·rintro ((h | h) | h)
     ·exact .inl h
     ·exact .inr ⟨h,.inl rfl⟩
     ·exact .inr ⟨h.1,.inl rfl⟩
    ·rintro (h | h)
     ·exact .inl (.inl h)
     ·exact .inl (.inr h.1)
   ·rw[if_neg hy]
    simp[hy]
  cases hm:mget keq1 false a m with
  | true =>
   rw[cond_true];exact key true (by simp[hm])
  | false =>
   rw[cond_false];exact key (!x.qp) (by simp[hm])
theorem qfy (K:List (Int×Bool)→Option Bool):∀ (body:List ruLit) (k:Nat) (m:List (Int×Bool)),(∀ b,b∈body→b.qd.qa.length≤5∧∀ y,y∈b.qd.qa→wfI .i64 y=true)→m.length+5 * body.length≤100000 →
  ∃ m',qA K body k m=K m'∧∀ y,mget keq1 false y m'=true↔mget keq1 false y m=true∨∃ b,b∈body∧b.qp=false∧y∈b.qd.qa
 | [],k,m,_,_=>⟨m,by rw[qA],fun y=>by simp⟩
 | x::r,k,m,hw,hl=>by
  obtain⟨w1,w2⟩:=hw x (List.mem_cons_self ..);rw[List.length_cons]at hl;rw[qA,VK (qM (by omega))];obtain⟨m1,q1,q2,q3⟩:=qfx x (jy (qA K r (k+1))) x.qd.qa 0 m w2 (by omega);rw[q1];unfold jy;obtain⟨m2,p1,p2⟩:=qfy K r (k+1) m1 (fun b hb=>hw b (List.mem_cons_of_mem _ hb)) (by omega);refine⟨m2,p1,fun y=>?_⟩;rw[p2 y,q3 y];simp only[List.mem_cons]
  constructor
  ·rintro ((h | h) | ⟨b,hb,h⟩)
   ·exact .inl h
   ·exact .inr ⟨x,.inl rfl,h⟩
   ·exact .inr ⟨b,.inr hb,h⟩
  ·rintro (h | ⟨b,rfl | hb,h⟩)
   ·exact .inl (.inl h)
   ·exact .inl (.inr h)
   ·exact .inr ⟨b,hb,h⟩
theorem qfv (m:List (Int×Bool)) (K:Option Bool):∀ (args:List Int) (k:Nat),(∀ y,y∈args→wfI .i64 y=true)→jh m K args k=if ∀ v,v∈args→0≤v→mget keq1 false v m=true then K else some false
 | [],k,_=>by simp[jh]
 | a::r,k,hw=>by
  rw[jh];unfold Qk;rw[qfv m K r (k+1) fun y hy=>hw y (List.mem_cons_of_mem _ hy)];simp only[List.mem_cons,forall_eq_or_imp]
  by_cases h0:a ≥ 0
  ·rw[decide_eq_true h0,cond_true,VK (hw a (List.mem_cons_self ..))]
   cases hm:mget keq1 false a m with
   | true=>simp
   | false =>
    simp only[Bool.not_false,cond_true];rw[if_neg (fun h=>by have:=h.1 h0;cases this)]
  ·rw[decide_eq_false h0,cond_false,cond_false]
   have:(0≤a→mget keq1 false a m=true):=fun h=>absurd h h0
   by_cases h1:∀ v,v∈r→0≤v→mget keq1 false v m=true
   ·rw[if_pos h1,if_pos ⟨this,h1⟩]
   ·rw[if_neg h1,if_neg (fun h=>h1 h.2)]
theorem qfw (m:List (Int×Bool)):∀ (l:List ql) (k:Nat),(∀ a,a∈l→a.qa.length≤5∧∀ y,y∈a.qa→wfI .i64 y=true)→qE m qD l k=if ∀ a,a∈l→∀ v,v∈a.qa→0≤v→mget keq1 false v m=true then some true else some false
 | [],k,_=>by simp[qE,qD]
 | a::r,k,hw=>by
  obtain⟨w1,w2⟩:=hw a (List.mem_cons_self ..);rw[qE,VK (qM (by omega)),qfv _ _ _ _ w2];unfold jB;rw[qfw m r (k+1) fun b hb=>hw b (List.mem_cons_of_mem _ hb)];simp only[List.mem_cons,forall_eq_or_imp]
  by_cases h1:∀ v,v∈a.qa→0≤v→mget keq1 false v m=true
  ·rw[if_pos h1]
   by_cases h2:∀ a,a∈r→∀ v,v∈a.qa→0≤v→mget keq1 false v m=true
   ·rw[if_pos h2,if_pos ⟨h1,h2⟩]
   ·rw[if_neg h2,if_neg (fun h=>h2 h.2)]
  ·rw[if_neg h1,if_neg (fun h=>h1 h.1)]
theorem qed (K:List ql→Option (List ql)):∀ (body:List ruLit) (k:Nat) (acc:List ql),acc.length+body.length≤100000→jC K body k acc=K (acc++body.map fun x=>x.qd)
 | [],k,acc,_=>by simp[jC]
 | x::r,k,acc,hl=>by
  rw[jC,VK (Qs (by omega) (by simp at hl ⊢;omega)),qed K r (k+1) _ (by simp at hl ⊢;omega)]
  simp
def atomsU (r:ruRule):List ql:=r.qf::r.qe.map fun x=>x.qd
theorem qcb {r:ruRule} (h:r.qe.length≤5):Xc r=some (atomsU r):=by
 unfold Xc;rw[VK (qM (by omega)),qed _ _ _ _ (by simp;omega)];rfl
def safeU (r:ruRule):Prop:=∀ a,a∈atomsU r→∀ v,v∈a.qa→0≤v→∃ b,b∈r.qe∧b.qp=false∧v∈b.qd.qa
def smallU (r:ruRule):Prop:=r.qe.length≤5∧∀ a,a∈atomsU r→a.qa.length≤5∧∀ y,y∈a.qa→wfI .i64 y=true
theorem qgi {r:ruRule} (h:smallU r):Yn r=some (decide (safeU r)):=by
 unfold Yn;rw[VK (qM (by have:=h.1;omega))];obtain⟨m,q1,q2⟩:=qfy (qJ r) r.qe 0 [] (fun b hb=>h.2 b.qd (List.mem_cons_of_mem _ (List.mem_map.2 ⟨b,hb,rfl⟩))) (by have:=h.1;simp;omega);rw[q1];unfold qJ;rw[qcb h.1];simp only[Option.bind_some];rw[VK (qM (by have:=h.1;simp[atomsU];omega)),qfw _ _ _ h.2]
 have e:(∀ a,a∈atomsU r→∀ v,v∈a.qa→0≤v→mget keq1 false v m=true)↔safeU r:=by
  unfold safeU
  constructor
  ·intro h a ha v hv h0;have:=(q2 v).1 (h a ha v hv h0)
   simpa[mget] using this
  ·intro h a ha v hv h0;exact (q2 v).2 (.inr (h a ha v hv h0))
 by_cases hs:safeU r
 ·rw[if_pos (e.2 hs),decide_eq_true hs]
 ·rw[if_neg (fun h=>hs (e.1 h)),decide_eq_false hs]
def szU (a:ql):qi:=⟨a.qb,(a.qa.length:Int)⟩
theorem qbp {fuel:Nat} (hf:4≤fuel) (K:List Int→Option Bool):∀ (l:List ql) (k:Nat) (n:List Int) (S:List qi),Tab n S →
  (((∀ a,a∈l→fitP a.qb a.qa)∧conP (S++l.map szU))∧∃ n',jJ fuel K l k n=K n'∧Tab n' (S++l.map szU))∨(¬ ((∀ a,a∈l→fitP a.qb a.qa)∧conP (S++l.map szU))∧jJ fuel K l k n=some false)
 | [],k,n,S,h=>.inl ⟨⟨fun f hf=>by simp at hf,by simpa using h.con⟩,n,by rw[jJ],by simpa using h⟩
 | x::r,k,n,S,h=>by
  rw[jJ];unfold QQ
  have e:S++(x::r).map szU=S++[szU x]++r.map szU:=by simp
  rcases h.add x.qb (x.qa.length:Int) with ⟨⟨q1,q2⟩,n',q3,q4⟩ | ⟨q1,q2⟩
  ·rw[q3];simp only[Option.bind_some,Bool.not_true,cond_false];obtain⟨⟨r1,r2⟩,r3,r4⟩:=q1;simp only at r1 r2 r3 r4;obtain⟨m,e1,e2,e3⟩:=qfC hf (l:=x.qa) (by omega) (by omega);rw[e1];simp only[Option.bind_some]
   by_cases hm:m < -6
   ·rw[decide_eq_true hm,cond_true,cond_true];exact .inr ⟨fun h2=>by have:=((h2.1 x (List.mem_cons_self ..)).2.2 m e2).1;omega,rfl⟩
   rw[decide_eq_false hm,cond_false];obtain⟨M,g1,g2,g3⟩:=qfF hf (l:=x.qa) (by omega) (by omega);rw[g1];simp only[Option.bind_some]
   by_cases hM:M ≥ 8
   ·rw[decide_eq_true hM,cond_true];exact .inr ⟨fun h2=>by have:=((h2.1 x (List.mem_cons_self ..)).2.2 M g2).2;omega,rfl⟩
   rw[decide_eq_false hM,cond_false];have hx:fitP x.qb x.qa:=⟨⟨r1,r2⟩,⟨by omega,by omega⟩,fun y hy=>⟨by have:=e3 y hy;omega,by have:=g3 y hy;omega⟩⟩
   rcases qbp hf K r (k+1) n' _ q4 with ⟨⟨p1,p2⟩,n2,p3,p4⟩ | ⟨p1,p2⟩
   ·rw[e];refine .inl ⟨⟨fun f hf=>?_,p2⟩,n2,p3,p4⟩
    rcases List.mem_cons.1 hf with rfl | hf
    ·exact hx
    ·exact p1 f hf
   ·rw[e];exact .inr ⟨fun h2=>p1 ⟨fun f hf=>h2.1 f (List.mem_cons_of_mem _ hf),h2.2⟩,p2⟩
  ·rw[q2];simp only[Option.bind_some,Bool.not_false,cond_true];refine .inr ⟨fun h2=>q1 ⟨?_,?_⟩,by first | rfl | trivial⟩
   ·have hx:=h2.1 x (List.mem_cons_self ..);refine⟨hx.1,?_,?_⟩
    ·have:=hx.2.1.1;simp only;omega
    ·have:=hx.2.1.2;simp only;omega
   ·rw[e]at h2;exact NZ h2.2
def okU (r:ruRule):Prop:=r.qe.length≤3∧safeU r∧∀ a,a∈atomsU r→fitP a.qb a.qa
def sizesU (r:ruRule):List qi:=(atomsU r).map szU
theorem qbq {fuel:Nat} (hf:4≤fuel):∀ (l:List ruRule) (k:Nat) (n:List Int) (S:List qi),Tab n S→(∀ r,r∈l→smallU r) →
  qT fuel qW l k n=if (∀ r,r∈l→okU r)∧conP (S++l.flatMap sizesU) then some true else some false
 | [],k,n,S,h,_=>by
  rw[qT,if_pos ⟨fun r hr=>by simp at hr,by simpa using h.con⟩];rfl
 | x::r,k,n,S,h,hs=>by
  have hsx:=hs x (List.mem_cons_self ..);rw[qT,qgi hsx];unfold XA
  by_cases h3:x.qe.length≤3
  ·rw[decide_eq_false (by omega:¬ (x.qe.length:Int) > 3),cond_false];simp only[Option.bind_some]
   by_cases h4:safeU x
   ·rw[decide_eq_true h4];simp only[Bool.not_true,cond_false];rw[qcb hsx.1];simp only[Option.bind_some];rw[VK (qM (by have:=hsx.1;simp[atomsU];omega))]
    have e:S++(x::r).flatMap sizesU=S++sizesU x++r.flatMap sizesU:=by simp
    rcases qbp hf (jH (qT fuel qW r (k+1))) (atomsU x) 0 n S h with ⟨⟨p1,p2⟩,n2,p3,p4⟩ | ⟨p1,p2⟩
    ·rw[p3];unfold jH;rw[qbq hf r (k+1) n2 _ p4 fun q hq=>hs q (List.mem_cons_of_mem _ hq),e];simp only[List.mem_cons,forall_eq_or_imp];have hok:okU x:=⟨h3,h4,p1⟩
     by_cases h5:(∀ r_1,r_1∈r→okU r_1)∧conP (S++(atomsU x).map szU++r.flatMap sizesU)
     ·rw[if_pos h5,if_pos ⟨⟨hok,h5.1⟩,h5.2⟩]
     ·rw[if_neg h5,if_neg (fun h6=>h5 ⟨h6.1.2,h6.2⟩)]
    ·rw[p2,if_neg];intro h6;refine p1 ⟨(h6.1 x (List.mem_cons_self ..)).2.2,?_⟩;rw[e]at h6;exact NZ h6.2
   ·rw[decide_eq_false h4];simp only[Bool.not_false,cond_true];rw[if_neg (fun h6=>h4 (h6.1 x (List.mem_cons_self ..)).2.1)]
  ·rw[decide_eq_true (by omega:(x.qe.length:Int) > 3),cond_true,cond_true,if_neg (fun h6=>h3 (h6.1 x (List.mem_cons_self ..)).1)]
def VU (l:List ruRule) (facts:List apiFact):Prop:=l.length≤10∧facts.length≤20∧(∀ f,f∈facts→groundP f)∧(∀ r,r∈l→okU r)∧conP (facts.map szF++l.flatMap sizesU)
theorem qeG {fuel:Nat} (hf:4≤fuel) {l:List ruRule} {facts:List apiFact} (hl:l.length≤1000) (hfl:facts.length≤1000) (hs:∀ r,r∈l→smallU r):XL fuel l facts=some (decide (VU l facts)):=by
 have key:XL fuel l facts=if VU l facts then some true else some false:=by
  unfold XL Yd
  by_cases h1:l.length≤10
  ·rw[decide_eq_false (by omega:¬ (l.length:Int) > 10),cond_false]
   by_cases h2:facts.length≤20
   ·rw[decide_eq_false (by omega:¬ (facts.length:Int) > 20),cond_false,VK (qM (by omega))]
    rcases qbr hf (JS fuel l) facts 0 _ [] Tab.zero with ⟨⟨p1,p2⟩,n2,p3,p4⟩ | ⟨p1,p2⟩
    ·rw[p3];unfold JS;rw[VK (qM (by omega)),qbq hf l 0 n2 _ p4 hs,List.nil_append]
     by_cases h5:(∀ r,r∈l→okU r)∧conP (facts.map szF++l.flatMap sizesU)
     ·rw[if_pos h5,if_pos ⟨h1,h2,p1,h5.1,h5.2⟩]
     ·rw[if_neg h5,if_neg (fun h=>h5 ⟨h.2.2.2.1,h.2.2.2.2⟩)]
    ·rw[p2,if_neg (fun h=>p1 ⟨h.2.2.1,by rw[List.nil_append];exact NZ h.2.2.2.2⟩)]
   ·rw[decide_eq_true (by omega:(facts.length:Int) > 20),cond_true,if_neg (fun h=>h2 h.2.1)]
  ·rw[decide_eq_true (by omega:(l.length:Int) > 10),cond_true,cond_true,if_neg (fun h=>h1 h.1)]
 rw[key]
 by_cases h:VU l facts <;> simp[h]
end Go.AM
namespace Go.AM
open Go.Proofs
open Classical
theorem NU {rel:Int} {args:List Int}:fitP rel (args.take 5)↔fitP rel args∧args.take 5=args:=by
 constructor
 ·intro h
  have h1:args.length≤5:=by
   have:=h.2.1.2;rw[List.length_take]at this;omega
  have e:args.take 5=args:=List.take_of_length_le h1;rw[e]at h;exact⟨h,e⟩
 ·rintro⟨h,e⟩
  rw[e];exact h
theorem UG {rel:Int} {args:List Int} (h:fitP rel args):args.take 5=args:=List.take_of_length_le (by have:=h.2.1.2;omega)
theorem qdH {f:apiFact}:groundP (cvF f)↔groundP f:=by
 unfold groundP cvF
 constructor
 ·intro h
  have h1:f.qa.length≤9:=by
   have:=h.2.1.2;simp only[List.length_take]at this;omega
  rw[List.take_of_length_le h1]at h;exact h
 ·intro h;rw[List.take_of_length_le (by have:=h.2.1.2;omega)];exact h
theorem qhK {f:apiFact} (h:groundP f):cvF f=f:=by
 unfold cvF;rw[List.take_of_length_le (by have:=h.2.1.2;omega)]
theorem Zv {a:rf2Atom} (h:fitP a.qb a.qa):(cvA a).qa=a.qa:=UG h
theorem qfB (r:rf3Rule):okU (cvR r)↔okR r:=by
 have hb:((cvR r).qe.length≤3↔r.qe.length≤3):=by simp[cvR];omega
 have hbody:r.qe.length≤3→(cvR r).qe=r.qe.map cvL:=fun h=>by unfold cvR;simp only;rw[List.take_of_length_le (by omega)]
 have hatoms:r.qe.length≤3→((∀ a,a∈atomsU (cvR r)→fitP a.qb a.qa)↔(fitP r.qf.qb r.qf.qa∧∀ b,b∈r.qe→fitP b.qd.qb b.qd.qa)):=fun h=>by
  unfold atomsU;rw[hbody h]
  constructor
  ·intro h2;refine⟨(NU.1 (h2 _ (List.mem_cons_self ..))).1,fun b hb=>?_⟩;exact (NU.1 (h2 (cvA b.qd) (List.mem_cons_of_mem _ (List.mem_map.2 ⟨cvL b,List.mem_map.2 ⟨b,hb,rfl⟩,rfl⟩)))).1
  ·rintro⟨h2,h3⟩ a ha
   rcases List.mem_cons.1 ha with rfl | ha
   ·exact NU.2 ⟨h2,UG h2⟩
   ·obtain⟨y,hy,rfl⟩:=List.mem_map.1 ha;obtain⟨b,hb,rfl⟩:=List.mem_map.1 hy;exact NU.2 ⟨h3 b hb,UG (h3 b hb)⟩
 have hsafe:r.qe.length≤3→(fitP r.qf.qb r.qf.qa∧∀ b,b∈r.qe→fitP b.qd.qb b.qd.qa)→(safeU (cvR r)↔safeR r):=fun h h2=>by
  have hbd:∀ v:Int,(∃ b,b∈(cvR r).qe∧b.qp=false∧v∈b.qd.qa)↔∃ b,b∈r.qe∧b.qp=false∧v∈b.qd.qa:=fun v=>by
   rw[hbody h]
   constructor
   ·rintro⟨y,hy,q1,q2⟩
    obtain⟨b,hb,rfl⟩:=List.mem_map.1 hy;have q2':v∈(cvA b.qd).qa:=q2;rw[Zv (h2.2 b hb)]at q2';exact⟨b,hb,q1,q2'⟩
   ·rintro⟨b,hb,q1,q2⟩
    refine⟨cvL b,List.mem_map.2 ⟨b,hb,rfl⟩,q1,?_⟩;show v∈(cvA b.qd).qa;rw[Zv (h2.2 b hb)];exact q2
  unfold safeU safeR
  constructor
  ·intro hu i hi
   constructor
   ·rintro (h3 | ⟨b,hb,h3⟩)
    ·exact (hbd i).1 (hu (cvA r.qf) (List.mem_cons_self ..) i (by rw[Zv h2.1];exact h3) (by omega))
    ·refine (hbd i).1 (hu (cvA b.qd) (List.mem_cons_of_mem _ ?_) i (by rw[Zv (h2.2 b hb)];exact h3) (by omega));rw[hbody h];exact List.mem_map.2 ⟨cvL b,List.mem_map.2 ⟨b,hb,rfl⟩,rfl⟩
   ·rintro⟨b,hb,_,h3⟩
    exact .inr ⟨b,hb,h3⟩
  ·intro hr a ha v hv h0;rw[hbd]
   rcases List.mem_cons.1 ha with rfl | ha
   ·have hv':v∈r.qf.qa:=by rw[← Zv h2.1];exact hv
    have h7:=(h2.1.2.2 v hv').2
    have e:((v.toNat:Nat):Int)=v:=by omega
    have:=(hr v.toNat (by omega)).1 (.inl (by rw[e];exact hv'))
    rwa [e]at this
   ·rw[hbody h]at ha;obtain⟨y,hy,rfl⟩:=List.mem_map.1 ha;obtain⟨b,hb,rfl⟩:=List.mem_map.1 hy
    have hv':v∈b.qd.qa:=by
     have hv2:v∈(cvA b.qd).qa:=hv
     rwa [Zv (h2.2 b hb)]at hv2
    have h7:=((h2.2 b hb).2.2 v hv').2
    have e:((v.toNat:Nat):Int)=v:=by omega
    have:=(hr v.toNat (by omega)).1 (.inr ⟨b,hb,by rw[e];exact hv'⟩)
    rwa [e]at this
 constructor
 ·rintro⟨q1,q2,q3⟩
  have h3:=hb.1 q1;have h4:=(hatoms h3).1 q3;exact⟨h4.1,h3,h4.2,(hsafe h3 h4).1 q2⟩
 ·rintro⟨q1,q2,q3,q4⟩
  exact⟨hb.2 q2,(hsafe q2 ⟨q1,q3⟩).2 q4,(hatoms q2).2 ⟨q1,q3⟩⟩
theorem qdh {r:rf3Rule} (h:okR r):sizesU (cvR r)=sizesR r:=by
 unfold sizesU sizesR atomsU
 have hb:(cvR r).qe=r.qe.map cvL:=by unfold cvR;simp only;rw[List.take_of_length_le (by have:=h.2.1;omega)]
 rw[hb,List.map_cons,List.map_map,List.map_map]
 have e:∀ a:rf2Atom,fitP a.qb a.qa→szU (cvA a)=szA a:=fun a ha=>by unfold szU szA;rw[Zv ha];rfl
 have h1:szU (cvR r).qf=szA r.qf:=e _ h.1;rw[h1]
 congr 1
 refine List.map_congr_left fun b hb=>?_
 exact e b.qd (h.2.2.1 b hb)
theorem qiC (l:List rf3Rule) (facts:List apiFact):VU ((l.take 12).map cvR) ((facts.take 26).map cvF)↔VR l facts:=by
 have key:l.length≤10→facts.length≤20→(VU (l.map cvR) (facts.map cvF)↔VR l facts):=by
  intro h1 h2
  have hok:(∀ r,r∈l.map cvR→okU r)↔∀ r,r∈l→okR r:=by
   simp only[List.mem_map,forall_exists_index,and_imp,forall_apply_eq_imp_iff₂,qfB]
  have hgr:(∀ f,f∈facts.map cvF→groundP f)↔∀ f,f∈facts→groundP f:=by
   simp only[List.mem_map,forall_exists_index,and_imp,forall_apply_eq_imp_iff₂,qdH]
  unfold VU VR;rw[hok,hgr,List.length_map,List.length_map]
  constructor
  ·rintro⟨_,_,h3,h4,h5⟩
   refine⟨h1,h2,h3,h4,?_⟩
   have e1:(facts.map cvF).map szF=facts.map szF:=by rw[List.map_map];exact List.map_congr_left fun f hf=>by simp[qhK (h3 f hf)]
   have e2:(l.map cvR).flatMap sizesU=l.flatMap sizesR:=by
    rw[List.flatMap_map];rw[List.flatMap_def,List.flatMap_def]
    congr 1
    exact List.map_congr_left fun r hr=>qdh (h4 r hr)
   rw[e1,e2]at h5;exact h5
  ·rintro⟨_,_,h3,h4,h5⟩
   refine⟨h1,h2,h3,h4,?_⟩
   have e1:(facts.map cvF).map szF=facts.map szF:=by rw[List.map_map];exact List.map_congr_left fun f hf=>by simp[qhK (h3 f hf)]
   have e2:(l.map cvR).flatMap sizesU=l.flatMap sizesR:=by
    rw[List.flatMap_map];rw[List.flatMap_def,List.flatMap_def]
    congr 1
    exact List.map_congr_left fun r hr=>qdh (h4 r hr)
   rw[e1,e2];exact h5
 by_cases h1:l.length≤10
 ·by_cases h2:facts.length≤20
  ·rw[List.take_of_length_le (by omega),List.take_of_length_le (by omega)];exact key h1 h2
  ·constructor
   ·intro h;have:=h.2.1;simp at this;omega
   ·intro h;exact absurd h.2.1 h2
 ·constructor
  ·intro h;have:=h.1;simp at this;omega
  ·intro h;exact absurd h.1 h1
theorem qfX {l:List rf3Rule} (hl:okRules l):∀ r,r∈(l.take 12).map cvR→smallU r:=by
 intro r hr;obtain⟨q,hq,rfl⟩:=List.mem_map.1 hr;obtain⟨h1,h2,h3⟩:=hl.2 q (List.mem_of_mem_take hq);refine⟨by simp[cvR];omega,fun a ha=>?_⟩
 rcases List.mem_cons.1 ha with rfl | ha
 ·exact⟨by simp[cvR,cvA];omega,fun y hy=>h1.2.2 y (List.mem_of_mem_take hy)⟩
 ·obtain⟨y,hy,rfl⟩:=List.mem_map.1 ha;obtain⟨b,hb,rfl⟩:=List.mem_map.1 hy;exact⟨by simp[cvL,cvA];omega,fun y hy=>(h3 b (List.mem_of_mem_take hb)).2.2 y (List.mem_of_mem_take hy)⟩
theorem DJ {fuel:Nat} (hf:4≤fuel) {l:List rf3Rule} {facts:List apiFact} (hl:okRules l):XL fuel ((l.take 12).map cvR) ((facts.take 26).map cvF)=some (decide (VR l facts)):=by
 rw[qeG hf (by simp;omega) (by simp;omega) (qfX hl)]
 congr 1
 rw[decide_eq_decide];exact qiC l facts
end Go.AM
namespace Go.AM
open Go.Proofs
open Classical
structure Edge where
 h:Nat
 b:Nat
 d:Int
def Edge.ok (e:Edge):Prop:=e.h<6∧e.b<6∧0≤e.d∧e.d≤1
def stepE (v:List Int) (e:Edge):List Int:=v.set e.h (if v.getD e.b 0+e.d > v.getD e.h 0 then v.getD e.b 0+e.d else v.getD e.h 0)
def rndE (E:List Edge) (v:List Int):List Int:=E.foldl stepE v
theorem YY (v:List Int) (e:Edge):(stepE v e).length=v.length:=by simp[stepE]
theorem DZ (E:List Edge):∀ v,(rndE E v).length=v.length:=by
 induction E with
 | nil=>intro v;rfl
 | cons e E ih=>intro v;rw[show rndE (e::E) v=rndE E (stepE v e) from rfl,ih,YY]
theorem Hj {v:List Int} (hv:v.length=6) {e:Edge} (he:e.ok) (i:Nat):(stepE v e).getD i 0=if i=e.h then (if v.getD e.b 0+e.d > v.getD e.h 0 then v.getD e.b 0+e.d else v.getD e.h 0) else v.getD i 0:=by
 unfold stepE;simp only[List.getD_eq_getElem?_getD]
 by_cases hi:i=e.h
 ·subst hi;rw[List.getElem?_set_self (by rw[hv];exact he.1),if_pos rfl];rfl
 ·rw[List.getElem?_set_ne (fun h=>hi h.symm),if_neg hi]
theorem qbz {v w:List Int} (hv:v.length=6) (hw:w.length=6) (h:∀ i,i<6→v.getD i 0=w.getD i 0):v=w:=by
 refine List.ext_getElem (by rw[hv,hw]) fun i h1 h2=>?_
 have:=h i (by omega);rw[List.getD_eq_getElem?_getD,List.getD_eq_getElem?_getD,List.getElem?_eq_getElem h1,List.getElem?_eq_getElem h2]at this;exact this
theorem qdf {v:List Int} (hv:v.length=6) {e:Edge} (he:e.ok) (i:Nat):v.getD i 0≤(stepE v e).getD i 0:=by
 rw[Hj hv he]
 split
 ·rename_i h;subst h;split <;> omega
 ·omega
theorem qcx {E:List Edge} (hE:∀ e,e∈E→e.ok):∀ {v:List Int},v.length=6→∀ i,v.getD i 0≤(rndE E v).getD i 0:=by
 induction E with
 | nil=>intro v hv i;exact Int.le_refl _
 | cons e E ih =>
  intro v hv i;have h1:=qdf hv (hE e (List.mem_cons_self ..)) i;have h2:=ih (fun f hf=>hE f (List.mem_cons_of_mem _ hf)) (v:=stepE v e) (by rw[YY,hv]) i;exact Int.le_trans h1 h2
theorem qaa {E:List Edge} (hE:∀ e,e∈E→e.ok):∀ {v:List Int} {B:Int},v.length=6→0≤B→(∀ i,0≤v.getD i 0∧v.getD i 0≤B)→∀ i,0≤(rndE E v).getD i 0∧(rndE E v).getD i 0≤B+E.length:=by
 induction E with
 | nil=>intro v B hv hB h i;simpa[rndE] using h i
 | cons e E ih =>
  intro v B hv hB h i;have he:=hE e (List.mem_cons_self ..)
  have h1:∀ i,0≤(stepE v e).getD i 0∧(stepE v e).getD i 0≤B+1:=fun i=>by
   rw[Hj hv he];have a:=h e.b;have b:=h e.h;have c:=h i;have:=he.2.2
   split
   ·split <;> omega
   ·omega
  have:=ih (fun f hf=>hE f (List.mem_cons_of_mem _ hf)) (v:=stepE v e) (by rw[YY,hv]) (by omega) h1 i;rw[List.length_cons];show 0≤(rndE E (stepE v e)).getD i 0∧(rndE E (stepE v e)).getD i 0≤_;omega
theorem pig:∀ (n:Nat) (l:List Nat),l.Nodup→(∀ x,x∈l→x<n)→l.length≤n
 | 0,l,_,h=>by
  cases l with
  | nil=>simp
  | cons a l=>exact absurd (h a (List.mem_cons_self ..)) (by omega)
 | n+1,l,hn,h=>by
  have:=pig n (l.erase n) (hn.erase n) (fun x hx=>by
   have h1:=(hn.mem_erase_iff).1 hx;have h2:=h x h1.2;have:=h1.1
   omega)
  rw[List.length_erase]at this
  split at this <;> omega
end Go.AM
