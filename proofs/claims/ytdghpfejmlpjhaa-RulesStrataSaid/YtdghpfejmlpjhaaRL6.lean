/- s -/
import Derived.Test.YtdghpfejmlpjhaaRL3
set_option maxRecDepth 100000
set_option linter.unusedVariables false
set_option linter.unusedSimpArgs false
namespace Go.AM
open Go.Proofs
open Classical
theorem mgetI (k x:Int) (v:Bool):∀ l:List (Int×Bool),mget keq1 false x (mset keq1 k v l)=if x=k then v else mget keq1 false x l
 | []=>by
  simp only[mset,mget,keq1]
  by_cases h:x=k
  ·subst h;simp
  ·have:(k == x)=false:=by simp;omega
   simp[this,h]
 | p::r=>by
  have ih:=mgetI k x v r;simp only[mset]
  cases hq:keq1 p.1 k with
  | true =>
   have hpk:p.1=k:=by simpa[keq1] using hq
   simp only[cond_true,mget,keq1]
   by_cases h:x=k
   ·subst h;simp[hpk]
   ·have h2:(p.1 == x)=false:=by simp;omega
    rw[h2];simp[h]
  | false =>
   have hpk:¬ p.1=k:=by simpa[keq1] using hq
   simp only[cond_false,mget];rw[ih]
   by_cases h:x=k
   ·subst h;rw[hq];simp
   ·simp[h]
theorem qaq (k:Int) (v:Bool):∀ l:List (Int×Bool),(mset keq1 k v l).length≤l.length+1
 | []=>by simp[mset]
 | p::r=>by
  have:=qaq k v r;unfold mset;cases keq1 p.1 k <;> simp <;> omega
theorem qeb (x:ruLit) (K:List (Int×Bool)→Option Bool):∀ (args:List Int) (k:Nat) (m:List (Int×Bool)),(∀ y,y∈args→wfI .i64 y=true)→m.length+args.length≤100000 →
  ∃ m',je x K args k m=K m'∧m'.length≤m.length+args.length∧∀ y,mget keq1 false y m'=true↔mget keq1 false y m=true∨(x.qi=false∧y∈args)
 | [],k,m,_,_=>⟨m,by rw[je],by simp,fun y=>by simp⟩
 | a::r,k,m,hw,hl=>by
  have hwa:=hw a (List.mem_cons_self ..)
  have hwr:∀ y,y∈r→wfI .i64 y=true:=fun y hy=>hw y (List.mem_cons_of_mem _ hy)
  rw[List.length_cons]at hl;rw[je,Vj hwa,Vj hwa,Vj hwa,Vj (by simp[Nat.blt];omega),Vj (by simp[Nat.blt];omega)];unfold Qp
  have key:∀ v:Bool,(v=true↔mget keq1 false a m=true∨x.qi=false)→∃ m',je x K r (k+1) (mset keq1 a v m)=K m'∧m'.length≤m.length+(a::r).length∧∀ y,mget keq1 false y m'=true↔mget keq1 false y m=true∨(x.qi=false∧y∈a::r):=by
   intro v hv;have h1:=qaq a v m;obtain⟨m',q1,q2,q3⟩:=qeb x K r (k+1) (mset keq1 a v m) hwr (by omega);refine⟨m',q1,by simp;omega,fun y=>?_⟩;rw[q3 y,mgetI,List.mem_cons]
   by_cases hy:y=a
   ·subst hy;rw[if_pos rfl,hv]
    constructor
    ·rintro ((h | h) | h)
     ·exact .inl h
     ·exact .inr ⟨h,.inl rfl⟩
     ·exact .inr ⟨h.1,.inl rfl⟩
    ·rintro (h | h)
     ·exact .inl (.inl h)
     ·exact .inl (.inr h.1)
   ·rw[if_neg hy]
    simp[hy]
  cases hm:mget keq1 false a m with
  | true =>
   rw[cond_true];exact key true (by simp[hm])
  | false =>
   rw[cond_false];exact key (!x.qi) (by simp[hm])
theorem qec (K:List (Int×Bool)→Option Bool):∀ (body:List ruLit) (k:Nat) (m:List (Int×Bool)),(∀ b,b∈body→b.qc.qa.length≤5∧∀ y,y∈b.qc.qa→wfI .i64 y=true)→m.length+5 * body.length≤100000 →
  ∃ m',qy K body k m=K m'∧∀ y,mget keq1 false y m'=true↔mget keq1 false y m=true∨∃ b,b∈body∧b.qi=false∧y∈b.qc.qa
 | [],k,m,_,_=>⟨m,by rw[qy],fun y=>by simp⟩
 | x::r,k,m,hw,hl=>by
  obtain⟨w1,w2⟩:=hw x (List.mem_cons_self ..);rw[List.length_cons]at hl;rw[qy,Vj (jh (by omega))];obtain⟨m1,q1,q2,q3⟩:=qeb x (jI (qy K r (k+1))) x.qc.qa 0 m w2 (by omega);rw[q1];unfold jI;obtain⟨m2,p1,p2⟩:=qec K r (k+1) m1 (fun b hb=>hw b (List.mem_cons_of_mem _ hb)) (by omega);refine⟨m2,p1,fun y=>?_⟩;rw[p2 y,q3 y];simp only[List.mem_cons]
  constructor
  ·rintro ((h | h) | ⟨b,hb,h⟩)
   ·exact .inl h
   ·exact .inr ⟨x,.inl rfl,h⟩
   ·exact .inr ⟨b,.inr hb,h⟩
  ·rintro (h | ⟨b,rfl | hb,h⟩)
   ·exact .inl (.inl h)
   ·exact .inl (.inr h)
   ·exact .inr ⟨b,hb,h⟩
theorem qdZ (m:List (Int×Bool)) (K:Option Bool):∀ (args:List Int) (k:Nat),(∀ y,y∈args→wfI .i64 y=true)→jr m K args k=if ∀ v,v∈args→0≤v→mget keq1 false v m=true then K else some false
 | [],k,_=>by simp[jr]
 | a::r,k,hw=>by
  rw[jr];unfold Qo;rw[qdZ m K r (k+1) fun y hy=>hw y (List.mem_cons_of_mem _ hy)];simp only[List.mem_cons,forall_eq_or_imp]
  by_cases h0:a ≥ 0
  ·rw[decide_eq_true h0,cond_true,Vj (hw a (List.mem_cons_self ..))]
   cases hm:mget keq1 false a m with
   | true=>simp
   | false =>
    simp only[Bool.not_false,cond_true];rw[if_neg (fun h=>by have:=h.1 h0;cases this)]
  ·rw[decide_eq_false h0,cond_false,cond_false]
   have:(0≤a→mget keq1 false a m=true):=fun h=>absurd h h0
   by_cases h1:∀ v,v∈r→0≤v→mget keq1 false v m=true
   ·rw[if_pos h1,if_pos ⟨this,h1⟩]
   ·rw[if_neg h1,if_neg (fun h=>h1 h.2)]
theorem qea (m:List (Int×Bool)):∀ (l:List qj) (k:Nat),(∀ a,a∈l→a.qa.length≤5∧∀ y,y∈a.qa→wfI .i64 y=true)→qG m qE l k=if ∀ a,a∈l→∀ v,v∈a.qa→0≤v→mget keq1 false v m=true then some true else some false
 | [],k,_=>by simp[qG,qE]
 | a::r,k,hw=>by
  obtain⟨w1,w2⟩:=hw a (List.mem_cons_self ..);rw[qG,Vj (jh (by omega)),qdZ _ _ _ _ w2];unfold jM;rw[qea m r (k+1) fun b hb=>hw b (List.mem_cons_of_mem _ hb)];simp only[List.mem_cons,forall_eq_or_imp]
  by_cases h1:∀ v,v∈a.qa→0≤v→mget keq1 false v m=true
  ·rw[if_pos h1]
   by_cases h2:∀ a,a∈r→∀ v,v∈a.qa→0≤v→mget keq1 false v m=true
   ·rw[if_pos h2,if_pos ⟨h1,h2⟩]
   ·rw[if_neg h2,if_neg (fun h=>h2 h.2)]
  ·rw[if_neg h1,if_neg (fun h=>h1 h.1)]
theorem qcO (K:List qj→Option (List qj)):∀ (body:List ruLit) (k:Nat) (acc:List qj),acc.length+body.length≤100000→jP K body k acc=K (acc++body.map fun x=>x.qc)
 | [],k,acc,_=>by simp[jP]
 | x::r,k,acc,hl=>by
  rw[jP,Vj (Xb (by omega) (by simp at hl ⊢;omega)),qcO K r (k+1) _ (by simp at hl ⊢;omega)]
  simp
def atomsU (r:ruRule):List qj:=r.qd::r.qe.map fun x=>x.qc
theorem qaT {r:ruRule} (h:r.qe.length≤5):Xe r=some (atomsU r):=by
 unfold Xe;rw[Vj (jh (by omega)),qcO _ _ _ _ (by simp;omega)];rfl
def safeU (r:ruRule):Prop:=∀ a,a∈atomsU r→∀ v,v∈a.qa→0≤v→∃ b,b∈r.qe∧b.qi=false∧v∈b.qc.qa
def smallU (r:ruRule):Prop:=r.qe.length≤5∧∀ a,a∈atomsU r→a.qa.length≤5∧∀ y,y∈a.qa→wfI .i64 y=true
theorem qeL {r:ruRule} (h:smallU r):Yk r=some (decide (safeU r)):=by
 unfold Yk;rw[Vj (jh (by have:=h.1;omega))];obtain⟨m,q1,q2⟩:=qec (qM r) r.qe 0 [] (fun b hb=>h.2 b.qc (List.mem_cons_of_mem _ (List.mem_map.2 ⟨b,hb,rfl⟩))) (by have:=h.1;simp;omega);rw[q1];unfold qM;rw[qaT h.1];simp only[Option.bind_some];rw[Vj (jh (by have:=h.1;simp[atomsU];omega)),qea _ _ _ h.2]
 have e:(∀ a,a∈atomsU r→∀ v,v∈a.qa→0≤v→mget keq1 false v m=true)↔safeU r:=by
  unfold safeU
  constructor
  ·intro h a ha v hv h0;have:=(q2 v).1 (h a ha v hv h0)
   simpa[mget] using this
  ·intro h a ha v hv h0;exact (q2 v).2 (.inr (h a ha v hv h0))
 by_cases hs:safeU r
 ·rw[if_pos (e.2 hs),decide_eq_true hs]
 ·rw[if_neg (fun h=>hs (e.1 h)),decide_eq_false hs]
def szU (a:qj):ql:=⟨a.qb,(a.qa.length:Int)⟩
theorem qak {fuel:Nat} (hf:4≤fuel) (K:List Int→Option Bool):∀ (l:List qj) (k:Nat) (n:List Int) (S:List ql),Tab n S →
  (((∀ a,a∈l→fitP a.qb a.qa)∧conP (S++l.map szU))∧∃ n',jX fuel K l k n=K n'∧Tab n' (S++l.map szU))∨(¬ ((∀ a,a∈l→fitP a.qb a.qa)∧conP (S++l.map szU))∧jX fuel K l k n=some false)
 | [],k,n,S,h=>.inl ⟨⟨fun f hf=>by simp at hf,by simpa using h.con⟩,n,by rw[jX],by simpa using h⟩
 | x::r,k,n,S,h=>by
  rw[jX];unfold QS
  have e:S++(x::r).map szU=S++[szU x]++r.map szU:=by simp
  rcases h.add x.qb (x.qa.length:Int) with ⟨⟨q1,q2⟩,n',q3,q4⟩ | ⟨q1,q2⟩
  ·rw[q3];simp only[Option.bind_some,Bool.not_true,cond_false];obtain⟨⟨r1,r2⟩,r3,r4⟩:=q1;simp only at r1 r2 r3 r4;obtain⟨m,e1,e2,e3⟩:=qei hf (l:=x.qa) (by omega) (by omega);rw[e1];simp only[Option.bind_some]
   by_cases hm:m < -6
   ·rw[decide_eq_true hm,cond_true,cond_true];exact .inr ⟨fun h2=>by have:=((h2.1 x (List.mem_cons_self ..)).2.2 m e2).1;omega,rfl⟩
   rw[decide_eq_false hm,cond_false];obtain⟨M,g1,g2,g3⟩:=qel hf (l:=x.qa) (by omega) (by omega);rw[g1];simp only[Option.bind_some]
   by_cases hM:M ≥ 8
   ·rw[decide_eq_true hM,cond_true];exact .inr ⟨fun h2=>by have:=((h2.1 x (List.mem_cons_self ..)).2.2 M g2).2;omega,rfl⟩
   rw[decide_eq_false hM,cond_false];have hx:fitP x.qb x.qa:=⟨⟨r1,r2⟩,⟨by omega,by omega⟩,fun y hy=>⟨by have:=e3 y hy;omega,by have:=g3 y hy;omega⟩⟩
   rcases qak hf K r (k+1) n' _ q4 with ⟨⟨p1,p2⟩,n2,p3,p4⟩ | ⟨p1,p2⟩
   ·rw[e];refine .inl ⟨⟨fun f hf=>?_,p2⟩,n2,p3,p4⟩
    rcases List.mem_cons.1 hf with rfl | hf
    ·exact hx
    ·exact p1 f hf
   ·rw[e];exact .inr ⟨fun h2=>p1 ⟨fun f hf=>h2.1 f (List.mem_cons_of_mem _ hf),h2.2⟩,p2⟩
  ·rw[q2];simp only[Option.bind_some,Bool.not_false,cond_true];refine .inr ⟨fun h2=>q1 ⟨?_,?_⟩,by first | rfl | trivial⟩
   ·have hx:=h2.1 x (List.mem_cons_self ..);refine⟨hx.1,?_,?_⟩
    ·have:=hx.2.1.1;simp only;omega
    ·have:=hx.2.1.2;simp only;omega
   ·rw[e]at h2;exact Ni h2.2
def okU (r:ruRule):Prop:=r.qe.length≤3∧safeU r∧∀ a,a∈atomsU r→fitP a.qb a.qa
def sizesU (r:ruRule):List ql:=(atomsU r).map szU
theorem qal {fuel:Nat} (hf:4≤fuel):∀ (l:List ruRule) (k:Nat) (n:List Int) (S:List ql),Tab n S→(∀ r,r∈l→smallU r) →
  ja fuel ji l k n=if (∀ r,r∈l→okU r)∧conP (S++l.flatMap sizesU) then some true else some false
 | [],k,n,S,h,_=>by
  rw[ja,if_pos ⟨fun r hr=>by simp at hr,by simpa using h.con⟩];rfl
 | x::r,k,n,S,h,hs=>by
  have hsx:=hs x (List.mem_cons_self ..);rw[ja,qeL hsx];unfold Xx
  by_cases h3:x.qe.length≤3
  ·rw[decide_eq_false (by omega:¬ (x.qe.length:Int) > 3),cond_false];simp only[Option.bind_some]
   by_cases h4:safeU x
   ·rw[decide_eq_true h4];simp only[Bool.not_true,cond_false];rw[qaT hsx.1];simp only[Option.bind_some];rw[Vj (jh (by have:=hsx.1;simp[atomsU];omega))]
    have e:S++(x::r).flatMap sizesU=S++sizesU x++r.flatMap sizesU:=by simp
    rcases qak hf (jU (ja fuel ji r (k+1))) (atomsU x) 0 n S h with ⟨⟨p1,p2⟩,n2,p3,p4⟩ | ⟨p1,p2⟩
    ·rw[p3];unfold jU;rw[qal hf r (k+1) n2 _ p4 fun q hq=>hs q (List.mem_cons_of_mem _ hq),e];simp only[List.mem_cons,forall_eq_or_imp];have hok:okU x:=⟨h3,h4,p1⟩
     by_cases h5:(∀ r_1,r_1∈r→okU r_1)∧conP (S++(atomsU x).map szU++r.flatMap sizesU)
     ·rw[if_pos h5,if_pos ⟨⟨hok,h5.1⟩,h5.2⟩]
     ·rw[if_neg h5,if_neg (fun h6=>h5 ⟨h6.1.2,h6.2⟩)]
    ·rw[p2,if_neg];intro h6;refine p1 ⟨(h6.1 x (List.mem_cons_self ..)).2.2,?_⟩;rw[e]at h6;exact Ni h6.2
   ·rw[decide_eq_false h4];simp only[Bool.not_false,cond_true];rw[if_neg (fun h6=>h4 (h6.1 x (List.mem_cons_self ..)).2.1)]
  ·rw[decide_eq_true (by omega:(x.qe.length:Int) > 3),cond_true,cond_true,if_neg (fun h6=>h3 (h6.1 x (List.mem_cons_self ..)).1)]
def VU (l:List ruRule) (facts:List apiFact):Prop:=l.length≤10∧facts.length≤20∧(∀ f,f∈facts→groundP f)∧(∀ r,r∈l→okU r)∧conP (facts.map szF++l.flatMap sizesU)
theorem qdo {fuel:Nat} (hf:4≤fuel) {l:List ruRule} {facts:List apiFact} (hl:l.length≤1000) (hfl:facts.length≤1000) (hs:∀ r,r∈l→smallU r):XJ fuel l facts=some (decide (VU l facts)):=by
 have key:XJ fuel l facts=if VU l facts then some true else some false:=by
  unfold XJ Yc
  by_cases h1:l.length≤10
  ·rw[decide_eq_false (by omega:¬ (l.length:Int) > 10),cond_false]
   by_cases h2:facts.length≤20
   ·rw[decide_eq_false (by omega:¬ (facts.length:Int) > 20),cond_false,Vj (jh (by omega))]
    rcases qam hf (JU fuel l) facts 0 _ [] Tab.zero with ⟨⟨p1,p2⟩,n2,p3,p4⟩ | ⟨p1,p2⟩
    ·rw[p3];unfold JU;rw[Vj (jh (by omega)),qal hf l 0 n2 _ p4 hs,List.nil_append]
     by_cases h5:(∀ r,r∈l→okU r)∧conP (facts.map szF++l.flatMap sizesU)
     ·rw[if_pos h5,if_pos ⟨h1,h2,p1,h5.1,h5.2⟩]
     ·rw[if_neg h5,if_neg (fun h=>h5 ⟨h.2.2.2.1,h.2.2.2.2⟩)]
    ·rw[p2,if_neg (fun h=>p1 ⟨h.2.2.1,by rw[List.nil_append];exact Ni h.2.2.2.2⟩)]
   ·rw[decide_eq_true (by omega:(facts.length:Int) > 20),cond_true,if_neg (fun h=>h2 h.2.1)]
  ·rw[decide_eq_true (by omega:(l.length:Int) > 10),cond_true,cond_true,if_neg (fun h=>h1 h.1)]
 rw[key]
 by_cases h:VU l facts <;> simp[h]
end Go.AM
namespace Go.AM
open Go.Proofs
open Classical
theorem Nc {rel:Int} {args:List Int}:fitP rel (args.take 5)↔fitP rel args∧args.take 5=args:=by
 constructor
 ·intro h
  have h1:args.length≤5:=by
   have:=h.2.1.2;rw[List.length_take]at this;omega
  have e:args.take 5=args:=List.take_of_length_le h1;rw[e]at h;exact⟨h,e⟩
 ·rintro⟨h,e⟩
  rw[e];exact h
theorem Ua {rel:Int} {args:List Int} (h:fitP rel args):args.take 5=args:=List.take_of_length_le (by have:=h.2.1.2;omega)
theorem qcx {f:apiFact}:groundP (cvF f)↔groundP f:=by
 unfold groundP cvF
 constructor
 ·intro h
  have h1:f.qa.length≤9:=by
   have:=h.2.1.2;simp only[List.length_take]at this;omega
  rw[List.take_of_length_le h1]at h;exact h
 ·intro h;rw[List.take_of_length_le (by have:=h.2.1.2;omega)];exact h
theorem qgf {f:apiFact} (h:groundP f):cvF f=f:=by
 unfold cvF;rw[List.take_of_length_le (by have:=h.2.1.2;omega)]
theorem Zl {a:rf2Atom} (h:fitP a.qb a.qa):(cvA a).qa=a.qa:=Ua h
theorem qef (r:rf3Rule):okU (cvR r)↔okR r:=by
 have hb:((cvR r).qe.length≤3↔r.qe.length≤3):=by simp[cvR];omega
 have hbody:r.qe.length≤3→(cvR r).qe=r.qe.map cvL:=fun h=>by unfold cvR;simp only;rw[List.take_of_length_le (by omega)]
 have hatoms:r.qe.length≤3→((∀ a,a∈atomsU (cvR r)→fitP a.qb a.qa)↔(fitP r.qd.qb r.qd.qa∧∀ b,b∈r.qe→fitP b.qc.qb b.qc.qa)):=fun h=>by
  unfold atomsU;rw[hbody h]
  constructor
  ·intro h2;refine⟨(Nc.1 (h2 _ (List.mem_cons_self ..))).1,fun b hb=>?_⟩;exact (Nc.1 (h2 (cvA b.qc) (List.mem_cons_of_mem _ (List.mem_map.2 ⟨cvL b,List.mem_map.2 ⟨b,hb,rfl⟩,rfl⟩)))).1
  ·rintro⟨h2,h3⟩ a ha
   rcases List.mem_cons.1 ha with rfl | ha
   ·exact Nc.2 ⟨h2,Ua h2⟩
   ·obtain⟨y,hy,rfl⟩:=List.mem_map.1 ha;obtain⟨b,hb,rfl⟩:=List.mem_map.1 hy;exact Nc.2 ⟨h3 b hb,Ua (h3 b hb)⟩
 have hsafe:r.qe.length≤3→(fitP r.qd.qb r.qd.qa∧∀ b,b∈r.qe→fitP b.qc.qb b.qc.qa)→(safeU (cvR r)↔safeR r):=fun h h2=>by
  have hbd:∀ v:Int,(∃ b,b∈(cvR r).qe∧b.qi=false∧v∈b.qc.qa)↔∃ b,b∈r.qe∧b.qi=false∧v∈b.qc.qa:=fun v=>by
   rw[hbody h]
   constructor
   ·rintro⟨y,hy,q1,q2⟩
    obtain⟨b,hb,rfl⟩:=List.mem_map.1 hy;have q2':v∈(cvA b.qc).qa:=q2;rw[Zl (h2.2 b hb)]at q2';exact⟨b,hb,q1,q2'⟩
   ·rintro⟨b,hb,q1,q2⟩
    refine⟨cvL b,List.mem_map.2 ⟨b,hb,rfl⟩,q1,?_⟩;show v∈(cvA b.qc).qa;rw[Zl (h2.2 b hb)];exact q2
  unfold safeU safeR
  constructor
  ·intro hu i hi
   constructor
   ·rintro (h3 | ⟨b,hb,h3⟩)
    ·exact (hbd i).1 (hu (cvA r.qd) (List.mem_cons_self ..) i (by rw[Zl h2.1];exact h3) (by omega))
    ·refine (hbd i).1 (hu (cvA b.qc) (List.mem_cons_of_mem _ ?_) i (by rw[Zl (h2.2 b hb)];exact h3) (by omega));rw[hbody h];exact List.mem_map.2 ⟨cvL b,List.mem_map.2 ⟨b,hb,rfl⟩,rfl⟩
   ·rintro⟨b,hb,_,h3⟩
    exact .inr ⟨b,hb,h3⟩
  ·intro hr a ha v hv h0;rw[hbd]
   rcases List.mem_cons.1 ha with rfl | ha
   ·have hv':v∈r.qd.qa:=by rw[← Zl h2.1];exact hv
    have h7:=(h2.1.2.2 v hv').2
    have e:((v.toNat:Nat):Int)=v:=by omega
    have:=(hr v.toNat (by omega)).1 (.inl (by rw[e];exact hv'))
    rwa [e]at this
   ·rw[hbody h]at ha;obtain⟨y,hy,rfl⟩:=List.mem_map.1 ha;obtain⟨b,hb,rfl⟩:=List.mem_map.1 hy
    have hv':v∈b.qc.qa:=by
     have hv2:v∈(cvA b.qc).qa:=hv
     rwa [Zl (h2.2 b hb)]at hv2
    have h7:=((h2.2 b hb).2.2 v hv').2
    have e:((v.toNat:Nat):Int)=v:=by omega
    have:=(hr v.toNat (by omega)).1 (.inr ⟨b,hb,by rw[e];exact hv'⟩)
    rwa [e]at this
 constructor
 ·rintro⟨q1,q2,q3⟩
  have h3:=hb.1 q1;have h4:=(hatoms h3).1 q3;exact⟨h4.1,h3,h4.2,(hsafe h3 h4).1 q2⟩
 ·rintro⟨q1,q2,q3,q4⟩
  exact⟨hb.2 q2,(hsafe q2 ⟨q1,q3⟩).2 q4,(hatoms q2).2 ⟨q1,q3⟩⟩
theorem qbT {r:rf3Rule} (h:okR r):sizesU (cvR r)=sizesR r:=by
 unfold sizesU sizesR atomsU
 have hb:(cvR r).qe=r.qe.map cvL:=by unfold cvR;simp only;rw[List.take_of_length_le (by have:=h.2.1;omega)]
 rw[hb,List.map_cons,List.map_map,List.map_map]
 have e:∀ a:rf2Atom,fitP a.qb a.qa→szU (cvA a)=szA a:=fun a ha=>by unfold szU szA;rw[Zl ha];rfl
 have h1:szU (cvR r).qd=szA r.qd:=e _ h.1;rw[h1]
 congr 1
 refine List.map_congr_left fun b hb=>?_
 exact e b.qc (h.2.2.1 b hb)
theorem qhc (l:List rf3Rule) (facts:List apiFact):VU ((l.take 12).map cvR) ((facts.take 26).map cvF)↔VR l facts:=by
 have key:l.length≤10→facts.length≤20→(VU (l.map cvR) (facts.map cvF)↔VR l facts):=by
  intro h1 h2
  have hok:(∀ r,r∈l.map cvR→okU r)↔∀ r,r∈l→okR r:=by
   simp only[List.mem_map,forall_exists_index,and_imp,forall_apply_eq_imp_iff₂,qef]
  have hgr:(∀ f,f∈facts.map cvF→groundP f)↔∀ f,f∈facts→groundP f:=by
   simp only[List.mem_map,forall_exists_index,and_imp,forall_apply_eq_imp_iff₂,qcx]
  unfold VU VR;rw[hok,hgr,List.length_map,List.length_map]
  constructor
  ·rintro⟨_,_,h3,h4,h5⟩
   refine⟨h1,h2,h3,h4,?_⟩
   have e1:(facts.map cvF).map szF=facts.map szF:=by rw[List.map_map];exact List.map_congr_left fun f hf=>by simp[qgf (h3 f hf)]
   have e2:(l.map cvR).flatMap sizesU=l.flatMap sizesR:=by
    rw[List.flatMap_map];rw[List.flatMap_def,List.flatMap_def]
    congr 1
    exact List.map_congr_left fun r hr=>qbT (h4 r hr)
   rw[e1,e2]at h5;exact h5
  ·rintro⟨_,_,h3,h4,h5⟩
   refine⟨h1,h2,h3,h4,?_⟩
   have e1:(facts.map cvF).map szF=facts.map szF:=by rw[List.map_map];exact List.map_congr_left fun f hf=>by simp[qgf (h3 f hf)]
   have e2:(l.map cvR).flatMap sizesU=l.flatMap sizesR:=by
    rw[List.flatMap_map];rw[List.flatMap_def,List.flatMap_def]
    congr 1
    exact List.map_congr_left fun r hr=>qbT (h4 r hr)
   rw[e1,e2];exact h5
 by_cases h1:l.length≤10
 ·by_cases h2:facts.length≤20
  ·rw[List.take_of_length_le (by omega),List.take_of_length_le (by omega)];exact key h1 h2
  ·constructor
   ·intro h;have:=h.2.1;simp at this;omega
   ·intro h;exact absurd h.2.1 h2
 ·constructor
  ·intro h;have:=h.1;simp at this;omega
  ·intro h;exact absurd h.1 h1
theorem qey {l:List rf3Rule} (hl:okRules l):∀ r,r∈(l.take 12).map cvR→smallU r:=by
 intro r hr;obtain⟨q,hq,rfl⟩:=List.mem_map.1 hr;obtain⟨h1,h2,h3⟩:=hl.2 q (List.mem_of_mem_take hq);refine⟨by simp[cvR];omega,fun a ha=>?_⟩
 rcases List.mem_cons.1 ha with rfl | ha
 ·exact⟨by simp[cvR,cvA];omega,fun y hy=>h1.2.2 y (List.mem_of_mem_take hy)⟩
 ·obtain⟨y,hy,rfl⟩:=List.mem_map.1 ha;obtain⟨b,hb,rfl⟩:=List.mem_map.1 hy;exact⟨by simp[cvL,cvA];omega,fun y hy=>(h3 b (List.mem_of_mem_take hb)).2.2 y (List.mem_of_mem_take hy)⟩
theorem Uq {fuel:Nat} (hf:4≤fuel) {l:List rf3Rule} {facts:List apiFact} (hl:okRules l):XJ fuel ((l.take 12).map cvR) ((facts.take 26).map cvF)=some (decide (VR l facts)):=by
 rw[qdo hf (by simp;omega) (by simp;omega) (qey hl)]
 congr 1
 rw[decide_eq_decide];exact qhc l facts
end Go.AM
namespace Go.AM
open Go.Proofs
open Classical
structure Edge where
 h:Nat
 b:Nat
 d:Int
def Edge.ok (e:Edge):Prop:=e.h<6∧e.b<6∧0≤e.d∧e.d≤1
def stepE (v:List Int) (e:Edge):List Int:=v.set e.h (if v.getD e.b 0+e.d > v.getD e.h 0 then v.getD e.b 0+e.d else v.getD e.h 0)
def rndE (E:List Edge) (v:List Int):List Int:=E.foldl stepE v
def iterE (E:List Edge) (v:List Int):Nat→List Int
 | 0=>v
 | n+1=>iterE E (rndE E v) n
theorem Xv (v:List Int) (e:Edge):(stepE v e).length=v.length:=by simp[stepE]
theorem Vt (E:List Edge):∀ v,(rndE E v).length=v.length:=by
 induction E with
 | nil=>intro v;rfl
 | cons e E ih=>intro v;rw[show rndE (e::E) v=rndE E (stepE v e) from rfl,ih,Xv]
theorem ZE {v:List Int} (hv:v.length=6) {e:Edge} (he:e.ok) (i:Nat):(stepE v e).getD i 0=if i=e.h then (if v.getD e.b 0+e.d > v.getD e.h 0 then v.getD e.b 0+e.d else v.getD e.h 0) else v.getD i 0:=by
 unfold stepE;simp only[List.getD_eq_getElem?_getD]
 by_cases hi:i=e.h
 ·subst hi;rw[List.getElem?_set_self (by rw[hv];exact he.1),if_pos rfl];rfl
 ·rw[List.getElem?_set_ne (fun h=>hi h.symm),if_neg hi]
theorem VZ {v w:List Int} (hv:v.length=6) (hw:w.length=6) (h:∀ i,i<6→v.getD i 0=w.getD i 0):v=w:=by
 refine List.ext_getElem (by rw[hv,hw]) fun i h1 h2=>?_
 have:=h i (by omega);rw[List.getD_eq_getElem?_getD,List.getD_eq_getElem?_getD,List.getElem?_eq_getElem h1,List.getElem?_eq_getElem h2]at this;exact this
theorem HJ {v:List Int} (hv:v.length=6) {e:Edge} (he:e.ok) (i:Nat):v.getD i 0≤(stepE v e).getD i 0:=by
 rw[ZE hv he]
 split
 ·rename_i h;subst h;split <;> omega
 ·omega
theorem VS {E:List Edge} (hE:∀ e,e∈E→e.ok):∀ {v:List Int},v.length=6→∀ i,v.getD i 0≤(rndE E v).getD i 0:=by
 induction E with
 | nil=>intro v hv i;exact Int.le_refl _
 | cons e E ih =>
  intro v hv i;have h1:=HJ hv (hE e (List.mem_cons_self ..)) i;have h2:=ih (fun f hf=>hE f (List.mem_cons_of_mem _ hf)) (v:=stepE v e) (by rw[Xv,hv]) i;exact Int.le_trans h1 h2
theorem Dc {E:List Edge} (hE:∀ e,e∈E→e.ok):∀ {v:List Int} {B:Int},v.length=6→0≤B→(∀ i,0≤v.getD i 0∧v.getD i 0≤B)→∀ i,0≤(rndE E v).getD i 0∧(rndE E v).getD i 0≤B+E.length:=by
 induction E with
 | nil=>intro v B hv hB h i;simpa[rndE] using h i
 | cons e E ih =>
  intro v B hv hB h i;have he:=hE e (List.mem_cons_self ..)
  have h1:∀ i,0≤(stepE v e).getD i 0∧(stepE v e).getD i 0≤B+1:=fun i=>by
   rw[ZE hv he];have a:=h e.b;have b:=h e.h;have c:=h i;have:=he.2.2
   split
   ·split <;> omega
   ·omega
  have:=ih (fun f hf=>hE f (List.mem_cons_of_mem _ hf)) (v:=stepE v e) (by rw[Xv,hv]) (by omega) h1 i;rw[List.length_cons];show 0≤(rndE E (stepE v e)).getD i 0∧(rndE E (stepE v e)).getD i 0≤_;omega
def preE (E:List Edge) (p:Nat→Int):Prop:=∀ e,e∈E→p e.b+e.d≤p e.h
theorem qfE {E:List Edge} (hE:∀ e,e∈E→e.ok) {p:Nat→Int}:preE E p→∀ {v:List Int},v.length=6→(∀ i,v.getD i 0≤p i)→∀ i,(rndE E v).getD i 0≤p i:=by
 induction E with
 | nil=>intro _ v _ h i;exact h i
 | cons e E ih =>
  intro hp v hv h i;have he:=hE e (List.mem_cons_self ..);refine ih (fun f hf=>hE f (List.mem_cons_of_mem _ hf)) (fun f hf=>hp f (List.mem_cons_of_mem _ hf)) (v:=stepE v e) (by rw[Xv,hv]) (fun j=>?_) i;rw[ZE hv he];have a:=h e.b;have b:=h e.h;have c:=hp e (List.mem_cons_self ..)
  split
  ·rename_i hj;subst hj;split <;> omega
  ·exact h j
theorem qfF {E:List Edge} (hE:∀ e,e∈E→e.ok):∀ {v:List Int},v.length=6→rndE E v=v→preE E (fun i=>v.getD i 0):=by
 induction E with
 | nil=>intro v _ _ e he;simp at he
 | cons e E ih =>
  intro v hv h;have he:=hE e (List.mem_cons_self ..)
  have hE':∀ f,f∈E→f.ok:=fun f hf=>hE f (List.mem_cons_of_mem _ hf)
  have h1:rndE E (stepE v e)=v:=h
  have hs:stepE v e=v:=by
   refine VZ (by rw[Xv,hv]) hv fun i _=>?_
   have a:=HJ hv he i;have b:=VS hE' (v:=stepE v e) (by rw[Xv,hv]) i;rw[h1]at b;omega
  rw[hs]at h1;intro f hf
  rcases List.mem_cons.1 hf with rfl | hf
  ·have:(stepE v f).getD f.h 0=v.getD f.h 0:=by rw[hs]
   show v.getD f.b 0+f.d≤v.getD f.h 0;rw[ZE hv he,if_pos rfl]at this
   split at this <;> omega
  ·exact ih hE' hv h1 f hf
def sum6 (v:List Int):Int:=v.getD 0 0+v.getD 1 0+v.getD 2 0+v.getD 3 0+v.getD 4 0+v.getD 5 0
theorem qfD {E:List Edge} (hE:∀ e,e∈E→e.ok) {v:List Int} (hv:v.length=6) (hne:rndE E v≠v):sum6 v+1≤sum6 (rndE E v):=by
 have h:=VS hE hv
 have:∃ i,i<6∧v.getD i 0≠(rndE E v).getD i 0:=by
  refine Classical.byContradiction fun hn=>hne (VZ (by rw[Vt,hv]) hv fun i hi=>?_)
  refine Classical.byContradiction fun h2=>hn ⟨i,hi,fun e=>h2 e.symm⟩
 obtain⟨i,hi,hni⟩:=this;have a0:=h 0;have a1:=h 1;have a2:=h 2;have a3:=h 3;have a4:=h 4;have a5:=h 5;unfold sum6
 match i,hi with
 | 0,_ | 1,_ | 2,_ | 3,_ | 4,_ | 5,_=>omega
theorem pig:∀ (n:Nat) (l:List Nat),l.Nodup→(∀ x,x∈l→x<n)→l.length≤n
 | 0,l,_,h=>by
  cases l with
  | nil=>simp
  | cons a l=>exact absurd (h a (List.mem_cons_self ..)) (by omega)
 | n+1,l,hn,h=>by
  have:=pig n (l.erase n) (hn.erase n) (fun x hx=>by
   have h1:=(hn.mem_erase_iff).1 hx;have h2:=h x h1.2;have:=h1.1
   omega)
  rw[List.length_erase]at this
  split at this <;> omega
theorem qgZ {E:List Edge} {v:List Int} (hv:v.length=6) (h0:∀ i,0≤v.getD i 0) (hpre:preE E (fun i=>v.getD i 0)) (hleast:∀ p:Nat→Int,(∀ i,0≤p i)→preE E p→∀ i,v.getD i 0≤p i) (hE:∀ e,e∈E→e.ok):∀ i,v.getD i 0≤5:=by
 intro j
 refine Classical.byContradiction fun hj=>?_
 have hj:6≤v.getD j 0:=by omega
 have hj6:j<6:=by
  refine Classical.byContradiction fun h=>?_
  rw[List.getD_eq_getElem?_getD,List.getElem?_eq_none (by omega)]at hj
  simp at hj
 have:∃ m:Int,0≤m∧m≤5∧∀ i,i<6→v.getD i 0≠m:=by
  refine Classical.byContradiction fun hn=>?_
  have hall:∀ m:Nat,m<6→∃ i,i<6∧v.getD i 0=(m:Int):=fun m hm=>by
   refine Classical.byContradiction fun h2=>hn ⟨m,by omega,by omega,fun i hi e=>h2 ⟨i,hi,e⟩⟩
  have hall7:∀ m:Nat,m<7→∃ i,i<6∧(if v.getD i 0≤5 then v.getD i 0 else 6)=(m:Int):=fun m hm=>by
   by_cases h6:m<6
   ·obtain⟨i,hi,he⟩:=hall m h6;exact⟨i,hi,by rw[if_pos (by omega)];exact he⟩
   ·exact⟨j,hj6,by rw[if_neg (by omega)];omega⟩
  obtain⟨i0,q0,p0⟩:=hall7 0 (by omega);obtain⟨i1,q1,p1⟩:=hall7 1 (by omega);obtain⟨i2,q2,p2⟩:=hall7 2 (by omega);obtain⟨i3,q3,p3⟩:=hall7 3 (by omega);obtain⟨i4,q4,p4⟩:=hall7 4 (by omega);obtain⟨i5,q5,p5⟩:=hall7 5 (by omega);obtain⟨i6,q6,p6⟩:=hall7 6 (by omega)
  have ne:∀ {a b:Nat} {x y:Nat},(if v.getD a 0≤5 then v.getD a 0 else 6)=(x:Int)→(if v.getD b 0≤5 then v.getD b 0 else 6)=(y:Int)→x≠y→a≠b:=fun h1 h2 h3 e=>by subst e;rw[h1]at h2;omega
  have:=pig 6 [i0,i1,i2,i3,i4,i5,i6] (by
   simp only[List.nodup_cons,List.mem_cons,List.not_mem_nil,or_false,not_or,List.nodup_nil,and_true,not_false_eq_true]
   exact⟨⟨ne p0 p1 (by omega),ne p0 p2 (by omega),ne p0 p3 (by omega),ne p0 p4 (by omega),ne p0 p5 (by omega),ne p0 p6 (by omega)⟩,⟨ne p1 p2 (by omega),ne p1 p3 (by omega),ne p1 p4 (by omega),ne p1 p5 (by omega),ne p1 p6 (by omega)⟩,⟨ne p2 p3 (by omega),ne p2 p4 (by omega),ne p2 p5 (by omega),ne p2 p6 (by omega)⟩,⟨ne p3 p4 (by omega),ne p3 p5 (by omega),ne p3 p6 (by omega)⟩,⟨ne p4 p5 (by omega),ne p4 p6 (by omega)⟩,ne p5 p6 (by omega)⟩) (fun x hx=>by
   simp only[List.mem_cons,List.not_mem_nil,or_false]at hx
   rcases hx with rfl | rfl | rfl | rfl | rfl | rfl | rfl <;> assumption)
  simp at this
 obtain⟨m,m0,m5,hm⟩:=this
 have hp:=hleast (fun i=>if v.getD i 0 > m then v.getD i 0 - 1 else v.getD i 0) (fun i=>by have:=h0 i;show 0≤(if v.getD i 0 > m then v.getD i 0 - 1 else v.getD i 0);split <;> omega) (fun e he=>by
  have h1:=hpre e he;have h2:=hm e.h (hE e he).1;have h3:=hm e.b (hE e he).2.1;have h4:=(hE e he).2.2;replace h1:v.getD e.b 0+e.d≤v.getD e.h 0:=h1;show (if v.getD e.b 0 > m then v.getD e.b 0 - 1 else v.getD e.b 0)+e.d≤(if v.getD e.h 0 > m then v.getD e.h 0 - 1 else v.getD e.h 0)
  split <;> split <;> omega) j
 replace hp:v.getD j 0≤(if v.getD j 0 > m then v.getD j 0 - 1 else v.getD j 0):=hp;rw[if_pos (by omega)]at hp;omega
end Go.AM
