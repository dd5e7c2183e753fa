import Derived.Test.YtdghpfejmlpjhaaRL3
set_option linter.all false
set_option maxRecDepth 100000
open List renaming mem_cons_self→A0, mem_cons_of_mem→A1, replicate→A2, getD_eq_getElem?_getD→A4, length_cons→A5, take_of_length_le→A7, getElem?_eq_getElem→A8, mem_cons→A9, map_cons→B1, length_map→C0, map_congr_left→C7, map_map→D1, flatMap_def→D2, mem_of_mem_take→D3, ext_getElem→D8, getElem?_replicate→D9, getElem?_eq_none→E0
open Option renaming bind_some→A3
open Int renaming toNat→A6, le_refl→D4, tmod_eq_emod_of_nonneg→E7, tdiv_eq_ediv_of_nonneg→E8
open Nat renaming zero_add→D0
open Go.IntKind renaming wrap→D5
open Bool renaming not_false→D6, not_true→D7
namespace Go.AM
open Go.Proofs
open Classical
variable {l:LN} {facts:LG} {B n rel:Int} {args v:LA} {f:apiFact}
theorem mgetI (k x:Int) (v:Bool):∀ l:Lb,mget keq1 false x (mset keq1 k v l)=if x=k then v else mget keq1 false x l
 | []=>by
  simp only[mset,mget,keq1];by_cases h:x=k
  .subst h;simp
  have:(k == x)=false:=by simp;omega
  simp[this,h]
 | p::r=>by
  have ih:=mgetI k x v r;simp only[mset]
  cases hq:keq1 p.1 k with
  | true =>
   have hpk:p.1=k:=by simpa[keq1] using hq
   simp only[cT,mget,keq1];by_cases h:x=k
   .subst h;simp[hpk]
   have h2:(p.1 == x)=false:=by simp;omega
   rw[h2];simp[h]
  | false =>
   have hpk:¬ p.1=k:=by simpa[keq1] using hq
   simp only[cN,mget];rw[ih];by_cases h:x=k
   .subst h;rw[hq];simp
   simp[h]
theorem qey (k:Int) (v:Bool):∀ l:Lb,(mset keq1 k v l).length<=l.length+1
 | []=>by simp[mset]
 | p::r=>by
  have:=qey k v r;unfold mset;cases keq1 p.1 k <;> simp <;> omega
theorem qiJ (x:ruLit) (K:Lb->LD):∀ (args:LA) (k:Nat) (m:Lb),(∀ y,y∈args->wfI .i64 y=true)->m.length+args.length<=100000 ->
  ∃ m',jr x K args k m=K m'/\m'.length<=m.length+args.length/\∀ y,mget keq1 false y m'=true↔mget keq1 false y m=true\/(x.qw=false/\y∈args)
 | [],k,m,_,_=>⟨m,by rw[jr],by simp,fun y=>by simp⟩
 | a::r,k,m,hw,hl=>by
  have hwa:=hw a (A0 ..)
  have hwr:∀ y,y∈r->wfI .i64 y=true:=fun y hy=>hw y (A1 _ hy)
  rw[A5]at hl;rw[jr,NH hwa,NH hwa,NH hwa,NH (by simp[Nat.blt];omega),NH (by simp[Nat.blt];omega)];unfold QU
  have key:∀ v:Bool,(v=true↔mget keq1 false a m=true\/x.qw=false)->∃ m',jr x K r (k+1) (mset keq1 a v m)=K m'/\m'.length<=m.length+(a::r).length/\∀ y,mget keq1 false y m'=true↔mget keq1 false y m=true\/(x.qw=false/\y∈a::r):=by
   intro v hv;have h1:=qey a v m;obtain⟨m',q1,q2,q3⟩:=qiJ x K r (k+1) (mset keq1 a v m) hwr oM;refine⟨m',q1,by simp;omega,fun y=>?_⟩;rw[q3 y,mgetI,A9];by_cases hy:y=a
   .subst hy;rw[if_pos rfl,hv];constructor
    .rintro ((h | h) | h)
     .exact .inl h
     .exact .inr ⟨h,.inl rfl⟩
     exact .inr ⟨h.1,.inl rfl⟩
    rintro (h | h)
    .exact .inl (.inl h)
    exact .inl (.inr h.1)
   rw[if_neg hy];simp[hy]
  cases hm:mget keq1 false a m with
  | true =>
   rw[cT];exact key true (by simp[hm])
  | false =>
   rw[cN];exact key (!x.qw) (by simp[hm])
theorem qiK (K:Lb->LD):∀ (body:LQ) (k:Nat) (m:Lb),(∀ b,b∈body->b.qg.qa.length<=5/\∀ y,y∈b.qg.qa->wfI .i64 y=true)->m.length+5 * body.length<=100000 ->
  ∃ m',jc K body k m=K m'/\∀ y,mget keq1 false y m'=true↔mget keq1 false y m=true\/∃ b,b∈body/\b.qw=false/\y∈b.qg.qa
 | [],k,m,_,_=>⟨m,by rw[jc],fun y=>by simp⟩
 | x::r,k,m,hw,hl=>by
  obtain⟨w1,w2⟩:=hw x (A0 ..);rw[A5]at hl;rw[jc,NH (qy (by omega))];obtain⟨m1,q1,q2,q3⟩:=qiJ x (JZ (jc K r (k+1))) x.qg.qa 0 m w2 oM;rw[q1];unfold JZ;obtain⟨m2,p1,p2⟩:=qiK K r (k+1) m1 (fun b hb=>hw b (A1 _ hb)) oM;refine⟨m2,p1,fun y=>?_⟩;rw[p2 y,q3 y];simp only[A9];constructor
  .rintro ((h | h) | ⟨b,hb,h⟩)
   .exact .inl h
   .exact .inr ⟨x,.inl rfl,h⟩
   exact .inr ⟨b,.inr hb,h⟩
  rintro (h | ⟨b,rfl | hb,h⟩)
  .exact .inl (.inl h)
  .exact .inl (.inr h)
  exact .inr ⟨b,hb,h⟩
theorem qiH (m:Lb) (K:LD):∀ (args:LA) (k:Nat),(∀ y,y∈args->wfI .i64 y=true)->jH m K args k=if ∀ v,v∈args->0<=v->mget keq1 false v m=true then K else some false
 | [],k,_=>by simp[jH]
 | a::r,k,hw=>by
  rw[jH];unfold QT;rw[qiH m K r (k+1) fun y hy=>hw y (A1 _ hy)];simp only[A9,forall_eq_or_imp];by_cases h0:a >= 0
  .rw[dT h0,cT,NH (hw a (A0 ..))]
   cases hm:mget keq1 false a m with
   | true=>simp
   | false =>
    simp only[D6,cT];rw[if_neg (fun h=>by have:=h.1 h0;cases this)]
  rw[dF h0,cN,cN]
  have:(0<=a->mget keq1 false a m=true):=fun h=>absurd h h0
  by_cases h1:∀ v,v∈r->0<=v->mget keq1 false v m=true
  .rw[if_pos h1,if_pos ⟨this,h1⟩]
  rw[if_neg h1,if_neg (fun h=>h1 h.2)]
theorem qiI (m:Lb):∀ (l:List qo) (k:Nat),(∀ a,a∈l->a.qa.length<=5/\∀ y,y∈a.qa->wfI .i64 y=true)->jp m jK l k=if ∀ a,a∈l->∀ v,v∈a.qa->0<=v->mget keq1 false v m=true then some true else some false
 | [],k,_=>by simp[jp,jK]
 | a::r,k,hw=>by
  obtain⟨w1,w2⟩:=hw a (A0 ..);rw[jp,NH (qy (by omega)),qiH _ _ _ _ w2];unfold Qn;rw[qiI m r (k+1) fun b hb=>hw b (A1 _ hb)];simp only[A9,forall_eq_or_imp];by_cases h1:∀ v,v∈a.qa->0<=v->mget keq1 false v m=true
  .rw[if_pos h1];by_cases h2:∀ a,a∈r->∀ v,v∈a.qa->0<=v->mget keq1 false v m=true
   .rw[if_pos h2,if_pos ⟨h1,h2⟩]
   rw[if_neg h2,if_neg (fun h=>h2 h.2)]
  rw[if_neg h1,if_neg (fun h=>h1 h.1)]
theorem qhk (K:List qo->Option (List qo)):∀ (body:LQ) (k:Nat) (acc:List qo),acc.length+body.length<=100000->Jn K body k acc=K (acc++body.map fun x=>x.qg)
 | [],k,acc,_=>by simp[Jn]
 | x::r,k,acc,hl=>by
  rw[Jn,NH (Xc (by omega) (by simp at hl ⊢;omega)),qhk K r (k+1) _ (by simp at hl ⊢;omega)];simp
def atomsU (r:ruRule):List qo:=r.qi::r.qe.map fun x=>x.qg
theorem qfa {r:ruRule} (h:r.qe.length<=5):Xu r=some (atomsU r):=by
 unfold Xu;rw[NH (qy (by omega)),qhk _ _ _ _ (by simp;omega)];rfl
def safeU (r:ruRule):Prop:=∀ a,a∈atomsU r->∀ v,v∈a.qa->0<=v->∃ b,b∈r.qe/\b.qw=false/\v∈b.qg.qa
def smallU (r:ruRule):Prop:=r.qe.length<=5/\∀ a,a∈atomsU r->a.qa.length<=5/\∀ y,y∈a.qa->wfI .i64 y=true
theorem qjH {r:ruRule} (h:smallU r):YT r=some (decide (safeU r)):=by
 unfold YT;rw[NH (qy (by have:=h.1;omega))];obtain⟨m,q1,q2⟩:=qiK (jZ r) r.qe 0 [] (fun b hb=>h.2 b.qg (A1 _ (List.mem_map.2 ⟨b,hb,rfl⟩))) (by have:=h.1;simp;omega);rw[q1];unfold jZ;rw[qfa h.1];simp only[A3];rw[NH (qy (by have:=h.1;simp[atomsU];omega)),qiI _ _ _ h.2]
 have e:(∀ a,a∈atomsU r->∀ v,v∈a.qa->0<=v->mget keq1 false v m=true)↔safeU r:=by
  unfold safeU;constructor
  .intro h a ha v hv h0;have:=(q2 v).1 (h a ha v hv h0)
   simpa[mget] using this
  intro h a ha v hv h0;exact (q2 v).2 (.inr (h a ha v hv h0))
 by_cases hs:safeU r
 .rw[if_pos (e.2 hs),dT hs]
 rw[if_neg (fun h=>hs (e.1 h)),dF hs]
def szU (a:qo):Jz:=⟨a.qc,(a.qa.length:Int)⟩
theorem qeo {fuel:Nat} (hf:4<=fuel) (K:LA->LD):∀ (l:List qo) (k:Nat) (n:LA) (S:List Jz),Tab n S ->
  (((∀ a,a∈l->fitP a.qc a.qa)/\conP (S++l.map szU))/\∃ n',Jm fuel K l k n=K n'/\Tab n' (S++l.map szU))\/(¬ ((∀ a,a∈l->fitP a.qc a.qa)/\conP (S++l.map szU))/\Jm fuel K l k n=some false)
 | [],k,n,S,h=>.inl ⟨⟨fun f hf=>by simp at hf,by simpa using h.con⟩,n,by rw[Jm],by simpa using h⟩
 | x::r,k,n,S,h=>by
  rw[Jm];unfold Xk
  have e:S++(x::r).map szU=S++[szU x]++r.map szU:=by simp
  rcases h.add x.qc (x.qa.length:Int) with ⟨⟨q1,q2⟩,n',q3,q4⟩ | ⟨q1,q2⟩
  .rw[q3];simp only[A3,D7,cN];obtain⟨⟨r1,r2⟩,r3,r4⟩:=q1;simp only at r1 r2 r3 r4;obtain⟨m,e1,e2,e3⟩:=qiR hf (l:=x.qa) oM oM;rw[e1];simp only[A3];by_cases hm:m < -6
   .rw[dT hm,cT,cT];exact .inr ⟨fun h2=>by have:=((h2.1 x (A0 ..)).2.2 m e2).1;omega,rfl⟩
   rw[dF hm,cN];obtain⟨M,g1,g2,g3⟩:=qiV hf (l:=x.qa) oM oM;rw[g1];simp only[A3];by_cases hM:M >= 8
   .rw[dT hM,cT];exact .inr ⟨fun h2=>by have:=((h2.1 x (A0 ..)).2.2 M g2).2;omega,rfl⟩
   rw[dF hM,cN];have hx:fitP x.qc x.qa:=⟨⟨r1,r2⟩,⟨by omega,by omega⟩,fun y hy=>⟨by have:=e3 y hy;omega,by have:=g3 y hy;omega⟩⟩
   rcases qeo hf K r (k+1) n' _ q4 with ⟨⟨p1,p2⟩,n2,p3,p4⟩ | ⟨p1,p2⟩
   .rw[e];refine .inl ⟨⟨fun f hf=>?_,p2⟩,n2,p3,p4⟩
    rcases List.mem_cons.1 hf with rfl | hf
    .exact hx
    exact p1 f hf
   rw[e];exact .inr ⟨fun h2=>p1 ⟨fun f hf=>h2.1 f (A1 _ hf),h2.2⟩,p2⟩
  rw[q2];simp only[A3,D6,cT];refine .inr ⟨fun h2=>q1 ⟨?_,?_⟩,by first | rfl | trivial⟩
  .have hx:=h2.1 x (A0 ..);refine⟨hx.1,?_,?_⟩
   .have:=hx.2.1.1;simp only;omega
   have:=hx.2.1.2;simp only;omega
  rw[e]at h2;exact qaU h2.2
def okU (r:ruRule):Prop:=r.qe.length<=3/\safeU r/\∀ a,a∈atomsU r->fitP a.qc a.qa
def sizesU (r:ruRule):List Jz:=(atomsU r).map szU
theorem qep {fuel:Nat} (hf:4<=fuel):∀ (l:LH) (k:Nat) (n:LA) (S:List Jz),Tab n S->(∀ r,r∈l->smallU r) ->
  jC fuel Jr l k n=if (∀ r,r∈l->okU r)/\conP (S++l.flatMap sizesU) then some true else some false
 | [],k,n,S,h,_=>by
  rw[jC,if_pos ⟨fun r hr=>by simp at hr,by simpa using h.con⟩];rfl
 | x::r,k,n,S,h,hs=>by
  have hsx:=hs x (A0 ..);rw[jC,qjH hsx];unfold YQ;by_cases h3:x.qe.length<=3
  .rw[dF (by omega:¬ (x.qe.length:Int) > 3),cN];simp only[A3];by_cases h4:safeU x
   .rw[dT h4];simp only[D7,cN];rw[qfa hsx.1];simp only[A3];rw[NH (qy (by have:=hsx.1;simp[atomsU];omega))]
    have e:S++(x::r).flatMap sizesU=S++sizesU x++r.flatMap sizesU:=by simp
    rcases qeo hf (JQ (jC fuel Jr r (k+1))) (atomsU x) 0 n S h with ⟨⟨p1,p2⟩,n2,p3,p4⟩ | ⟨p1,p2⟩
    .rw[p3];unfold JQ;rw[qep hf r (k+1) n2 _ p4 fun q hq=>hs q (A1 _ hq),e];simp only[A9,forall_eq_or_imp];have hok:okU x:=⟨h3,h4,p1⟩;by_cases h5:(∀ r_1,r_1∈r->okU r_1)/\conP (S++(atomsU x).map szU++r.flatMap sizesU)
     .rw[if_pos h5,if_pos ⟨⟨hok,h5.1⟩,h5.2⟩]
     rw[if_neg h5,if_neg (fun h6=>h5 ⟨h6.1.2,h6.2⟩)]
    rw[p2,if_neg];intro h6;refine p1 ⟨(h6.1 x (A0 ..)).2.2,?_⟩;rw[e]at h6;exact qaU h6.2
   rw[dF h4];simp only[D6,cT];rw[if_neg (fun h6=>h4 (h6.1 x (A0 ..)).2.1)]
  rw[dT (by omega:(x.qe.length:Int) > 3),cT,cT,if_neg (fun h6=>h3 (h6.1 x (A0 ..)).1)]
def VU (l:LH) (facts:LG):Prop:=l.length<=10/\facts.length<=20/\(∀ f,f∈facts->groundP f)/\(∀ r,r∈l->okU r)/\conP (facts.map szF++l.flatMap sizesU)
theorem qhN {fuel:Nat} (hf:4<=fuel) {l:LH} (hl:l.length<=1000) (hfl:facts.length<=1000) (hs:∀ r,r∈l->smallU r):Xp fuel l facts=some (decide (VU l facts)):=by
 have key:Xp fuel l facts=if VU l facts then some true else some false:=by
  unfold Xp ZL;by_cases h1:l.length<=10
  .rw[dF (by omega:¬ (l.length:Int) > 10),cN];by_cases h2:facts.length<=20
   .rw[dF (by omega:¬ (facts.length:Int) > 20),cN,NH (qy (by omega))]
    rcases qeq hf (Xd fuel l) facts 0 _ [] Tab.zero with ⟨⟨p1,p2⟩,n2,p3,p4⟩ | ⟨p1,p2⟩
    .rw[p3];unfold Xd;rw[NH (qy (by omega)),qep hf l 0 n2 _ p4 hs,List.nil_append];by_cases h5:(∀ r,r∈l->okU r)/\conP (facts.map szF++l.flatMap sizesU)
     .rw[if_pos h5,if_pos ⟨h1,h2,p1,h5.1,h5.2⟩]
     rw[if_neg h5,if_neg (fun h=>h5 ⟨h.2.2.2.1,h.2.2.2.2⟩)]
    rw[p2,if_neg (fun h=>p1 ⟨h.2.2.1,by rw[List.nil_append];exact qaU h.2.2.2.2⟩)]
   rw[dT (by omega:(facts.length:Int) > 20),cT,if_neg (fun h=>h2 h.2.1)]
  rw[dT (by omega:(l.length:Int) > 10),cT,cT,if_neg (fun h=>h1 h.1)]
 rw[key];by_cases h:VU l facts <;> simp[h]
theorem qaN:fitP rel (args.take 5)↔fitP rel args/\args.take 5=args:=by
 constructor
 .intro h
  have h1:args.length<=5:=by
   have:=h.2.1.2;rw[List.length_take]at this;omega
  have e:args.take 5=args:=A7 h1;rw[e]at h;exact⟨h,e⟩
 rintro⟨h,e⟩
 rw[e];exact h
theorem Dq (h:fitP rel args):args.take 5=args:=A7 (by have:=h.2.1.2;omega)
theorem qgP:groundP (cvF f)↔groundP f:=by
 unfold groundP cvF;constructor
 .intro h
  have h1:f.qa.length<=9:=by
   have:=h.2.1.2;simp only[List.length_take]at this;omega
  rw[A7 h1]at h;exact h
 intro h;rw[A7 (by have:=h.2.1.2;omega)];exact h
theorem qlp (h:groundP f):cvF f=f:=by
 unfold cvF;rw[A7 (by have:=h.2.1.2;omega)]
theorem VX {a:rf2Atom} (h:fitP a.qc a.qa):(cvA a).qa=a.qa:=Dq h
theorem qiN (r:rf3Rule):okU (cvR r)↔okR r:=by
 have hb:((cvR r).qe.length<=3↔r.qe.length<=3):=by simp[cvR];omega
 have hbody:r.qe.length<=3->(cvR r).qe=r.qe.map cvL:=fun h=>by unfold cvR;simp only;rw[A7 (by omega)]
 have hatoms:r.qe.length<=3->((∀ a,a∈atomsU (cvR r)->fitP a.qc a.qa)↔(fitP r.qi.qc r.qi.qa/\∀ b,b∈r.qe->fitP b.qg.qc b.qg.qa)):=fun h=>by
  unfold atomsU;rw[hbody h];constructor
  .intro h2;refine⟨(qaN.1 (h2 _ (A0 ..))).1,fun b hb=>?_⟩;exact (qaN.1 (h2 (cvA b.qg) (A1 _ (List.mem_map.2 ⟨cvL b,List.mem_map.2 ⟨b,hb,rfl⟩,rfl⟩)))).1
  rintro⟨h2,h3⟩ a ha
  rcases List.mem_cons.1 ha with rfl | ha
  .exact qaN.2 ⟨h2,Dq h2⟩
  obtain⟨y,hy,rfl⟩:=List.mem_map.1 ha;obtain⟨b,hb,rfl⟩:=List.mem_map.1 hy;exact qaN.2 ⟨h3 b hb,Dq (h3 b hb)⟩
 have hsafe:r.qe.length<=3->(fitP r.qi.qc r.qi.qa/\∀ b,b∈r.qe->fitP b.qg.qc b.qg.qa)->(safeU (cvR r)↔safeR r):=fun h h2=>by
  have hbd:∀ v:Int,(∃ b,b∈(cvR r).qe/\b.qw=false/\v∈b.qg.qa)↔∃ b,b∈r.qe/\b.qw=false/\v∈b.qg.qa:=fun v=>by
   rw[hbody h];constructor
   .rintro⟨y,hy,q1,q2⟩
    obtain⟨b,hb,rfl⟩:=List.mem_map.1 hy;have q2':v∈(cvA b.qg).qa:=q2;rw[VX (h2.2 b hb)]at q2';exact⟨b,hb,q1,q2'⟩
   rintro⟨b,hb,q1,q2⟩
   refine⟨cvL b,List.mem_map.2 ⟨b,hb,rfl⟩,q1,?_⟩;show v∈(cvA b.qg).qa;rw[VX (h2.2 b hb)];exact q2
  unfold safeU safeR;constructor
  .intro hu i hi;constructor
   .rintro (h3 | ⟨b,hb,h3⟩)
    .exact (hbd i).1 (hu (cvA r.qi) (A0 ..) i (by rw[VX h2.1];exact h3) oM)
    refine (hbd i).1 (hu (cvA b.qg) (A1 _ ?_) i (by rw[VX (h2.2 b hb)];exact h3) oM);rw[hbody h];exact List.mem_map.2 ⟨cvL b,List.mem_map.2 ⟨b,hb,rfl⟩,rfl⟩
   rintro⟨b,hb,_,h3⟩
   exact .inr ⟨b,hb,h3⟩
  intro hr a ha v hv h0;rw[hbd]
  rcases List.mem_cons.1 ha with rfl | ha
  .have hv':v∈r.qi.qa:=by rw[<- VX h2.1];exact hv
   have h7:=(h2.1.2.2 v hv').2
   have e:((v.toNat:Nat):Int)=v:=by omega
   have:=(hr v.toNat oM).1 (.inl (by rw[e];exact hv'))
   rwa [e]at this
  rw[hbody h]at ha;obtain⟨y,hy,rfl⟩:=List.mem_map.1 ha;obtain⟨b,hb,rfl⟩:=List.mem_map.1 hy
  have hv':v∈b.qg.qa:=by
   have hv2:v∈(cvA b.qg).qa:=hv
   rwa [VX (h2.2 b hb)]at hv2
  have h7:=((h2.2 b hb).2.2 v hv').2
  have e:((v.toNat:Nat):Int)=v:=by omega
  have:=(hr v.toNat oM).1 (.inr ⟨b,hb,by rw[e];exact hv'⟩)
  rwa [e]at this
 constructor
 .rintro⟨q1,q2,q3⟩
  have h3:=hb.1 q1;have h4:=(hatoms h3).1 q3;exact⟨h4.1,h3,h4.2,(hsafe h3 h4).1 q2⟩
 rintro⟨q1,q2,q3,q4⟩
 exact⟨hb.2 q2,(hsafe q2 ⟨q1,q3⟩).2 q4,(hatoms q2).2 ⟨q1,q3⟩⟩
theorem qfW {r:rf3Rule} (h:okR r):sizesU (cvR r)=sizesR r:=by
 unfold sizesU sizesR atomsU
 have hb:(cvR r).qe=r.qe.map cvL:=by unfold cvR;simp only;rw[A7 (by have:=h.2.1;omega)]
 rw[hb,B1,D1,D1]
 have e:∀ a:rf2Atom,fitP a.qc a.qa->szU (cvA a)=szA a:=fun a ha=>by unfold szU szA;rw[VX ha];rfl
 have h1:szU (cvR r).qi=szA r.qi:=e _ h.1;rw[h1]
 congr 1
 refine C7 fun b hb=>?_
 exact e b.qg (h.2.2.1 b hb)
theorem qmp (l:LN) (facts:LG):VU ((l.take 12).map cvR) ((facts.take 26).map cvF)↔VR l facts:=by
 have key:l.length<=10->facts.length<=20->(VU (l.map cvR) (facts.map cvF)↔VR l facts):=by
  intro h1 h2
  have hok:(∀ r,r∈l.map cvR->okU r)↔∀ r,r∈l->okR r:=by
   simp only[List.mem_map,forall_exists_index,and_imp,forall_apply_eq_imp_iff₂,qiN]
  have hgr:(∀ f,f∈facts.map cvF->groundP f)↔∀ f,f∈facts->groundP f:=by
   simp only[List.mem_map,forall_exists_index,and_imp,forall_apply_eq_imp_iff₂,qgP]
  unfold VU VR;rw[hok,hgr,C0,C0];constructor
  .rintro⟨_,_,h3,h4,h5⟩
   refine⟨h1,h2,h3,h4,?_⟩
   have e1:(facts.map cvF).map szF=facts.map szF:=by rw[D1];exact C7 fun f hf=>by simp[qlp (h3 f hf)]
   have e2:(l.map cvR).flatMap sizesU=l.flatMap sizesR:=by
    rw[List.flatMap_map];rw[D2,D2]
    congr 1
    exact C7 fun r hr=>qfW (h4 r hr)
   rw[e1,e2]at h5;exact h5
  rintro⟨_,_,h3,h4,h5⟩
  refine⟨h1,h2,h3,h4,?_⟩
  have e1:(facts.map cvF).map szF=facts.map szF:=by rw[D1];exact C7 fun f hf=>by simp[qlp (h3 f hf)]
  have e2:(l.map cvR).flatMap sizesU=l.flatMap sizesR:=by
   rw[List.flatMap_map];rw[D2,D2]
   congr 1
   exact C7 fun r hr=>qfW (h4 r hr)
  rw[e1,e2];exact h5
 by_cases h1:l.length<=10
 .by_cases h2:facts.length<=20
  .rw[A7 (by omega),A7 (by omega)];exact key h1 h2
  constructor
  .intro h;have:=h.2.1;simp at this;omega
  intro h;exact absurd h.2.1 h2
 constructor
 .intro h;have:=h.1;simp at this;omega
 intro h;exact absurd h.1 h1
theorem qju (hl:okRules l):∀ r,r∈(l.take 12).map cvR->smallU r:=by
 intro r hr;obtain⟨q,hq,rfl⟩:=List.mem_map.1 hr;obtain⟨h1,h2,h3⟩:=hl.2 q (D3 hq);refine⟨by simp[cvR];omega,fun a ha=>?_⟩
 rcases List.mem_cons.1 ha with rfl | ha
 .exact⟨by simp[cvR,cvA];omega,fun y hy=>h1.2.2 y (D3 hy)⟩
 obtain⟨y,hy,rfl⟩:=List.mem_map.1 ha;obtain⟨b,hb,rfl⟩:=List.mem_map.1 hy;exact⟨by simp[cvL,cvA];omega,fun y hy=>(h3 b (D3 hb)).2.2 y (D3 hy)⟩
theorem DN {fuel:Nat} (hf:4<=fuel) (hl:okRules l):Xp fuel ((l.take 12).map cvR) ((facts.take 26).map cvF)=some (decide (VR l facts)):=by
 rw[qhN hf (by simp;omega) (by simp;omega) (qju hl)]
 congr 1
 rw[decide_eq_decide];exact qmp l facts
structure Edge where
 h:Nat
 b:Nat
 d:Int
def Edge.ok (e:Edge):Prop:=e.h<6/\e.b<6/\0<=e.d/\e.d<=1
def stepE (v:LA) (e:Edge):LA:=v.set e.h (if v.getD e.b 0+e.d > v.getD e.h 0 then v.getD e.b 0+e.d else v.getD e.h 0)
def rndE (E:List Edge) (v:LA):LA:=E.foldl stepE v
def iterE (E:List Edge) (v:LA):Nat->LA
 | 0=>v
 | n+1=>iterE E (rndE E v) n
theorem XS (v:LA) (e:Edge):(stepE v e).length=v.length:=by simp[stepE]
theorem NW (E:List Edge):∀ v,(rndE E v).length=v.length:=by
 induction E with
 | nil=>intro v;rfl
 | cons e E ih=>intro v;rw[show rndE (e::E) v=rndE E (stepE v e) from rfl,ih,XS]
theorem UC (hv:v.length=6) {e:Edge} (he:e.ok) (i:Nat):(stepE v e).getD i 0=if i=e.h then (if v.getD e.b 0+e.d > v.getD e.h 0 then v.getD e.b 0+e.d else v.getD e.h 0) else v.getD i 0:=by
 unfold stepE;simp only[A4];by_cases hi:i=e.h
 .subst hi;rw[List.getElem?_set_self (by rw[hv];exact he.1),if_pos rfl];rfl
 rw[List.getElem?_set_ne (fun h=>hi h.symm),if_neg hi]
theorem Dm {w:LA} (hv:v.length=6) (hw:w.length=6) (h:∀ i,i<6->v.getD i 0=w.getD i 0):v=w:=by
 refine D8 (by rw[hv,hw]) fun i h1 h2=>?_
 have:=h i oM;rw[A4,A4,A8 h1,A8 h2]at this;exact this
theorem qcz (hv:v.length=6) {e:Edge} (he:e.ok) (i:Nat):v.getD i 0<=(stepE v e).getD i 0:=by
 rw[UC hv he];split
 .rename_i h;subst h;split <;> omega
 omega
theorem Db {E:List Edge} (hE:∀ e,e∈E->e.ok):∀ {v:LA},v.length=6->∀ i,v.getD i 0<=(rndE E v).getD i 0:=by
 induction E with
 | nil=>intro v hv i;exact D4 _
 | cons e E ih =>
  intro v hv i;have h1:=qcz hv (hE e (A0 ..)) i;have h2:=ih (fun f hf=>hE f (A1 _ hf)) (v:=stepE v e) (by rw[XS,hv]) i;exact Int.le_trans h1 h2
theorem qcJ {E:List Edge} (hE:∀ e,e∈E->e.ok):∀ {v:LA} {B:Int},v.length=6->0<=B->(∀ i,0<=v.getD i 0/\v.getD i 0<=B)->∀ i,0<=(rndE E v).getD i 0/\(rndE E v).getD i 0<=B+E.length:=by
 induction E with
 | nil=>intro v B hv hB h i;simpa[rndE] using h i
 | cons e E ih =>
  intro v B hv hB h i;have he:=hE e (A0 ..)
  have h1:∀ i,0<=(stepE v e).getD i 0/\(stepE v e).getD i 0<=B+1:=fun i=>by
   rw[UC hv he];have a:=h e.b;have b:=h e.h;have c:=h i;have:=he.2.2;split
   .split <;> omega
   omega
  have:=ih (fun f hf=>hE f (A1 _ hf)) (v:=stepE v e) (by rw[XS,hv]) oM h1 i;rw[A5];show 0<=(rndE E (stepE v e)).getD i 0/\(rndE E (stepE v e)).getD i 0<=_;omega
def preE (E:List Edge) (p:Nat->Int):Prop:=∀ e,e∈E->p e.b+e.d<=p e.h
theorem qkJ {E:List Edge} (hE:∀ e,e∈E->e.ok) {p:Nat->Int}:preE E p->∀ {v:LA},v.length=6->(∀ i,v.getD i 0<=p i)->∀ i,(rndE E v).getD i 0<=p i:=by
 induction E with
 | nil=>intro _ v _ h i;exact h i
 | cons e E ih =>
  intro hp v hv h i;have he:=hE e (A0 ..);refine ih (fun f hf=>hE f (A1 _ hf)) (fun f hf=>hp f (A1 _ hf)) (v:=stepE v e) (by rw[XS,hv]) (fun j=>?_) i;rw[UC hv he];have a:=h e.b;have b:=h e.h;have c:=hp e (A0 ..);split
  .rename_i hj;subst hj;split <;> omega
  exact h j
theorem qkK {E:List Edge} (hE:∀ e,e∈E->e.ok):∀ {v:LA},v.length=6->rndE E v=v->preE E (fun i=>v.getD i 0):=by
 induction E with
 | nil=>intro v _ _ e he;simp at he
 | cons e E ih =>
  intro v hv h;have he:=hE e (A0 ..)
  have hE':∀ f,f∈E->f.ok:=fun f hf=>hE f (A1 _ hf)
  have h1:rndE E (stepE v e)=v:=h
  have hs:stepE v e=v:=by
   refine Dm (by rw[XS,hv]) hv fun i _=>?_
   have a:=qcz hv he i;have b:=Db hE' (v:=stepE v e) (by rw[XS,hv]) i;rw[h1]at b;omega
  rw[hs]at h1;intro f hf
  rcases List.mem_cons.1 hf with rfl | hf
  .have:(stepE v f).getD f.h 0=v.getD f.h 0:=by rw[hs]
   show v.getD f.b 0+f.d<=v.getD f.h 0;rw[UC hv he,if_pos rfl]at this;split at this <;> omega
  exact ih hE' hv h1 f hf
def sum6 (v:LA):Int:=v.getD 0 0+v.getD 1 0+v.getD 2 0+v.getD 3 0+v.getD 4 0+v.getD 5 0
theorem qkI {E:List Edge} (hE:∀ e,e∈E->e.ok) (hv:v.length=6) (hne:rndE E v≠v):sum6 v+1<=sum6 (rndE E v):=by
 have h:=Db hE hv
 have:∃ i,i<6/\v.getD i 0≠(rndE E v).getD i 0:=by
  refine Classical.byContradiction fun hn=>hne (Dm (by rw[NW,hv]) hv fun i hi=>?_)
  refine Classical.byContradiction fun h2=>hn ⟨i,hi,fun e=>h2 e.symm⟩
 obtain⟨i,hi,hni⟩:=this;have a0:=h 0;have a1:=h 1;have a2:=h 2;have a3:=h 3;have a4:=h 4;have a5:=h 5;unfold sum6
 match i,hi with
 | 0,_ | 1,_ | 2,_ | 3,_ | 4,_ | 5,_=>omega
theorem pig:∀ (n:Nat) (l:LP),l.Nodup->(∀ x,x∈l->x<n)->l.length<=n
 | 0,l,_,h=>by
  cases l with
  | nil=>simp
  | cons a l=>exact absurd (h a (A0 ..)) oM
 | n+1,l,hn,h=>by
  have:=pig n (l.erase n) (hn.erase n) (fun x hx=>by
   have h1:=(hn.mem_erase_iff).1 hx;have h2:=h x h1.2;have:=h1.1
   omega)
  rw[List.length_erase]at this;split at this <;> omega
theorem qml {E:List Edge} (hv:v.length=6) (h0:∀ i,0<=v.getD i 0) (hpre:preE E (fun i=>v.getD i 0)) (hleast:∀ p:Nat->Int,(∀ i,0<=p i)->preE E p->∀ i,v.getD i 0<=p i) (hE:∀ e,e∈E->e.ok):∀ i,v.getD i 0<=5:=by
 intro j
 refine Classical.byContradiction fun hj=>?_
 have hj:6<=v.getD j 0:=by omega
 have hj6:j<6:=by
  refine Classical.byContradiction fun h=>?_
  rw[A4,E0 (by omega)]at hj;simp at hj
 have:∃ m:Int,0<=m/\m<=5/\∀ i,i<6->v.getD i 0≠m:=by
  refine Classical.byContradiction fun hn=>?_
  have hall:∀ m:Nat,m<6->∃ i,i<6/\v.getD i 0=(m:Int):=fun m hm=>by
   refine Classical.byContradiction fun h2=>hn ⟨m,by omega,by omega,fun i hi e=>h2 ⟨i,hi,e⟩⟩
  have hall7:∀ m:Nat,m<7->∃ i,i<6/\(if v.getD i 0<=5 then v.getD i 0 else 6)=(m:Int):=fun m hm=>by
   by_cases h6:m<6
   .obtain⟨i,hi,he⟩:=hall m h6;exact⟨i,hi,by rw[if_pos (by omega)];exact he⟩
   exact⟨j,hj6,by rw[if_neg (by omega)];omega⟩
  obtain⟨i0,q0,p0⟩:=hall7 0 oM;obtain⟨i1,q1,p1⟩:=hall7 1 oM;obtain⟨i2,q2,p2⟩:=hall7 2 oM;obtain⟨i3,q3,p3⟩:=hall7 3 oM;obtain⟨i4,q4,p4⟩:=hall7 4 oM;obtain⟨i5,q5,p5⟩:=hall7 5 oM;obtain⟨i6,q6,p6⟩:=hall7 6 oM
  have ne:∀ {a b:Nat} {x y:Nat},(if v.getD a 0<=5 then v.getD a 0 else 6)=(x:Int)->(if v.getD b 0<=5 then v.getD b 0 else 6)=(y:Int)->x≠y->a≠b:=fun h1 h2 h3 e=>by subst e;rw[h1]at h2;omega
  have:=pig 6 [i0,i1,i2,i3,i4,i5,i6] (by
   simp only[List.nodup_cons,A9,List.not_mem_nil,or_false,not_or,List.nodup_nil,and_true,not_false_eq_true]
   exact⟨⟨ne p0 p1 oM,ne p0 p2 oM,ne p0 p3 oM,ne p0 p4 oM,ne p0 p5 oM,ne p0 p6 oM⟩,⟨ne p1 p2 oM,ne p1 p3 oM,ne p1 p4 oM,ne p1 p5 oM,ne p1 p6 oM⟩,⟨ne p2 p3 oM,ne p2 p4 oM,ne p2 p5 oM,ne p2 p6 oM⟩,⟨ne p3 p4 oM,ne p3 p5 oM,ne p3 p6 oM⟩,⟨ne p4 p5 oM,ne p4 p6 oM⟩,ne p5 p6 oM⟩) (fun x hx=>by
   simp only[A9,List.not_mem_nil,or_false]at hx
   rcases hx with rfl | rfl | rfl | rfl | rfl | rfl | rfl <;> assumption)
  simp at this
 obtain⟨m,m0,m5,hm⟩:=this
 have hp:=hleast (fun i=>if v.getD i 0 > m then v.getD i 0 - 1 else v.getD i 0) (fun i=>by have:=h0 i;show 0<=(if v.getD i 0 > m then v.getD i 0 - 1 else v.getD i 0);split <;> omega) (fun e he=>by
  have h1:=hpre e he;have h2:=hm e.h (hE e he).1;have h3:=hm e.b (hE e he).2.1;have h4:=(hE e he).2.2;replace h1:v.getD e.b 0+e.d<=v.getD e.h 0:=h1;show (if v.getD e.b 0 > m then v.getD e.b 0 - 1 else v.getD e.b 0)+e.d<=(if v.getD e.h 0 > m then v.getD e.h 0 - 1 else v.getD e.h 0)
  split <;> split <;> omega) j
 replace hp:v.getD j 0<=(if v.getD j 0 > m then v.getD j 0 - 1 else v.getD j 0):=hp;rw[if_pos (by omega)]at hp;omega
def edgeOf (h b:Int) (n:Bool):Edge:=⟨h.toNat,b.toNat,if n then 1 else 0⟩
def edgesU (l:LH):List Edge:=l.flatMap fun r=>r.qe.map fun b=>edgeOf r.qi.qc b.qg.qc b.qw
def edgesR (l:LN):List Edge:=l.flatMap fun r=>r.qe.map fun b=>edgeOf r.qi.qc b.qg.qc b.qw
def rel6 (n:Int):Prop:=0<=n/\n<=5
def in6 (v:LA) (B:Int):Prop:=v.length=6/\∀ i,0<=v.getD i 0/\v.getD i 0<=B
theorem Zy {h b:Int} {n:Bool} (h1:rel6 h) (h2:rel6 b):(edgeOf h b n).ok:=by
 have:=h1.1;have:=h1.2;have:=h2.1;have:=h2.2
 refine⟨?_,?_,?_,?_⟩ <;> unfold edgeOf <;> dsimp only <;> first | omega | (split <;> omega)
theorem get6 (hv:in6 v B) (h:rel6 n):v[0+A6 n]? = some (v.getD n.toNat 0):=by
 have:=h.1;have:=h.2;rw[D0,A4,A8 (by rw[hv.1];omega)];rfl
theorem upd6 (hv:in6 v B) (h:rel6 n) (x:Int):upd v (0+A6 n) x=some (v.set n.toNat x):=by
 have:=h.1;have:=h.2;unfold upd;rw[D0,if_pos (by rw[hv.1];omega)]
theorem set6 (hv:in6 v B) {n:Nat}:v.set n (v.getD n 0)=v:=by
 refine D8 (by simp) fun i h1 h2=>?_
 rw[List.getElem_set];split
 .rename_i h;subst h;rw[A4,A8 h2];rfl
 rfl
theorem qgM (hv:in6 v B) (hB:0<=B) {e:Edge} (he:e.ok):in6 (stepE v e) (B+1):=by
 refine⟨by rw[XS,hv.1],fun i=>?_⟩;have:=qcJ (E:=[e]) (fun f hf=>by simp at hf;subst hf;exact he) hv.1 hB hv.2 i
 simpa[rndE] using this
theorem qkx {E:List Edge} (hE:∀ e,e∈E->e.ok) {e:Edge} (he:e.ok) (hv:v.length=6):rndE (e::E) v=v↔stepE v e=v/\rndE E v=v:=by
 have e1:rndE (e::E) v=rndE E (stepE v e):=rfl;constructor
 .intro h
  have hs:stepE v e=v:=by
   refine Dm (by rw[XS,hv]) hv fun i _=>?_
   have a:=qcz hv he i;have b:=Db hE (v:=stepE v e) (by rw[XS,hv]) i;rw[<- e1,h]at b;omega
  refine⟨hs,?_⟩;rw[e1,hs]at h;exact h
 rintro⟨h1,h2⟩
 rw[e1,h1,h2]
theorem DV (E F:List Edge) (v:LA):rndE (E++F) v=rndE F (rndE E v):=List.foldl_append ..
theorem qcI {E F:List Edge} (hE:∀ e,e∈E->e.ok) (hF:∀ e,e∈F->e.ok) (hv:v.length=6):rndE (E++F) v=v↔rndE E v=v/\rndE F v=v:=by
 rw[DV];constructor
 .intro h
  have hs:rndE E v=v:=by
   refine Dm (by rw[NW,hv]) hv fun i _=>?_
   have a:=Db hE hv i;have b:=Db hF (v:=rndE E v) (by rw[NW,hv]) i;rw[h]at b;omega
  refine⟨hs,?_⟩;rw[hs]at h;exact h
 rintro⟨h1,h2⟩
 rw[h1,h2]
theorem relDec (h:rel6 n):decide ((0:Int)<=n/\n<(((A6 6):Nat):Int))=true:=by
 have:=h.1;have:=h.2;refine dT ⟨by omega,?_⟩;rw[show (((A6 6):Nat):Int)=6 from rfl];omega
theorem qkE (x2:ruRule) (hx:rel6 x2.qi.qc) (K:LA->Bool->LZ):∀ (body:LQ) (k:Nat) (v:LA) (ch:Bool) (B:Int),(∀ b,b∈body->rel6 b.qg.qc)->in6 v B->0<=B->B+body.length<=1000000 ->
  ∃ c,jj x2 K body k v ch=K (rndE (body.map fun b=>edgeOf x2.qi.qc b.qg.qc b.qw) v) c/\(c=true↔ch=true\/rndE (body.map fun b=>edgeOf x2.qi.qc b.qg.qc b.qw) v≠v)
 | [],k,v,ch,B,_,_,_,_=>⟨ch,by rw[jj];rfl,by simp[rndE]⟩
 | b::body,k,v,ch,B,hb,hv,hB,hl=>by
  have hbb:=hb b (A0 ..)
  have hb':∀ c,c∈body->rel6 c.qg.qc:=fun c hc=>hb c (A1 _ hc)
  rw[A5]at hl;have he:=Zy (n:=b.qw) hx hbb
  have hE:∀ e,e∈body.map (fun b=>edgeOf x2.qi.qc b.qg.qc b.qw)->e.ok:=fun e h=>by
   obtain⟨c,hc,rfl⟩:=List.mem_map.1 h;exact Zy hx (hb' c hc)
  have hs:=qgM hv hB he
  have key:∀ w:Int,w=v.getD b.qg.qc.toNat 0+(edgeOf x2.qi.qc b.qg.qc b.qw).d->∃ c,Xt x2 v ch (Qj (jj x2 K body (k+1))) w=K (rndE ((b::body).map fun b=>edgeOf x2.qi.qc b.qg.qc b.qw) v) c/\(c=true↔ch=true\/rndE ((b::body).map fun b=>edgeOf x2.qi.qc b.qg.qc b.qw) v≠v):=fun w hw=>by
   unfold Xt Qj;rw[NH (relDec hx),get6 hv hx];simp only[A3];rw[B1];by_cases hgt:w > v.getD x2.qi.qc.toNat 0
   .rw[dT hgt,cT,NH (relDec hx),upd6 hv hx];simp only[A3]
    have es:v.set x2.qi.qc.toNat w=stepE v (edgeOf x2.qi.qc b.qg.qc b.qw):=by
     show _=v.set x2.qi.qc.toNat (if v.getD b.qg.qc.toNat 0+_ > v.getD x2.qi.qc.toNat 0 then _ else _);rw[if_pos (by rw[<- hw];exact hgt),hw];rfl
    rw[es];obtain⟨c,h1,h2⟩:=qkE x2 hx K body (k+1) (stepE v (edgeOf x2.qi.qc b.qg.qc b.qw)) true (B+1) hb' hs oM oM;refine⟨c,h1,?_⟩;have hc:c=true:=h2.2 (.inl rfl);refine⟨fun _=>.inr fun hf=>?_,fun _=>hc⟩;have hf:=((qkx hE he hv.1).1 hf).1;have:=congrArg (fun z=>z.getD x2.qi.qc.toNat 0) hf;replace this:(stepE v (edgeOf x2.qi.qc b.qg.qc b.qw)).getD x2.qi.qc.toNat 0=v.getD x2.qi.qc.toNat 0:=this;rw[UC hv.1 he,if_pos (show x2.qi.qc.toNat=(edgeOf x2.qi.qc b.qg.qc b.qw).h from rfl)]at this;replace this:(if v.getD b.qg.qc.toNat 0+(edgeOf x2.qi.qc b.qg.qc b.qw).d > v.getD x2.qi.qc.toNat 0 then v.getD b.qg.qc.toNat 0+(edgeOf x2.qi.qc b.qg.qc b.qw).d else v.getD x2.qi.qc.toNat 0)=v.getD x2.qi.qc.toNat 0:=this;rw[<- hw,if_pos hgt]at this;omega
   rw[dF hgt,cN]
   have es:stepE v (edgeOf x2.qi.qc b.qg.qc b.qw)=v:=by
    show v.set x2.qi.qc.toNat (if v.getD b.qg.qc.toNat 0+_ > v.getD x2.qi.qc.toNat 0 then _ else _)=v;rw[if_neg (by rw[<- hw];exact hgt)];exact set6 hv
   obtain⟨c,h1,h2⟩:=qkE x2 hx K body (k+1) v ch B hb' hv hB oM;refine⟨c,?_,?_⟩
   .rw[h1];show _=K (rndE _ (stepE v _)) c;rw[es]
   rw[h2];show _↔ch=true\/rndE _ (stepE v _)≠v;rw[es]
  rw[jj,NH (relDec hbb),get6 hv hbb];simp only[A3];have hg:=hv.2 b.qg.qc.toNat
  cases hn:b.qw with
  | true =>
   rw[cT]
   have hw:D5 .i64 (v.getD b.qg.qc.toNat 0+1)=v.getD b.qg.qc.toNat 0+(edgeOf x2.qi.qc b.qg.qc b.qw).d:=by
    rw[wrap64 (by omega) (by omega),hn];rfl
   have:=key _ hw;rw[B1,hn]at this;rw[B1,hn];exact this
  | false =>
   rw[cN]
   have hw:v.getD b.qg.qc.toNat 0=v.getD b.qg.qc.toNat 0+(edgeOf x2.qi.qc b.qg.qc b.qw).d:=by
    rw[hn];show _=_+(0:Int);omega
   have:=key _ hw;rw[B1,hn]at this;rw[B1,hn];exact this
theorem qme (x2:rf3Rule) (hx:rel6 x2.qi.qc) (K:LA->Ld):∀ (body:Lq) (k:Nat) (v:LA) (B:Int),(∀ b,b∈body->rel6 b.qg.qc)->in6 v B->0<=B->B+body.length<=1000000 ->
  QP x2 K body k v=K (rndE (body.map fun b=>edgeOf x2.qi.qc b.qg.qc b.qw) v)
 | [],k,v,B,_,_,_,_=>by rw[QP];rfl
 | b::body,k,v,B,hb,hv,hB,hl=>by
  have hbb:=hb b (A0 ..)
  have hb':∀ c,c∈body->rel6 c.qg.qc:=fun c hc=>hb c (A1 _ hc)
  rw[A5]at hl;have he:=Zy (n:=b.qw) hx hbb;have hs:=qgM hv hB he
  have key:∀ w:Int,w=v.getD b.qg.qc.toNat 0+(edgeOf x2.qi.qc b.qg.qc b.qw).d->YX x2 v (QP x2 K body (k+1)) w=K (rndE ((b::body).map fun b=>edgeOf x2.qi.qc b.qg.qc b.qw) v):=fun w hw=>by
   unfold YX;rw[NH (relDec hx),get6 hv hx];simp only[A3];rw[NH (relDec hx),upd6 hv hx];simp only[A3];rw[hw];exact qme x2 hx K body (k+1) (stepE v (edgeOf x2.qi.qc b.qg.qc b.qw)) (B+1) hb' hs oM oM
  rw[QP,NH (relDec hbb),get6 hv hbb];simp only[A3];have hg:=hv.2 b.qg.qc.toNat
  cases hn:b.qw with
  | true =>
   rw[cT]
   have hw:D5 .i64 (v.getD b.qg.qc.toNat 0+1)=v.getD b.qg.qc.toNat 0+(edgeOf x2.qi.qc b.qg.qc b.qw).d:=by
    rw[wrap64 (by omega) (by omega),hn];rfl
   exact key _ hw
  | false =>
   rw[cN]
   have hw:v.getD b.qg.qc.toNat 0=v.getD b.qg.qc.toNat 0+(edgeOf x2.qi.qc b.qg.qc b.qw).d:=by
    rw[hn];show _=_+(0:Int);omega
   exact key _ hw
def relsU (l:LH):Prop:=∀ r,r∈l->rel6 r.qi.qc/\r.qe.length<=3/\∀ b,b∈r.qe->rel6 b.qg.qc
def relsR (l:LN):Prop:=∀ r,r∈l->rel6 r.qi.qc/\r.qe.length<=3/\∀ b,b∈r.qe->rel6 b.qg.qc
theorem qeQ {l:LH} (h:relsU l):∀ e,e∈edgesU l->e.ok:=fun e he=>by
 obtain⟨r,hr,he⟩:=List.mem_flatMap.1 he;obtain⟨b,hb,rfl⟩:=List.mem_map.1 he;exact Zy (h r hr).1 ((h r hr).2.2 b hb)
theorem qeR (h:relsR l):∀ e,e∈edgesR l->e.ok:=fun e he=>by
 obtain⟨r,hr,he⟩:=List.mem_flatMap.1 he;obtain⟨b,hb,rfl⟩:=List.mem_map.1 he;exact Zy (h r hr).1 ((h r hr).2.2 b hb)
theorem qin {l:LH} (h:relsU l):(edgesU l).length<=3 * l.length:=by
 induction l with
 | nil=>simp[edgesU]
 | cons r l ih =>
  have:=ih fun q hq=>h q (A1 _ hq)
  have h1:=(h r (A0 ..)).2.1;have e:edgesU (r::l)=(r.qe.map fun b=>edgeOf r.qi.qc b.qg.qc b.qw)++edgesU l:=rfl;rw[e,List.length_append,C0,A5];omega
theorem qio (h:relsR l):(edgesR l).length<=3 * l.length:=by
 induction l with
 | nil=>simp[edgesR]
 | cons r l ih =>
  have:=ih fun q hq=>h q (A1 _ hq)
  have h1:=(h r (A0 ..)).2.1;have e:edgesR (r::l)=(r.qe.map fun b=>edgeOf r.qi.qc b.qg.qc b.qw)++edgesR l:=rfl;rw[e,List.length_append,C0,A5];omega
theorem qcn {E:List Edge} (hE:∀ e,e∈E->e.ok) (hv:in6 v B) (hB:0<=B):in6 (rndE E v) (B+E.length) :=
 ⟨by rw[NW,hv.1],qcJ hE hv.1 hB hv.2⟩
theorem qmb (K:LA->Bool->LZ):∀ (l:LH) (k:Nat) (v:LA) (ch:Bool) (B:Int),relsU l->in6 v B->0<=B->B+3 * l.length<=1000000 ->
  ∃ c,qR K l k v ch=K (rndE (edgesU l) v) c/\(c=true↔ch=true\/rndE (edgesU l) v≠v)
 | [],k,v,ch,B,_,_,_,_=>⟨ch,by rw[qR];rfl,by simp[rndE,edgesU]⟩
 | r::l,k,v,ch,B,hr,hv,hB,hl=>by
  have h1:=hr r (A0 ..)
  have hr':relsU l:=fun q hq=>hr q (A1 _ hq)
  rw[A5]at hl;rw[qR,NH (qy (by have:=h1.2.1;omega))]
  have hE:∀ e,e∈r.qe.map (fun b=>edgeOf r.qi.qc b.qg.qc b.qw)->e.ok:=fun e h=>by
   obtain⟨c,hc,rfl⟩:=List.mem_map.1 h;exact Zy h1.1 (h1.2.2 c hc)
  obtain⟨c,e1,e2⟩:=qkE r h1.1 (jG (qR K l (k+1))) r.qe 0 v ch B h1.2.2 hv hB (by have:=h1.2.1;omega);rw[e1];unfold jG;have hs:=qcn hE hv hB;rw[C0]at hs;obtain⟨d,e3,e4⟩:=qmb K l (k+1) _ c _ hr' hs oM (by have:=h1.2.1;omega);have e:edgesU (r::l)=(r.qe.map fun b=>edgeOf r.qi.qc b.qg.qc b.qw)++edgesU l:=rfl;refine⟨d,by rw[e3,e,DV],?_⟩;rw[e4,e2,e,show (rndE ((r.qe.map fun b=>edgeOf r.qi.qc b.qg.qc b.qw)++edgesU l) v≠v↔¬ (_/\_)) from not_congr (qcI hE (qeQ hr') hv.1)];by_cases hf:rndE (r.qe.map fun b=>edgeOf r.qi.qc b.qg.qc b.qw) v=v
  .rw[hf];simp
  simp[hf]
theorem qmf (K:LA->Ld):∀ (l:LN) (k:Nat) (v:LA) (B:Int),relsR l->in6 v B->0<=B->B+3 * l.length<=1000000 ->
  Yo K l k v=K (rndE (edgesR l) v)
 | [],k,v,B,_,_,_,_=>by rw[Yo];rfl
 | r::l,k,v,B,hr,hv,hB,hl=>by
  have h1:=hr r (A0 ..)
  have hr':relsR l:=fun q hq=>hr q (A1 _ hq)
  rw[A5]at hl
  have hE:∀ e,e∈r.qe.map (fun b=>edgeOf r.qi.qc b.qg.qc b.qw)->e.ok:=fun e h=>by
   obtain⟨c,hc,rfl⟩:=List.mem_map.1 h;exact Zy h1.1 (h1.2.2 c hc)
  have hs:=qcn hE hv hB;rw[C0]at hs;rw[Yo,NH (qy (by have:=h1.2.1;omega)),qme r h1.1 _ r.qe 0 v B h1.2.2 hv hB (by have:=h1.2.1;omega)];unfold NZ;rw[qmf K l (k+1) _ _ hr' hs (by omega) (by have:=h1.2.1;omega),<- DV];rfl
theorem VO (E:List Edge):∀ (n:Nat) (v:LA),iterE E v (n+1)=rndE E (iterE E v n)
 | 0,v=>rfl
 | n+1,v=>by
  show iterE E (rndE E v) (n+1)=_;rw[VO E n];rfl
theorem qmg (l:LN) (K:LA->Ld) (hl:l.length<=10) (hr:relsR l):∀ (L:LP) (k:Nat) (v:LA) (B:Int),in6 v B->0<=B->B+30 * L.length<=1000 * 1000 - 30 ->
  Yp l K L k v=K (iterE (edgesR l) v L.length)
 | [],k,v,B,_,_,_=>by rw[Yp];rfl
 | x::L,k,v,B,hv,hB,hb=>by
  rw[A5]at hb;have hs:=qcn (qeR hr) hv hB;have hlen:=qio hr;rw[Yp,NH (qy (by omega)),qmf _ l 0 v B hr hv hB (by omega)];unfold DC;rw[qmg l K hl hr L (k+1) _ _ hs (by omega) (by omega)];rfl
theorem qkX {l:LA} (hlen:l.length<=1000):∀ (n k m:Nat) (v:Int),k+n=l.length->n+1<=m->∃ M,jF l JP m v (k:Int)=some M/\v<=M/\(M=v\/M∈l)/\∀ i (h:i<l.length),k<=i->l[i]<=M
  | 0,k,m+1,v,hk,hm=>by
    refine⟨v,?_,D4 _,.inl rfl,fun i h1 h2=>absurd h1 oM⟩;rw[jF,dF (by omega)];rfl
  | n+1,k,m+1,v,hk,hm=>by
    have hkl:k<l.length:=by omega
    have hi:idx l (k:Int)=some l[k]:=by
      unfold idx;simp[hkl]
    obtain⟨M,h1,h2,h3,h4⟩:=qkX hlen n (k+1) m (if l[k] > v then l[k] else v) oM oM
    have e:D5 .i64 ((k:Int)+1)=((k+1:Nat):Int):=by rw[wrap64 (by omega) (by omega)];omega
    refine⟨M,?_,?_,?_,fun i g1 g2=>?_⟩
    . rw[jF,dT (by omega:(k:Int)<(l.length:Int)),cT,hi]
      simp only[A3];rw[e];exact h1
    . split at h2 <;> omega
    . rcases h3 with h3 | h3
      . split at h3
        . exact .inr (by rw[h3];exact List.getElem_mem _)
        . exact .inl h3
      . exact .inr h3
    . by_cases hik:i=k
      . subst hik
        split at h2 <;> omega
      . exact h4 i g1 oM
theorem qcT {fuel:Nat} (hf:10<=fuel) {l:LA} (h6:l.length=6):∃ M,JW fuel l=some M/\M∈l/\∀ i,i<6->l.getD i 0<=M:=by
  have hi:idx l 0=some l[0]:=by
    unfold idx;simp[h6]
  obtain⟨M,h1,h2,h3,h4⟩:=qkX (l:=l) oM 5 1 fuel l[0] oM oM;refine⟨M,?_,?_,fun i hi6=>?_⟩
  . unfold JW
    rw[dF (by omega),cN,hi];exact h1
  . rcases h3 with h3 | h3
    . rw[h3];exact List.getElem_mem _
    . exact h3
  . rw[A4,A8 (by omega)]
    show l[i]<=M;by_cases h0:i=0
    . subst h0;exact h2
    . exact h4 i oM oM
theorem snap6 (h:v.length=6):snap 0 (A6 6) v=v:=by
  unfold snap;rw[show A6 6=6 from rfl,List.drop_zero];exact A7 oM
theorem qaJ (E:List Edge):∀ (n:Nat) (v:LA),(iterE E v n).length=v.length
  | 0,v=>rfl
  | n+1,v=>by rw[VO,NW,qaJ E n]
theorem qiY {E:List Edge} (hE:∀ e,e∈E->e.ok) {v:LA} (hv:v.length=6) {s:Nat}:∀ (t:Nat),s<=t->∀ i,(iterE E v s).getD i 0<=(iterE E v t).getD i 0
  | 0,h,i=>by
    have:s=0:=by omega
    subst this;exact D4 _
  | t+1,h,i=>by
    by_cases hs:s=t+1
    . subst hs;exact D4 _
    . have h1:=qiY hE hv (s:=s) t oM i
      have h2:=Db hE (v:=iterE E v t) (by rw[qaJ,hv]) i;rw[VO];omega
theorem qgH {E:List Edge} {v:LA} {s:Nat} (hs:rndE E (iterE E v s)=iterE E v s):∀ (t:Nat),s<=t->iterE E v t=iterE E v s
  | 0,h=>by
    have:s=0:=by omega
    subst this;rfl
  | t+1,h=>by
    by_cases he:s=t+1
    . subst he;rfl
    . rw[VO,qgH hs t (by omega),hs]
theorem qgG {E:List Edge} (hE:∀ e,e∈E->e.ok) {p:Nat->Int} (hp:preE E p) {v:LA} (hv:v.length=6) (h:∀ i,v.getD i 0<=p i):∀ (n:Nat) (i:Nat),(iterE E v n).getD i 0<=p i
  | 0,i=>h i
  | n+1,i=>by
    rw[VO];exact qkJ hE hp (by rw[qaJ,hv]) (qgG hE hp hv h n) i
theorem qlM (h:in6 v 6):sum6 v<=36:=by
  have:=h.2 0;have:=h.2 1;have:=h.2 2;have:=h.2 3;have:=h.2 4;have:=h.2 5;unfold sum6;omega
theorem qmn {C:Int} (h:in6 v B) (hC:0<=C) (hm:∀ i,i<6->v.getD i 0<=C):in6 v C:=by
  refine⟨h.1,fun i=>⟨(h.2 i).1,?_⟩⟩;by_cases hi:i<6
  . exact hm i hi
  . rw[A4,E0 (by rw[h.1];omega)]
    exact hC
theorem qmc {fuel:Nat} (hf:10<=fuel) {l:LH} (hl:l.length<=10) (hr:relsU l):∀ (d m:Nat) (v:LA) (c:Nat),in6 v 6->37<=sum6 v+d->d<=m->c+d<=100 ->
    ∃ t,t<=d/\((qD fuel l m v (c:Int)=some (iterE (edgesU l) v t,true)/\rndE (edgesU l) (iterE (edgesU l) v t)=iterE (edgesU l) v t/\in6 (iterE (edgesU l) v t) 6)\/(qD fuel l m v (c:Int)=some ([],false)/\∃ i,i<6/\(iterE (edgesU l) v t).getD i 0 > 6))
  | 0,m,v,c,hv,hs,hm,hc=>by have:=qlM hv;omega
  | d+1,0,v,c,hv,hs,hm,hc=>by omega
  | d+1,m+1,v,c,hv,hs,hm,hc=>by
    have hE:=qeQ hr;have hlen:=qin hr;obtain⟨ch,h1,h2⟩:=qmb (qO fuel (c:Int) (qD fuel l m)) l 0 v false 6 hr hv oM oM;have hw:=qcn hE hv oM
    have e0:qD fuel l (m+1) v (c:Int)=qO fuel (c:Int) (qD fuel l m) (rndE (edgesU l) v) ch:=by
      rw[qD,NH (qy (by omega)),h1]
    rw[e0];unfold qO;rw[snap6 hw.1];by_cases hfix:rndE (edgesU l) v=v
    . have:ch=false:=by
        cases ch with
        | false=>rfl
        | true =>
         rcases h2.1 rfl with h | h
         . cases h
         . exact absurd hfix h
      rw[this];refine⟨0,by omega,.inl ⟨?_,hfix,hv⟩⟩;show some (rndE (edgesU l) v,true)=some (v,true);rw[hfix]
    . have:ch=true:=h2.2 (.inr hfix)
      rw[this];simp only[D7,cN];obtain⟨M,m1,m2,m3⟩:=qcT hf hw.1;rw[m1];simp only[A3];by_cases hM:M > 6
      . rw[dT hM,cT]
        refine⟨1,by omega,.inr ⟨rfl,?_⟩⟩;obtain⟨i,hi,he⟩:=List.getElem_of_mem m2;refine⟨i,by rw[<- hw.1];exact hi,?_⟩;show (rndE (edgesU l) v).getD i 0 > 6;rw[A4,A8 hi];show (rndE (edgesU l) v)[i] > 6;omega
      . rw[dF hM,cN]
        have hw6:in6 (rndE (edgesU l) v) 6:=qmn hw oM fun i hi=>by have:=m3 i hi;omega
        have hsum:=qkI hE hv.1 hfix
        have ec:D5 .i64 ((c:Int)+1)=((c+1:Nat):Int):=by rw[wrap64 (by omega) (by omega)];omega
        rw[ec];obtain⟨t,ht,h⟩:=qmc hf hl hr d m (rndE (edgesU l) v) (c+1) hw6 oM oM oM;exact⟨t+1,by omega,h⟩
theorem qmd {v:LA} (hv:v.length=6) (K:Ld):∀ (L:LP) (k:Nat),k+L.length=6->Yn v K L k=if ∃ i,k<=i/\i<6/\v.getD i 0 > 5 then some ([],8) else K
  | [],k,h=>by
    rw[Yn,if_neg]
    rintro⟨i,h1,h2,_⟩
    simp at h;omega
  | x::L,k,h=>by
    rw[A5]at h
    have hk:v[0+A6 (k:Int)]? = some (v.getD k 0):=by
      rw[D0,Int.toNat_natCast,A4,A8 (by omega)];rfl
    rw[Yn,NH (dT ⟨by omega,by rw[show (((A6 6):Nat):Int)=6 from rfl];omega⟩),hk];simp only[A3];by_cases h5:v.getD k 0 > 5
    . rw[dT h5,cT,if_pos ⟨k,by omega,by omega,h5⟩]
      rfl
    . rw[dF h5,cN,qmd hv K L (k+1) (by omega)]
      by_cases hq:∃ i,k+1<=i/\i<6/\v.getD i 0 > 5
      . rw[if_pos hq]
        obtain⟨i,a,b,c⟩:=hq;rw[if_pos ⟨i,by omega,b,c⟩]
      . rw[if_neg hq,if_neg]
        rintro⟨i,a,b,c⟩
        by_cases hik:i=k
        . subst hik;exact h5 c
        . exact hq ⟨i,by omega,b,c⟩
theorem qdJ (hl:l.length<=10) (hr:relsR l):VH l=if ∃ i,i<6/\(iterE (edgesR l) (A2 6 0) 60).getD i 0 > 5 then some ([],8) else some (iterE (edgesR l) (A2 6 0) 60,0):=by
  have h0:in6 (A2 6 (0:Int)) 0:=⟨by simp,fun i=>by
    rw[A4,D9]
    split <;> simp⟩
  unfold VH;rw[NH (by decide),NH (qy (by simp)),show (A2 (A6 6) (0:Int))=A2 6 0 from rfl,qmg l _ hl hr _ 0 _ 0 h0 (by omega) (by simp)];rw[show (List.range (A6 60)).length=60 by simp]
  have hlen:(iterE (edgesR l) (A2 6 0) 60).length=6:=by rw[qaJ];simp
  unfold DE;rw[NH (qy (by simp)),qmd hlen _ _ 0 (by simp)];unfold NY;rw[snap6 hlen]
  congr 1
  simp
theorem qbF {fuel:Nat} (hf:100<=fuel) {lu:LH} (hl:l.length<=10) (hlu:lu.length<=10) (hr:relsR l) (hu:relsU lu) (he:edgesU lu=edgesR l) :
    (∃ v,in6 v 5/\preE (edgesR l) (fun i=>v.getD i 0)/\VH l=some (v,0)/\XU fuel lu=some (v,true))\/(VH l=some ([],8)/\XU fuel lu=some ([],false)):=by
  have h0:in6 (A2 6 (0:Int)) 6:=⟨by simp,fun i=>by
    rw[A4,D9]
    split <;> simp⟩
  have hE:=qeR hr
  have eu:XU fuel lu=qD fuel lu fuel (A2 6 0) ((0:Nat):Int):=by
    unfold XU;rw[NH (by decide)];rfl
  obtain⟨t,ht,h⟩:=qmc (by omega:10<=fuel) hlu hu 37 fuel (A2 6 0) 0 h0 (by rw[show sum6 (A2 6 0)=0 from rfl];omega) oM oM;rw[he]at h;rw[eu,qdJ hl hr]
  rcases h with ⟨h1,h2,h3⟩ | ⟨h1,i,h2,h3⟩
  . left
    rw[qgH h2 60 (by omega)];have hpre:=qkK hE h3.1 h2
    have h5:=qml h3.1 (fun i=>(h3.2 i).1) hpre (fun p p0 hp i=>qgG hE hp (by simp) (fun i=>by
      have:=p0 i;rw[A4,D9]
      split <;> simpa) t i) hE
    refine⟨_,⟨h3.1,fun i=>⟨(h3.2 i).1,h5 i⟩⟩,hpre,?_,h1⟩;rw[if_neg]
    rintro⟨i,hi,hg⟩
    have:=h5 i;omega
  . right
    refine⟨?_,h1⟩;have:=qiY hE (v:=A2 6 0) (by simp) 60 (show t<=60 by omega) i;rw[if_pos ⟨i,h2,by omega⟩]
end Go.AM
namespace Go
open AM
abbrev Lo:=List Edge
end Go
namespace Go.AM
open Go.Proofs
open Classical
variable {f:rufact} {n:Nat} {v:LA} {x:Int} {a:qo}
structure okU1 (f:rufact):Prop where
 r0:0<=f.qn
 r5:f.qn<=5
 a1:1<=f.f_a
 a6:f.f_a<=6
 b0:0<=f.f_b
 b6:f.f_b<=6
def argsF (f:rufact):LA:=if f.f_b=0 then [f.f_a] else [f.f_a,f.f_b]
def codeF (f:rufact):Nat:=(f.qn * 42+(if f.f_b=0 then f.f_a - 1 else f.f_a * 6+f.f_b - 1)).toNat
def decF (n:Nat):rufact:=if n % 42<6 then ⟨(n / 42:Nat),(n % 42+1:Nat),0⟩ else ⟨(n / 42:Nat),(n % 42 / 6:Nat),(n % 42 % 6+1:Nat)⟩
theorem QM (h:okU1 f):codeF f<252:=by
 have:=h.r0;have:=h.r5;have:=h.a1;have:=h.a6;have:=h.b0;have:=h.b6;unfold codeF;split <;> omega
theorem qlZ (h:n<252):okU1 (decF n):=by
 unfold decF;split <;> refine⟨?_,?_,?_,?_,?_,?_⟩ <;> simp only <;> omega
theorem qdp (h:okU1 f):decF (codeF f)=f:=by
 have:=h.r0;have:=h.r5;have:=h.a1;have:=h.a6;have:=h.b0;have:=h.b6;obtain⟨r,a,b⟩:=f;simp only at *;unfold decF codeF;simp only;by_cases hb:b=0
 .subst hb;rw[if_pos rfl]
  have e1:(r * 42+(a - 1)).toNat % 42=(a - 1).toNat:=by omega
  have e2:(r * 42+(a - 1)).toNat / 42=r.toNat:=by omega
  rw[if_pos (by omega),e1,e2]
  congr 1 <;> omega
 rw[if_neg hb]
 have e1:(r * 42+(a * 6+b - 1)).toNat % 42=(a * 6+b - 1).toNat:=by omega
 have e2:(r * 42+(a * 6+b - 1)).toNat / 42=r.toNat:=by omega
 rw[if_neg (by omega),e1,e2]
 congr 1 <;> omega
theorem qls (h:n<252):codeF (decF n)=n:=by
 unfold decF;split
 .unfold codeF;simp only;rw[if_pos trivial];omega
 unfold codeF;simp only;rw[if_neg (by omega)];omega
theorem UV {g:rufact} (hf:okU1 f) (hg:okU1 g) (h:codeF f=codeF g):f=g:=by
 rw[<- qdp hf,<- qdp hg,h]
theorem qdr (h:okU1 f):QW f.qn (argsF f)=some (codeF f:Int):=by
 have:=h.r0;have:=h.r5;have:=h.a1;have:=h.a6;have:=h.b0;have:=h.b6;unfold QW argsF codeF;by_cases hb:f.f_b=0
 .rw[if_pos hb,if_pos hb];show some _=some _;rw[wrap64 (n:=f.qn * 42) (by omega) (by omega),wrap64 (n:=f.qn * 42+f.f_a) (by omega) (by omega),wrap64 (by omega) (by omega)]
  congr 1;omega
 rw[if_neg hb,if_neg hb];show some _=some _;rw[wrap64 (n:=f.qn * 42) (by omega) (by omega),wrap64 (n:=f.f_a * 6) (by omega) (by omega),wrap64 (n:=f.qn * 42+f.f_a * 6) (by omega) (by omega),wrap64 (n:=f.qn * 42+f.f_a * 6+f.f_b) (by omega) (by omega),wrap64 (by omega) (by omega)]
 congr 1;omega
theorem Vz (f:rufact):apiF f=⟨f.qn,argsF f⟩:=by
 unfold apiF argsF;split <;> rfl
theorem qlD (h:n<252):qcK (n:Int)=some (apiF (decF n)):=by
 have e1:(n:Int).tmod 42=((n % 42:Nat):Int):=by
  rw[E7 (by omega)];omega
 have e2:(n:Int).tdiv 42=((n / 42:Nat):Int):=by
  rw[E8 (by omega)];omega
 unfold qcK;rw[e1,e2]
 have e3:((n % 42:Nat):Int).tdiv 6=((n % 42 / 6:Nat):Int):=by
  rw[E8 (by omega)];omega
 have e4:((n % 42:Nat):Int).tmod 6=((n % 42 % 6:Nat):Int):=by
  rw[E7 (by omega)];omega
 rw[e3,e4,wrap64 (n:=((n / 42:Nat):Int)) (by omega) (by omega),wrap64 (n:=((n % 42 / 6:Nat):Int)) (by omega) (by omega),wrap64 (n:=((n % 42 % 6:Nat):Int)+1) (by omega) (by omega),wrap64 (n:=((n % 42:Nat):Int)+1) (by omega) (by omega)];unfold decF apiF;by_cases h6:n % 42<6
 .rw[dF (by omega),cN,if_pos h6];show _=some (if (0:Int)=0 then _ else _);rw[if_pos rfl];rfl
 rw[dT (by omega),cT,if_neg h6];show _=some (if ((n % 42 % 6+1:Nat):Int)=0 then _ else _);rw[if_neg (by omega)];rfl
theorem qlU:VG (apiF f)=some f:=by
 obtain⟨r,a,b⟩:=f;unfold apiF VG;by_cases hb:b=0
 .subst hb;rfl
 rw[if_neg hb];rfl
def fitA:LA->LA->LA->Option LA
 | v,[],_=>some v
 | v,_::_,[]=>none
 | v,x::xs,e::es=>if x<0 then (if 0 - x=e then fitA v xs es else none) else if v.getD x.toNat 0≠0/\v.getD x.toNat 0≠e then none else fitA (v.set x.toNat e) xs es
def arg7 (args:LA):Prop:=∀ x,x∈args -> -6<=x/\x<=7
theorem qaO:∀ {v xs es u:LA},fitA v xs es=some u->u.length=v.length
 | v,[],es,u,h=>by cases h;rfl
 | v,x::xs,[],u,h=>by cases h
 | v,x::xs,e::es,u,h=>by
  unfold fitA at h;split at h
  .split at h
   .exact qaO h
   cases h
  split at h
  .cases h
  rw[qaO h,List.length_set]
theorem get8 (hv:v.length=8) (h0:0<=x) (h7:x<=7):v[0+A6 x * 1]? = some (v.getD x.toNat 0):=by
 rw[D0,Nat.mul_one,A4,A8 (by omega)];rfl
theorem dec8 (h0:0<=x) (h7:x<=7):decide ((0:Int)<=x/\x<((8:Nat):Int)/\0<1)=true:=dT ⟨h0,by omega,by omega⟩
theorem set8 {e:Int} (h:v.getD n 0=e):v.set n e=v:=by
 refine D8 (by simp) fun i h1 h2=>?_
 rw[List.getElem_set];split
 .rename_i hi;subst hi;rw[<- h,A4,A8 h2];rfl
 rfl
theorem qdk (f:rufact) (a:qo) (hrel:(a.qc == f.qn)=true):∀ (args:LA) (k:Nat) (v:LA),arg7 args->k+args.length<=2->v.length=8 ->
  match fitA v args (([f.f_a,f.f_b]:LA).drop k) with
  | some u=>qq f (qu a f) args k v (A2 8 0)=some (u,true)
  | none=>∃ u,qq f (qu a f) args k v (A2 8 0)=some (u,false)
 | [],k,v,_,_,hv=>by
  rw[fitA];show qq f (qu a f) [] k v (A2 8 0)=_;rw[qq];unfold qu;rw[NH (dT hv),NH (dT ⟨hv,by simp⟩),NH (dT hv),hrel]
 | x::args,k,v,ha,hk,hv=>by
  rw[A5]at hk;have hx:=ha x (A0 ..)
  have ha':arg7 args:=fun y hy=>ha y (A1 _ hy)
  obtain⟨e,he,hd⟩:∃ e,([f.f_a,f.f_b]:LA)[A6 (k:Int) * 1]? = some e/\([f.f_a,f.f_b]:LA).drop k=e::([f.f_a,f.f_b]:LA).drop (k+1):=by
   match k,hk with
   | 0,_=>exact⟨f.f_a,rfl,rfl⟩
   | 1,_=>exact⟨f.f_b,rfl,rfl⟩
   | k+2,hk=>omega
  rw[qq,NH (dT ⟨by omega,by omega⟩),he,hd];simp only[A3];unfold fitA;by_cases hneg:x<0
  .rw[dT hneg,cT,if_pos hneg,dF (show ¬ x >= 0 by omega),cN,wrap64 (by omega) (by omega)];by_cases hq:0 - x=e
   .rw[if_pos hq,show ((0 - x) != e)=false by rw[hq];exact bne_self_eq_false ..,  cN];unfold qx qB;rw[cN,dF (show ¬ x >= 0 by omega),cN];exact qdk f a hrel args (k+1) v ha' oM hv
   rw[if_neg hq,show ((0 - x) != e)=true from bne_iff_ne.2 hq,cT];unfold qx;rw[cT,NH (dT hv),NH (dT ⟨hv,by simp⟩),NH (dT hv)];exact⟨_,rfl⟩
  rw[dF hneg,cN,if_neg hneg,dT (show x >= 0 by omega),cT,NH (dec8 (by omega) hx.2),get8 hv (by omega) hx.2];simp only[A3]
  have go:qx x v (A2 8 0) e (qB (A2 8 0) (qq f (qu a f) args (k+1))) false=qq f (qu a f) args (k+1) (v.set x.toNat e) (A2 8 0):=by
   unfold qx qB;rw[cN,dT (show x >= 0 by omega),cT,NH (dec8 (by omega) hx.2),NH (dT (by omega)),D0,Nat.mul_one]
  have hrec:=qdk f a hrel args (k+1) (v.set x.toNat e) ha' oM (by rw[List.length_set,hv]);by_cases hz:v.getD x.toNat 0=0
  .rw[show (v.getD x.toNat 0 != 0)=false by simp only[hz,bne_self_eq_false],cN,go,if_neg (fun h=>h.1 hz)];exact hrec
  rw[show (v.getD x.toNat 0 != 0)=true from bne_iff_ne.2 hz,cT,NH (dec8 (by omega) hx.2)];by_cases hq:v.getD x.toNat 0=e
  .rw[show (v.getD x.toNat 0 != e)=false by simp only[hq,bne_self_eq_false],go,if_neg (fun h=>h.2 hq)];exact hrec
  rw[show (v.getD x.toNat 0 != e)=true from bne_iff_ne.2 hq,if_pos ⟨hz,hq⟩];unfold qx;rw[cT,NH (dT hv),NH (dT ⟨hv,by simp⟩),NH (dT hv)];exact⟨_,rfl⟩
theorem qjZ (hrel:a.qc=f.qn) (hv:v.length=8) (ha:arg7 a.qa) (hl:a.qa.length<=2) :
  ∃ p,jn v a f=some p/\(p.2=true↔(fitA v a.qa [f.f_a,f.f_b]).isSome=true)/\∀ u,fitA v a.qa [f.f_a,f.f_b]=some u->p.1=u:=by
 have h:=qdk f a (by simp[hrel]) a.qa 0 v ha oM hv
 have e:jn v a f=qq f (qu a f) a.qa 0 v (A2 8 0):=by
  unfold jn;rw[NH (by cases v <;> simp_all),NH (qy (by omega))]
 rw[List.drop_zero]at h;rw[e]
 cases hf:fitA v a.qa [f.f_a,f.f_b] with
 | some u =>
  rw[hf]at h;exact⟨_,h,by simp,fun w hw=>by cases hw;rfl⟩
 | none =>
  rw[hf]at h;obtain⟨u,hu⟩:=h;exact⟨_,hu,by simp,fun w hw=>by cases hw⟩
def groundA (v args:LA):LA:=args.map fun x=>if x<0 then 0 - x else v.getD x.toNat 0
def mkF (rel:Int) (g:LA):rufact:=⟨rel,g.getD 0 0,g.getD 1 0⟩
def groundF (v:LA) (a:qo):rufact:=mkF a.qc (groundA v a.qa)
theorem XQ (hv:v.length=8) (ha:arg7 a.qa) (hl:a.qa.length<=2):qA v a=some (groundF v a):=by
 have step:∀ (x:Int) (r:LA) (k:Nat) (w:LA) (K:LA->Option rufact),-6<=x/\x<=7->k<2->w.length=2->qL v K (x::r) k w=qL v K r (k+1) (w.set k (if x<0 then 0 - x else v.getD x.toNat 0)):=by
  intro x r k w K hx hk hw;rw[qL];by_cases hneg:x<0
  .rw[dT hneg,cT,if_pos hneg,NH (dT ⟨by omega,by omega,by omega⟩),NH (dT (by simp;omega)),wrap64 (by omega) (by omega)];unfold JA;simp
  rw[dF hneg,cN,if_neg hneg,NH (dec8 (by omega) hx.2),get8 hv (by omega) hx.2];simp only[A3];rw[NH (dT ⟨by omega,by omega,by omega⟩),NH (dT (by simp;omega))];unfold JA;simp
 unfold qA;rw[NH (by cases v <;> simp_all),NH (qy (by omega))];obtain⟨rel,args⟩:=a;simp only at ha hl
 match args,ha,hl with
 | [],_,_=>rfl
 | [x],ha,_ =>
  show qL v _ [x] 0 (A2 2 0)=_;rw[step x [] 0 _ _ (ha x (by simp)) (by omega) (by simp)];rfl
 | [x,y],ha,_ =>
  show qL v _ [x,y] 0 (A2 2 0)=_;rw[step x [y] 0 _ _ (ha x (by simp)) (by omega) (by simp),step y [] 1 _ _ (ha y (by simp)) (by omega) (by simp)];rfl
 | x::y::z::r,_,hl=>simp at hl
end Go.AM
