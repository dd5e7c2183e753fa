/- s -/
import Derived.Test.YtdghpfejmlpjhaaRL1
set_option maxRecDepth 100000
set_option linter.unusedVariables false
set_option linter.unusedSimpArgs false
namespace Go.AM
open Go.Proofs
open Classical
def szF (f:apiFact):ql:=⟨f.qb,(f.qa.length:Int)⟩
def szA (a:rf2Atom):ql:=⟨a.qb,(a.qa.length:Int)⟩
def sizesR (r:rf3Rule):List ql:=szA r.qd::r.qe.map fun b=>szA b.qc
def conP (S:List ql):Prop:=∀ x,x∈S→∀ y,y∈S→x.f_0=y.f_0→x.f_1=y.f_1
def safeR (r:rf3Rule):Prop:=∀ i:Nat,i<8→(((i:Int)∈r.qd.qa∨∃ b,b∈r.qe∧(i:Int)∈b.qc.qa)↔∃ b,b∈r.qe∧b.qi=false∧(i:Int)∈b.qc.qa)
def okR (r:rf3Rule):Prop:=fitP r.qd.qb r.qd.qa∧r.qe.length≤3∧(∀ b,b∈r.qe→fitP b.qc.qb b.qc.qa)∧safeR r
def VR (l:List rf3Rule) (facts:List apiFact):Prop:=l.length≤10∧facts.length≤20∧(∀ f,f∈facts→groundP f)∧(∀ r,r∈l→okR r)∧conP (facts.map szF++l.flatMap sizesR)
def okArgs (l:List Int):Prop:=lenOk l=true∧∀ x,x∈l→wfI .i64 x=true
def okAtom (a:rf2Atom):Prop:=wfI .i64 a.qb=true∧okArgs a.qa
def okRule (r:rf3Rule):Prop:=okAtom r.qd∧lenOk r.qe=true∧∀ b,b∈r.qe→okAtom b.qc
def okRules (l:List rf3Rule):Prop:=lenOk l=true∧∀ r,r∈l→okRule r
def okFact (f:apiFact):Prop:=wfI .i64 f.qb=true∧okArgs f.qa
def okFacts (l:List apiFact):Prop:=lenOk l=true∧∀ f,f∈l→okFact f
theorem qbJ (x:ql) (K:Option Bool):∀ (S:List ql) (k:Nat),Jb x K S k=if ∀ y,y∈S→x.f_0=y.f_0→x.f_1=y.f_1 then K else some false
 | [],k=>by simp[Jb]
 | y::r,k=>by
  rw[Jb];unfold Xh;rw[qbJ x K r (k+1)];simp only[List.mem_cons,forall_eq_or_imp]
  by_cases h1:x.f_0=y.f_0
  ·have:(x.f_0 == y.f_0)=true:=by simp[h1]
   rw[this,cond_true]
   by_cases h2:x.f_1=y.f_1
   ·have:(x.f_1 != y.f_1)=false:=by simp[h2]
    rw[this,cond_false]
    simp[h2]
   ·have:(x.f_1 != y.f_1)=true:=by simp[h2]
    rw[this,cond_true,if_neg (fun h=>h2 (h.1 h1))]
  ·have:(x.f_0 == y.f_0)=false:=by simp[h1]
   rw[this,cond_false,cond_false]
   simp[h1]
theorem qbK (S:List ql) (hS:lenOk S=true):∀ (T:List ql) (k:Nat),ju S jm T k=if ∀ x,x∈T→∀ y,y∈S→x.f_0=y.f_0→x.f_1=y.f_1 then some true else some false
 | [],k=>by simp[ju,jm]
 | x::r,k=>by
  rw[ju,Vj hS,qbJ];unfold Jv;rw[qbK S hS r (k+1)];simp only[List.mem_cons,forall_eq_or_imp]
  by_cases h1:∀ y,y∈S→x.f_0=y.f_0→x.f_1=y.f_1
  ·rw[if_pos h1]
   by_cases h2:∀ a,a∈r→∀ y,y∈S→a.f_0=y.f_0→a.f_1=y.f_1
   ·rw[if_pos h2,if_pos ⟨h1,h2⟩]
   ·rw[if_neg h2,if_neg (fun h=>h2 h.2)]
  ·rw[if_neg h1,if_neg (fun h=>h1 h.1)]
theorem qet {S:List ql} (hS:lenOk S=true):qT S=if conP S then some true else some false:=by
 unfold qT;rw[Vj hS,qbK S hS]
 by_cases h:conP S
 ·rw[if_pos h];exact if_pos h
 ·rw[if_neg h];exact if_neg h
theorem qbL (K:List ql→Int→Int→Option Bool):∀ (body:List rf3Lit) (k:Nat) (S:List ql) (a b:Nat),(∀ x,x∈body→okAtom x.qc)→a<256→b<256→S.length+body.length≤1000000 →
  ((∀ x,x∈body→fitP x.qc.qb x.qc.qa)∧∃ a' b':Nat,a'<256∧b'<256∧jA K body k S a b=K (S++body.map fun x=>szA x.qc) a' b' ∧
   (∀ i,i<8→(a'.testBit i=true↔a.testBit i=true∨∃ x,x∈body∧(i:Int)∈x.qc.qa))∧∀ i,i<8→(b'.testBit i=true↔b.testBit i=true∨∃ x,x∈body∧x.qi=false∧(i:Int)∈x.qc.qa)) ∨
  (¬ (∀ x,x∈body→fitP x.qc.qb x.qc.qa)∧jA K body k S a b=some false)
 | [],k,S,a,b,_,ha,hb,_=>.inl ⟨fun x hx=>by simp at hx,a,b,ha,hb,by rw[jA];simp,fun i _=>by simp,fun i _=>by simp⟩
 | x::r,k,S,a,b,ho,ha,hb,hl=>by
  have hox:=ho x (List.mem_cons_self ..);rw[jA,qcz hox.2.1];simp only[Option.bind_some]
  by_cases hf:fitP x.qc.qb x.qc.qa
  ·rw[decide_eq_true hf];simp only[Bool.not_true,cond_false];rw[Vj (Xb (by omega) (by simp at hl ⊢;omega))];obtain⟨m,hm,hv,hbit⟩:=qbI hox.2.1 (fun y hy=>(hf.2.2 y hy).2);rw[hv];simp only[Option.bind_some];unfold Xi
   have ho':∀ y,y∈r→okAtom y.qc:=fun y hy=>ho y (List.mem_cons_of_mem _ hy)
   have hl':(S++[ql.mk x.qc.qb (x.qc.qa.length:Int)]).length+r.length≤1000000:=by simp at hl ⊢;omega
   have ham:a ||| m<256:=Nat.or_lt_two_pow (n:=8) ha hm
   have hbm:b ||| m<256:=Nat.or_lt_two_pow (n:=8) hb hm
   have key:∀ b2:Nat,b2<256→(∀ i,i<8→(b2.testBit i=true↔b.testBit i=true∨(x.qi=false∧(i:Int)∈x.qc.qa))) →
     ((∀ y,y∈x::r→fitP y.qc.qb y.qc.qa)∧∃ a' b':Nat,a'<256∧b'<256∧jA K r (k+1) (S++[ql.mk x.qc.qb (x.qc.qa.length:Int)]) ((a ||| m:Nat):Int) (b2:Int)=K (S++(x::r).map fun x=>szA x.qc) a' b' ∧
      (∀ i,i<8→(a'.testBit i=true↔a.testBit i=true∨∃ y,y∈x::r∧(i:Int)∈y.qc.qa))∧∀ i,i<8→(b'.testBit i=true↔b.testBit i=true∨∃ y,y∈x::r∧y.qi=false∧(i:Int)∈y.qc.qa)) ∨
     (¬ (∀ y,y∈x::r→fitP y.qc.qb y.qc.qa)∧jA K r (k+1) (S++[ql.mk x.qc.qb (x.qc.qa.length:Int)]) ((a ||| m:Nat):Int) (b2:Int)=some false):=by
    intro b2 hb2 hbits
    rcases qbL K r (k+1) _ (a ||| m) b2 ho' ham hb2 hl' with ⟨q1,a',b',q2,q3,q4,q5,q6⟩ | ⟨q1,q2⟩
    ·left
     refine⟨fun y hy=>?_,a',b',q2,q3,?_,fun i hi=>?_,fun i hi=>?_⟩
     ·rcases List.mem_cons.1 hy with rfl | hy
      ·exact hf
      ·exact q1 y hy
     ·rw[q4,List.map_cons,List.append_assoc];rfl
     ·rw[q5 i hi,Nat.testBit_or,Bool.or_eq_true,hbit i hi];simp only[List.mem_cons]
      constructor
      ·rintro ((h | h) | ⟨y,hy,h⟩)
       ·exact .inl h
       ·exact .inr ⟨x,.inl rfl,h⟩
       ·exact .inr ⟨y,.inr hy,h⟩
      ·rintro (h | ⟨y,rfl | hy,h⟩)
       ·exact .inl (.inl h)
       ·exact .inl (.inr h)
       ·exact .inr ⟨y,hy,h⟩
     ·rw[q6 i hi,hbits i hi];simp only[List.mem_cons]
      constructor
      ·rintro ((h | h) | ⟨y,hy,h⟩)
       ·exact .inl h
       ·exact .inr ⟨x,.inl rfl,h⟩
       ·exact .inr ⟨y,.inr hy,h⟩
      ·rintro (h | ⟨y,rfl | hy,h⟩)
       ·exact .inl (.inl h)
       ·exact .inl (.inr h)
       ·exact .inr ⟨y,hy,h⟩
    ·exact .inr ⟨fun h=>q1 fun y hy=>h y (List.mem_cons_of_mem _ hy),q2⟩
   cases hn:x.qi with
   | true =>
    simp only[Bool.not_true,cond_false];rw[Hz ha hm];exact key b hb (fun i _=>by simp[hn])
   | false =>
    simp only[Bool.not_false,cond_true];rw[Hz ha hm,Hz hb hm];refine key (b ||| m) hbm (fun i hi=>?_);rw[Nat.testBit_or,Bool.or_eq_true,hbit i hi]
    simp[hn]
  ·rw[decide_eq_false hf];simp only[Bool.not_false,cond_true];exact .inr ⟨fun h=>hf (h x (List.mem_cons_self ..)),by first | rfl | trivial⟩
theorem qbM (K:List ql→Option Bool):∀ (l:List rf3Rule) (k:Nat) (S:List ql),(∀ r,r∈l→okRule r)→S.length+5 * l.length≤100000→qQ K l k S=if ∀ r,r∈l→okR r then K (S++l.flatMap sizesR) else some false
 | [],k,S,_,_=>by simp[qQ]
 | x::r,k,S,ho,hl=>by
  obtain⟨hoh,hob,hol⟩:=ho x (List.mem_cons_self ..);rw[qQ,qcz hoh.2.1];simp only[Option.bind_some,List.mem_cons,forall_eq_or_imp];unfold Xj
  by_cases hf:fitP x.qd.qb x.qd.qa
  ·rw[decide_eq_true hf];simp only[Bool.not_true,cond_false]
   by_cases h3:x.qe.length≤3
   ·rw[decide_eq_false (by omega:¬ (x.qe.length:Int) > 3),cond_false,Vj (Xb (by omega) (by simp at hl ⊢;omega))];obtain⟨m,hm,hv,hbit⟩:=qbI hoh.2.1 (fun y hy=>(hf.2.2 y hy).2);rw[hv];simp only[Option.bind_some];rw[Vj hob]
    rcases qbL (Jk (qQ K r (k+1))) x.qe 0 (S++[ql.mk x.qd.qb (x.qd.qa.length:Int)]) m 0 hol hm (by omega) (by simp at hl ⊢;omega) with ⟨q1,a',b',q2,q3,q4,q5,q6⟩ | ⟨q1,q2⟩
    ·rw[show ((0:Nat):Int)=0 from rfl]at q4;rw[q4];unfold Jk
     have hsafe:a'=b'↔safeR x:=by
      constructor
      ·rintro rfl i hi
       have h1:=q5 i hi;have h2:=q6 i hi;rw[hbit i hi]at h1;rw[h2]at h1;simp only[Nat.zero_testBit,Bool.false_eq_true,false_or]at h1;exact h1.symm
      ·intro h
       refine qfQ q2 q3 fun i hi=>?_
       rw[q5 i hi,q6 i hi,hbit i hi];simp only[Nat.zero_testBit,Bool.false_eq_true,false_or];exact h i hi
     by_cases hs:safeR x
     ·have hab:=hsafe.2 hs
      have:((a':Int) != (b':Int))=false:=by simp[hab]
      rw[this,cond_false,qbM K r (k+1) _ (fun q hq=>ho q (List.mem_cons_of_mem _ hq)) (by simp at hl ⊢;omega)];have hokx:okR x:=⟨hf,h3,q1,hs⟩
      have e:S++[ql.mk x.qd.qb (x.qd.qa.length:Int)]++x.qe.map (fun x=>szA x.qc)++r.flatMap sizesR=S++(x::r).flatMap sizesR:=by
       simp[sizesR,szA]
      rw[e];simp only[hokx,true_and]
     ·have hab:a'≠b':=fun e=>hs (hsafe.1 e)
      have:((a':Int) != (b':Int))=true:=by simp;omega
      rw[this,cond_true,if_neg (fun h=>hs h.1.2.2.2)]
    ·rw[show ((0:Nat):Int)=0 from rfl]at q2;rw[q2,if_neg (fun h=>q1 h.1.2.2.1)]
   ·rw[decide_eq_true (by omega:(x.qe.length:Int) > 3),cond_true,if_neg (fun h=>h3 h.1.2.1)]
  ·rw[decide_eq_false hf];simp only[Bool.not_false,cond_true];rw[if_neg (fun h=>hf h.1.1)]
theorem qbN (K:List ql→Option Bool):∀ (l:List apiFact) (k:Nat) (S:List ql),(∀ f,f∈l→okFact f)→S.length+l.length≤100000→JS K l k S=if ∀ f,f∈l→groundP f then K (S++l.map szF) else some false
 | [],k,S,_,_=>by simp[JS]
 | x::r,k,S,ho,hl=>by
  obtain⟨_,hox,_⟩:=ho x (List.mem_cons_self ..);rw[JS,qdD hox];simp only[Option.bind_some,List.mem_cons,forall_eq_or_imp]
  by_cases hf:groundP x
  ·rw[decide_eq_true hf];simp only[Bool.not_true,cond_false];rw[Vj (Xb (by omega) (by simp at hl ⊢;omega)),qbN K r (k+1) _ (fun q hq=>ho q (List.mem_cons_of_mem _ hq)) (by simp at hl ⊢;omega)]
   have e:S++[ql.mk x.qb (x.qa.length:Int)]++r.map szF=S++(x::r).map szF:=by simp[szF]
   rw[e];simp only[hf,true_and]
  ·rw[decide_eq_false hf];simp only[Bool.not_false,cond_true];rw[if_neg (fun h=>hf h.1)]
theorem UP {l:List rf3Rule} {facts:List apiFact} (hl:okRules l) (hf:okFacts facts):Yw l facts=some (decide (VR l facts)):=by
 have key:Yw l facts=if VR l facts then some true else some false:=by
  unfold Yw XA
  by_cases h1:l.length≤10
  ·rw[decide_eq_false (by omega:¬ (l.length:Int) > 10),cond_false]
   by_cases h2:facts.length≤20
   ·rw[decide_eq_false (by omega:¬ (facts.length:Int) > 20),cond_false,Vj hf.1,qbN _ _ _ _ hf.2 (by simp;omega)]
    by_cases h3:∀ f,f∈facts→groundP f
    ·rw[if_pos h3];unfold QD;rw[Vj hl.1,List.nil_append,qbM _ _ _ _ hl.2 (by simp;omega)]
     by_cases h4:∀ r,r∈l→okR r
     ·rw[if_pos h4,qet]
      ·by_cases h5:conP (facts.map szF++l.flatMap sizesR)
       ·rw[if_pos h5,if_pos ⟨h1,h2,h3,h4,h5⟩]
       ·rw[if_neg h5,if_neg (fun h=>h5 h.2.2.2.2)]
      ·refine jh ?_
       have:∀ l:List rf3Rule,(∀ r,r∈l→okR r)→(l.flatMap sizesR).length≤4 * l.length:=by
        intro l hl
        induction l with
        | nil=>simp
        | cons r l ih =>
         have h5:=ih fun q hq=>hl q (List.mem_cons_of_mem _ hq)
         have h6:=(hl r (List.mem_cons_self ..)).2.1;simp only[List.flatMap_cons,List.length_append,List.length_cons,sizesR,List.length_map];omega
       have:=this l h4;simp only[List.length_append,List.length_map];omega
     ·rw[if_neg h4,if_neg (fun h=>h4 h.2.2.2.1)]
    ·rw[if_neg h3,if_neg (fun h=>h3 h.2.2.1)]
   ·rw[decide_eq_true (by omega:(facts.length:Int) > 20),cond_true,if_neg (fun h=>h2 h.2.1)]
  ·rw[decide_eq_true (by omega:(l.length:Int) > 10),cond_true,cond_true,if_neg (fun h=>h1 h.1)]
 rw[key]
 by_cases h:VR l facts <;> simp[h]
end Go.AM
namespace Go.AM
open Go.Proofs
open Classical
theorem qei {fuel:Nat} (hf:4≤fuel) {l:List Int} (h1:1≤l.length) (h2:l.length≤2):∃ m,Xq fuel l=some m∧m∈l∧∀ x,x∈l→m≤x:=by
 obtain⟨f,rfl⟩:∃ f,fuel=f+4:=⟨fuel - 4,by omega⟩
 match l,h1,h2 with
 | [a],_,_ =>
  refine⟨a,?_,by simp,by simp⟩
  simp[Xq,JO,JP,idx]
 | [a,b],_,_ =>
  have e:Xq (f+4) [a,b]=some (if b<a then b else a):=by
   simp[Xq,JO,JP,idx,wrap64]
  rw[e]
  by_cases h:b<a
  ·rw[if_pos h];exact⟨b,rfl,by simp,by simp;omega⟩
  ·rw[if_neg h];exact⟨a,rfl,by simp,by simp;omega⟩
theorem qel {fuel:Nat} (hf:4≤fuel) {l:List Int} (h1:1≤l.length) (h2:l.length≤2):∃ m,JZ fuel l=some m∧m∈l∧∀ x,x∈l→x≤m:=by
 obtain⟨f,rfl⟩:∃ f,fuel=f+4:=⟨fuel - 4,by omega⟩
 match l,h1,h2 with
 | [a],_,_ =>
  refine⟨a,?_,by simp,by simp⟩
  simp[JZ,jY,Ju,idx]
 | [a,b],_,_ =>
  have e:JZ (f+4) [a,b]=some (if b > a then b else a):=by
   simp[JZ,jY,Ju,idx,wrap64]
  rw[e]
  by_cases h:b > a
  ·rw[if_pos h];exact⟨b,rfl,by simp,by simp;omega⟩
  ·rw[if_neg h];exact⟨a,rfl,by simp,by simp;omega⟩
def rangeP (s:ql):Prop:=(0≤s.f_0∧s.f_0≤5)∧1≤s.f_1∧s.f_1≤2
def Tab (n:List Int) (S:List ql):Prop:=n.length=6∧(∀ s,s∈S→rangeP s)∧∀ i:Nat,i<6→(n[i]? = some 0∧∀ s,s∈S→s.f_0≠i)∨∃ k,n[i]? = some k∧k≠0∧(⟨i,k⟩:ql)∈S∧∀ s,s∈S→s.f_0=i→s.f_1=k
theorem Tab.zero:Tab (List.replicate 6 0) []:=⟨by simp,fun s hs=>by simp at hs,fun i hi=>.inl ⟨by rw[List.getElem?_replicate,if_pos hi],fun s hs=>by simp at hs⟩⟩
theorem Tab.con {n:List Int} {S:List ql} (h:Tab n S):conP S:=by
 intro x hx y hy hxy;obtain⟨⟨r1,r2⟩,_⟩:=h.2.1 x hx
 rcases h.2.2 x.f_0.toNat (by omega) with ⟨_,q⟩ | ⟨k,_,_,_,q⟩
 ·exact absurd (show x.f_0=(x.f_0.toNat:Int) by omega) (q x hx)
 ·rw[q x hx (by omega),q y hy (by omega)]
theorem Tab.add {n:List Int} {S:List ql} (h:Tab n S) (rel k:Int) :
  ((rangeP ⟨rel,k⟩∧conP (S++[⟨rel,k⟩]))∧∃ n',JV n rel k=some (true,n')∧Tab n' (S++[⟨rel,k⟩]))∨(¬ (rangeP ⟨rel,k⟩∧conP (S++[⟨rel,k⟩]))∧JV n rel k=some (false,n)):=by
 unfold JV jC
 by_cases h1:rel<0
 ·rw[decide_eq_true h1,cond_true,cond_true];exact .inr ⟨fun h2=>by have:=h2.1.1.1;simp only at this;omega,rfl⟩
 rw[decide_eq_false h1,cond_false]
 by_cases h2:rel ≥ 6
 ·rw[decide_eq_true h2,cond_true,cond_true];exact .inr ⟨fun h2=>by have:=h2.1.1.2;simp only at this;omega,rfl⟩
 rw[decide_eq_false h2,cond_false]
 by_cases h3:k<1
 ·rw[decide_eq_true h3,cond_true,cond_true];exact .inr ⟨fun h2=>by have:=h2.1.2.1;simp only at this;omega,rfl⟩
 rw[decide_eq_false h3,cond_false]
 by_cases h4:k > 2
 ·rw[decide_eq_true h4,cond_true,cond_true];exact .inr ⟨fun h2=>by have:=h2.1.2.2;simp only at this;omega,rfl⟩
 rw[decide_eq_false h4,cond_false];have hr:rangeP ⟨rel,k⟩:=⟨⟨by simp only;omega,by simp only;omega⟩,by simp only;omega,by simp only;omega⟩;obtain⟨i,rfl⟩:∃ i:Nat,rel=i:=⟨rel.toNat,by omega⟩
 have hi:i<6:=by omega
 have e0:(0+Int.toNat (i:Int) * 1)=i:=by omega
 rw[Vj (decide_eq_true (by omega)),e0]
 have hset:∀ m:Int,n[i]? = some m→(m=0∨m=k)→conP (S++[⟨i,k⟩])∧Tab (n.set i k) (S++[⟨i,k⟩]):=by
  intro m hm hmk
  have hq:∀ s,s∈S→s.f_0=i→s.f_1=k:=by
   rcases h.2.2 i hi with ⟨q1,q2⟩ | ⟨k',q1,q2,q3,q4⟩
   ·exact fun s hs e=>absurd e (q2 s hs)
   ·rw[hm]at q1;cases q1;intro s hs e;rw[q4 s hs e]
    rcases hmk with h5 | h5
    ·exact absurd h5 q2
    ·exact h5
  have hTab:Tab (n.set i k) (S++[⟨i,k⟩]):=by
   refine⟨by simp[h.1],fun s hs=>?_,fun j hj=>?_⟩
   ·rcases List.mem_append.1 hs with hs | hs
    ·exact h.2.1 s hs
    ·rw[List.mem_singleton.1 hs];exact hr
   ·by_cases hij:j=i
    ·subst hij;refine .inr ⟨k,by rw[List.getElem?_set_self (by rw[h.1];omega)],by omega,by simp,fun s hs e=>?_⟩
     rcases List.mem_append.1 hs with hs | hs
     ·exact hq s hs e
     ·rw[List.mem_singleton.1 hs]
    ·rw[List.getElem?_set_ne (fun e=>hij e.symm)]
     rcases h.2.2 j hj with ⟨q1,q2⟩ | ⟨k',q1,q2,q3,q4⟩
     ·refine .inl ⟨q1,fun s hs=>?_⟩
      rcases List.mem_append.1 hs with hs | hs
      ·exact q2 s hs
      ·rw[List.mem_singleton.1 hs];simp only;omega
     ·refine .inr ⟨k',q1,q2,List.mem_append_left _ q3,fun s hs e=>?_⟩
      rcases List.mem_append.1 hs with hs | hs
      ·exact q4 s hs e
      ·rw[List.mem_singleton.1 hs]at e;simp only at e;omega
  exact⟨hTab.con,hTab⟩
 have hlen:i<n.length:=by rw[h.1];exact hi
 rcases h.2.2 i hi with ⟨q1,q2⟩ | ⟨k',q1,q2,q3,q4⟩
 ·rw[q1];simp only[Option.bind_some,bne_self_eq_false,cond_false];rw[Vj (decide_eq_true (by omega)),Vj (decide_eq_true hlen)];obtain⟨c1,c2⟩:=hset 0 q1 (.inl rfl);exact .inl ⟨⟨hr,c1⟩,_,rfl,c2⟩
 ·rw[q1];simp only[Option.bind_some]
  have:(k' != 0)=true:=by simp[q2]
  rw[this,cond_true]
  by_cases hk:k'=k
  ·have e1:(k' != k)=false:=by simp[hk]
   rw[e1,cond_false,Vj (decide_eq_true (by omega)),Vj (decide_eq_true (by omega)),Vj (decide_eq_true hlen)];obtain⟨c1,c2⟩:=hset k' q1 (.inr hk);exact .inl ⟨⟨hr,c1⟩,_,rfl,c2⟩
  ·have e1:(k' != k)=true:=by simp[hk]
   rw[e1,cond_true,Vj (decide_eq_true (by omega))];exact .inr ⟨fun h2=>hk (h2.2 ⟨i,k'⟩ (List.mem_append_left _ q3) ⟨i,k⟩ (by simp) rfl),rfl⟩
theorem qdC {fuel:Nat} (hf:4≤fuel) (f:apiFact):ZK fuel f=some (decide (groundP f)):=by
 unfold ZK QT
 rcases Tab.zero.add f.qb (f.qa.length:Int) with ⟨⟨h1,_⟩,n',h2,_⟩ | ⟨h1,h2⟩
 ·rw[h2];simp only[Option.bind_some,cond_true];obtain⟨⟨r1,r2⟩,r3,r4⟩:=h1;simp only at r1 r2 r3 r4;obtain⟨m,e1,e2,e3⟩:=qei hf (l:=f.qa) (by omega) (by omega);rw[e1];simp only[Option.bind_some]
  by_cases hm:m ≥ 1
  ·rw[decide_eq_true hm,cond_true];obtain⟨M,g1,g2,g3⟩:=qel hf (l:=f.qa) (by omega) (by omega);rw[g1];simp only[Option.bind_some]
   congr 1
   rw[decide_eq_decide]
   constructor
   ·intro h;exact⟨⟨r1,r2⟩,⟨by omega,by omega⟩,fun x hx=>⟨by have:=e3 x hx;omega,by have:=g3 x hx;omega⟩⟩
   ·intro h;exact (h.2.2 M g2).2
  ·rw[decide_eq_false hm,cond_false,decide_eq_false (fun h:groundP f=>by have:=(h.2.2 m e2).1;omega)]
 ·rw[h2];simp only[Option.bind_some,cond_false];rw[decide_eq_false];intro h;refine h1 ⟨⟨h.1,by simp only;have:=h.2.1.1;omega,by simp only;have:=h.2.1.2;omega⟩,?_⟩;intro x hx y hy _;rw[List.nil_append]at hx hy;rw[List.mem_singleton.1 hx,List.mem_singleton.1 hy]
theorem Ni {S T:List ql} (h:conP (S++T)):conP S:=fun x hx y hy e=>h x (List.mem_append_left _ hx) y (List.mem_append_left _ hy) e
theorem qam {fuel:Nat} (hf:4≤fuel) (K:List Int→Option Bool):∀ (l:List apiFact) (k:Nat) (n:List Int) (S:List ql),Tab n S →
  (((∀ f,f∈l→groundP f)∧conP (S++l.map szF))∧∃ n',Je fuel K l k n=K n'∧Tab n' (S++l.map szF))∨(¬ ((∀ f,f∈l→groundP f)∧conP (S++l.map szF))∧Je fuel K l k n=some false)
 | [],k,n,S,h=>.inl ⟨⟨fun f hf=>by simp at hf,by simpa using h.con⟩,n,by rw[Je],by simpa using h⟩
 | x::r,k,n,S,h=>by
  rw[Je,qdC hf];simp only[Option.bind_some];unfold Xy
  by_cases hx:groundP x
  ·rw[decide_eq_true hx];simp only[Bool.not_true,cond_false]
   have e:S++(x::r).map szF=S++[szF x]++r.map szF:=by simp
   rcases h.add x.qb (x.qa.length:Int) with ⟨⟨q1,q2⟩,n',q3,q4⟩ | ⟨q1,q2⟩
   ·rw[q3];simp only[Option.bind_some,Bool.not_true,cond_false]
    rcases qam hf K r (k+1) n' _ q4 with ⟨⟨p1,p2⟩,n2,p3,p4⟩ | ⟨p1,p2⟩
    ·rw[e];refine .inl ⟨⟨fun f hf=>?_,p2⟩,n2,p3,p4⟩
     rcases List.mem_cons.1 hf with rfl | hf
     ·exact hx
     ·exact p1 f hf
    ·rw[e];exact .inr ⟨fun h2=>p1 ⟨fun f hf=>h2.1 f (List.mem_cons_of_mem _ hf),h2.2⟩,p2⟩
   ·rw[q2];simp only[Option.bind_some,Bool.not_false,cond_true];refine .inr ⟨fun h2=>q1 ⟨⟨hx.1,?_,?_⟩,?_⟩,by first | rfl | trivial⟩
    ·have:=hx.2.1.1;simp only;omega
    ·have:=hx.2.1.2;simp only;omega
    ·rw[e]at h2;exact Ni h2.2
  ·rw[decide_eq_false hx];simp only[Bool.not_false,cond_true];exact .inr ⟨fun h2=>hx (h2.1 x (List.mem_cons_self ..)),by first | rfl | trivial⟩
end Go.AM
