/- s -/
import Derived.Test.YtdghpfejmlpjhaaRL25
set_option maxRecDepth 100000
set_option linter.unusedVariables false
set_option linter.unusedSimpArgs false
namespace Go.AM
open Go.Proofs Go.Sort
open Classical
theorem qan {f:apiFact}:groundP (cutF f)↔groundP f:=by
 unfold cutF groundP
 simp only
 by_cases h:f.qa.length≤5
 ·rw[List.take_of_length_le h]
 ·have h1:¬ (f.qa.take 5).length≤2:=by rw[List.length_take];omega
  constructor
  ·rintro⟨_,⟨_,q⟩,_⟩;exact absurd q h1
  ·rintro⟨_,⟨_,q⟩,_⟩;omega
theorem qfe {f:apiFact} (h:groundP f):cutF f=f:=by
 unfold cutF;rw[List.take_of_length_le (by have:=h.2.1.2;omega)]
theorem UW {g:ruRule→Option Bool} {p:ruRule→Bool}:∀ (l:List ruRule) (k:Nat),(∀ x,x∈l→g x=some (p x))→∃ i,qK g ji l k=some i∧(decide (i ≥ 0)=l.any p)
 | [],k,_=>⟨-1,by rw[qK];rfl,by simp⟩
 | x::l,k,h=>by
  obtain⟨i,h1,h2⟩:=UW l (k+1) fun y hy=>h y (List.mem_cons_of_mem _ hy)
  rw[qK,h x (List.mem_cons_self ..)];simp only[Option.bind_some]
  cases hp:p x with
  | true=>exact⟨k,rfl,by simp[hp]⟩
  | false=>exact⟨i,by rw[cond_false];exact h1,by rw[h2,List.any_cons,hp,Bool.false_or]⟩
theorem NQ {g:ruLit→Option Bool} {p:ruLit→Bool}:∀ (l:List ruLit) (k:Nat),(∀ x,x∈l→g x=some (p x))→∃ i,qO g jl l k=some i∧(decide (i ≥ 0)=l.any p)
 | [],k,_=>⟨-1,by rw[qO];rfl,by simp⟩
 | x::l,k,h=>by
  obtain⟨i,h1,h2⟩:=NQ l (k+1) fun y hy=>h y (List.mem_cons_of_mem _ hy)
  rw[qO,h x (List.mem_cons_self ..)];simp only[Option.bind_some]
  cases hp:p x with
  | true=>exact⟨k,rfl,by simp[hp]⟩
  | false=>exact⟨i,by rw[cond_false];exact h1,by rw[h2,List.any_cons,hp,Bool.false_or]⟩
theorem Ns {l:List rf3Rule} (hl:l.length≤10) (hb:∀ r,r∈l→r.qe.length≤3):Jp (l.map toR) (fun y0=>QT y0)=some (!decide (plainP l)):=by
 have h1:∀ x,x∈l.map toR→QT x=some (x.qe.any fun b=>b.qp):=fun x hx=>by
  obtain⟨r,hr,rfl⟩:=List.mem_map.1 hx
  obtain⟨i,q1,q2⟩:=NQ (g:=fun y0=>Xs y0) (p:=fun b=>b.qp) (toR r).qe 0 fun _ _=>rfl
  unfold QT Qt QL;rw[VK (qM (by have:=hb r hr;simp[toR];omega)),q1];simp only[Option.bind_some];rw[q2]
 obtain⟨i,q1,q2⟩:=UW (l.map toR) 0 h1;unfold Jp QI;rw[VK (qM (by rw[List.length_map];omega)),q1];simp only[Option.bind_some];rw[q2]
 congr 1
 rw[Bool.eq_iff_iff,Bool.not_eq_true',decide_eq_false_iff_not,List.any_eq_true];unfold plainP
 constructor
 ·rintro⟨x,hx,hn⟩ hp
  obtain⟨r,hr,rfl⟩:=List.mem_map.1 hx;obtain⟨b,hb,hq⟩:=List.any_eq_true.1 hn;obtain⟨c,hc,rfl⟩:=List.mem_map.1 hb;have:=hp r hr c hc;rw[show (toL c).qp=c.qp from rfl,this]at hq;cases hq
 ·intro hp
  refine Classical.byContradiction fun hn=>hp fun r hr b hb=>?_
  cases hbn:b.qp with
  | false=>rfl
  | true=>exact absurd ⟨toR r,List.mem_map.2 ⟨r,hr,rfl⟩,List.any_eq_true.2 ⟨toL b,List.mem_map.2 ⟨b,hb,rfl⟩,hbn⟩⟩ hn
theorem pow10 {n:Nat} (h:n≤10):2 ^ n≤1024:=by
 have:(2:Nat) ^ n≤2 ^ 10:=Nat.pow_le_pow_right (by omega) h
 have e:(2:Nat) ^ 10=1024:=by decide
 omega
theorem qfs {n:Nat} (h:n≤10):iShl .i64 1 (n:Int)=((2 ^ n:Nat):Int):=by
 have h1:=pow10 h;unfold iShl;have hb:IntKind.bits .i64=64:=rfl;rw[Int.toNat_natCast,hb,Nat.min_eq_left (by omega),Int.one_mul]
 have e:(2:Int) ^ n=((2 ^ n:Nat):Int):=by norm_cast
 rw[e];generalize 2 ^ n=m at h1;exact wrap64 (by omega) (by omega)
theorem qiv {n:Nat} (h:n≤10):IntKind.wrap .i64 (iShl .i64 1 (n:Int) - 1)=((2 ^ n - 1:Nat):Int):=by
 have h1:=pow10 h;have h2:1≤2 ^ n:=Nat.one_le_two_pow;rw[qfs h];generalize 2 ^ n=m at h1 h2;rw[wrap64 (by omega) (by omega)];omega
noncomputable def enE (l:List rf3Rule) (facts:List apiFact) (f:apiFact) (k:Nat):Bool:=decide (EnoughP l facts f (k:Int))
noncomputable def srcL (l:List rf3Rule) (facts:List apiFact) (f:apiFact):List Int:=bif enE l facts f (2 ^ facts.length - 1) then scanS (enE l facts f) (2 ^ facts.length) 0 [] else []
theorem qiE {fuel:Nat} (hf:300≤fuel) {l:List rf3Rule} {facts:List apiFact} {f:apiFact} (ho:okRules l) (hv:VR l facts) (hg:groundP f) (hp:plainP l) (h10:facts.length≤10):QU fuel (l.map toR) facts f=some (srcL l facts f,0):=by
 have hen:=fun k:Nat=>(qdT hf hv hg (k:Int)).1
 have hpw:=pow10 h10;unfold QU;rw[mvalid (by omega) ho hv.1 hv.2.2.2.1 (by omega) (fun f hf=>by have:=(hv.2.2.1 f hf).2.1.2;omega),decide_eq_true hv];simp only[Option.bind_some,Bool.not_true,cond_false];rw[VC (by omega),decide_eq_true hg];simp only[Option.bind_some,Bool.not_true,cond_false];rw[Ns hv.1 (fun r hr=>(hv.2.2.2.1 r hr).2.1),decide_eq_true hp];simp only[Option.bind_some,Bool.not_true];unfold Qg;rw[cond_false,decide_eq_false (by omega:¬ (facts.length:Int) > 10),cond_false,VK (decide_eq_true (by omega)),qiv h10,hen];simp only[Option.bind_some];unfold srcL;show (bif !enE l facts f (2 ^ facts.length - 1) then _ else _)=_
 cases enE l facts f (2 ^ facts.length - 1) with
 | false=>rfl
 | true =>
  rw[Bool.not_true,cond_false,VK (decide_eq_true (by omega)),qfs h10,Int.toNat_natCast,VK (qM (by rw[List.length_range];omega)),qha (E:=enE l facts f) (fun k=>hen k) _ _ 0 [] (by rw[List.length_range];simp;omega),List.length_range];rfl
theorem qif {l:List rf3Rule} {facts:List apiFact} {f:apiFact} (h10:facts.length≤10):(srcL l facts f).length≤1024:=by
 have hpw:=pow10 h10;unfold srcL
 cases enE l facts f (2 ^ facts.length - 1) with
 | false=>simp
 | true =>
  have:=(Hp (enE l facts f) (2 ^ facts.length) 0 [] (by simp) (by omega)).2.2
  simp at this ⊢
  omega
theorem qih {fuel:Nat} (hf:300≤fuel) {l:List rf3Rule} {facts:List apiFact} {f:apiFact} (ho:okRules l) (h:¬ (VR l facts∧groundP f∧plainP l)):QU fuel ((l.take 12).map cvR) ((facts.take 26).map cvF) (cutF f)=some ([],2):=by
 unfold QU;rw[DJ (by omega) ho];simp only[Option.bind_some]
 by_cases hv:VR l facts
 ·rw[decide_eq_true hv,Bool.not_true,cond_false,VC (by omega)];simp only[Option.bind_some]
  by_cases hg:groundP f
  ·rw[decide_eq_true (qan.2 hg),Bool.not_true,cond_false,DW hv,Ns hv.1 (fun r hr=>(hv.2.2.2.1 r hr).2.1),decide_eq_false (fun hp=>h ⟨hv,hg,hp⟩)];rfl
  ·rw[decide_eq_false (fun q=>hg (qan.1 q))];rfl
 ·rw[decide_eq_false hv];rfl
theorem qig {fuel:Nat} (hf:300≤fuel) {l:List rf3Rule} {facts:List apiFact} {f:apiFact} (ho:okRules l) (hv:VR l facts) (hg:groundP f) (hp:plainP l) (h10:¬ facts.length≤10):QU fuel (l.map toR) facts f=some ([],3):=by
 have h20:=hv.2.1;unfold QU;rw[mvalid (by omega) ho hv.1 hv.2.2.2.1 (by omega) (fun f hf=>by have:=(hv.2.2.1 f hf).2.1.2;omega),decide_eq_true hv];simp only[Option.bind_some,Bool.not_true,cond_false];rw[VC (by omega),decide_eq_true hg];simp only[Option.bind_some,Bool.not_true,cond_false];rw[Ns hv.1 (fun r hr=>(hv.2.2.2.1 r hr).2.1),decide_eq_true hp];simp only[Option.bind_some,Bool.not_true];unfold Qg;rw[cond_false,decide_eq_true (by omega:(facts.length:Int) > 10),cond_true]
theorem qia {s:Int} (h:wfI .i64 s=true):wf64 s:=qfQ (by simpa[wfI,Lit.wf] using h)
theorem qht {s:Int} (hs:wf64 s) {n:Nat} (hn:n≤10):∃ k:Nat,k<2 ^ n∧Bits (k:Int) s∧∀ i,i<n→bitS (k:Int) i=bitS s i:=by
 have hb:Bits (iAnd .i64 s ((2 ^ n - 1:Nat):Int)) ((2 ^ n - 1:Nat):Int):=fun i h=>by
  rw[qfP,BitVec.getLsbD_and,Bool.and_eq_true]at h;exact h.2
 have hw:=qgP s ((2 ^ n - 1:Nat):Int);obtain⟨h1,h2⟩:=(DM (by omega) hw).1 hb;have hpw:=pow10 hn;obtain⟨k,hk⟩:∃ k:Nat,iAnd .i64 s ((2 ^ n - 1:Nat):Int)=(k:Int):=⟨(iAnd .i64 s ((2 ^ n - 1:Nat):Int)).toNat,by omega⟩
 have hfull:∀ i,i<n→(V ((2 ^ n - 1:Nat):Int)).getLsbD i=true:=fun i hi=>by
  have hlt:2 ^ i<2 ^ n:=Nat.pow_lt_pow_right (by omega) hi
  have hw2:wf64 ((2 ^ i:Nat):Int):=by
   generalize 2 ^ i=m at hlt;unfold wf64;omega
  have:=(DM (a:=((2 ^ i:Nat):Int)) (n:=n) (by omega) hw2).2 ⟨Int.natCast_nonneg _,Int.ofNat_lt.2 hlt⟩;refine this i ?_;unfold V;rw[BitVec.ofInt_natCast,BitVec.getLsbD_ofNat]
  simp[Nat.testBit_two_pow_self]
  omega
 refine⟨k,by omega,fun i h=>?_,fun i hi=>?_⟩
 ·rw[← hk,qfP,BitVec.getLsbD_and,Bool.and_eq_true]at h;exact h.1
 ·rw[← hk,qcQ hw (by omega),qcQ hs (by omega),qfP,BitVec.getLsbD_and,hfull i hi,Bool.and_true]
theorem qhW {l:List rf3Rule} {facts some':List apiFact} (hv:VR l facts) (h:some'.Sublist facts):VR l some':=by
 refine⟨hv.1,Nat.le_trans h.length_le hv.2.1,fun f hf=>hv.2.2.1 f (h.subset hf),hv.2.2.2.1,fun x hx y hy=>hv.2.2.2.2 x ?_ y ?_⟩
 ·rcases List.mem_append.1 hx with h1 | h1
  ·exact List.mem_append_left _ ((h.map _).subset h1)
  ·exact List.mem_append_right _ h1
 ·rcases List.mem_append.1 hy with h1 | h1
  ·exact List.mem_append_left _ ((h.map _).subset h1)
  ·exact List.mem_append_right _ h1
theorem qfd {l:List rf3Rule} {facts:List apiFact} {f:apiFact} (h10:facts.length≤10) (hex:∀ s:Int,∃ Y,LeastR (l.map toR) (fun _=>False) (fun g=>g∈(selF s 0 facts).map toF) Y) {s:Int} (hs:wf64 s):((srcL l facts f).any fun x=>iAndNot .i64 x s == 0)=decide (EnoughP l facts f s):=by
 have hpw:=pow10 h10
 have hmono:∀ {a b:Int},(∀ i,i<facts.length→bitS a i=true→bitS b i=true)→EnoughP l facts f a→EnoughP l facts f b:=fun {a b} h ⟨X,hX,hx⟩=>by
  obtain⟨Y,hY⟩:=hex b;refine⟨Y,hY,hX.least Y (fun g hg=>hY.sub g ?_) hY.closed _ hx⟩;obtain⟨z,hz,rfl⟩:=List.mem_map.1 hg;exact List.mem_map.2 ⟨z,Ho h facts 0 (by omega) z hz,rfl⟩
 have hbits:∀ {a b:Int},wf64 a→wf64 b→Bits a b→∀ i,i<facts.length→bitS a i=true→bitS b i=true:=fun ha hb h i hi hq=>by
  rw[qcQ ha (by omega)]at hq;rw[qcQ hb (by omega)];exact h i hq
 have hwk:∀ k:Nat,k<2 ^ facts.length→wf64 (k:Int):=fun k hk=>by unfold wf64;omega
 obtain⟨q1,q2,_⟩:=Hp (enE l facts f) (2 ^ facts.length) 0 [] (by simp) (by omega);obtain⟨k,k1,k2,k3⟩:=qht hs h10
 have hks:EnoughP l facts f s→EnoughP l facts f (k:Int):=hmono fun i hi h=>by rw[k3 i hi];exact h
 have h2:1≤2 ^ facts.length:=Nat.one_le_two_pow;rw[Bool.eq_iff_iff,List.any_eq_true,decide_eq_true_eq];unfold srcL
 cases hfull:enE l facts f (2 ^ facts.length - 1) with
 | false =>
  constructor
  ·rintro⟨x,hx,_⟩;simp at hx
  ·intro he;have hkf:Bits (k:Int) ((2 ^ facts.length - 1:Nat):Int):=(DM (by omega) (hwk k k1)).2 ⟨by omega,by omega⟩;have:=hmono (hbits (hwk k k1) (hwk _ (by omega)) hkf) (hks he);unfold enE at hfull;exact absurd this (of_decide_eq_false hfull)
 | true =>
  rw[cond_true]
  constructor
  ·rintro⟨x,hx,hb⟩
   obtain⟨j,rfl,hj,he⟩:=q1 x hx;exact hmono (hbits (hwk j (by omega)) hs (Us.1 hb)) (of_decide_eq_true he)
  ·intro he;obtain⟨x,hx,hb⟩:=q2 k (by omega) (decide_eq_true (hks he));exact⟨x,hx,Us.2 (hb.trans k2)⟩
theorem Hw {fuel:Nat} (hf:400≤fuel) {l:List rf3Rule} {facts:List apiFact} {f:apiFact} {s:Int} (hl:okRules l) (hfa:okFacts facts) (hf1:okFact f) (hs:wfI .i64 s=true):XT fuel l facts f s=some true:=by
 obtain⟨n,rfl⟩:∃ n,fuel=n+30:=⟨fuel - 30,by omega⟩;have haw:=qgJ n;unfold XT;rw[qhl hl.1 (fun r hr=>(hl.2 r hr).2.1),qbP hfa.1];simp only[Option.bind_some];rw[qeS];simp only[Option.bind_some]
 by_cases hall:VR l facts∧groundP f∧plainP l
 ·obtain⟨hv,hg,hp⟩:=hall;rw[qdO hv,DW hv,qfe hg]
  by_cases h10:facts.length≤10
  ·rw[qiE (by omega) hl hv hg hp h10];simp only[Option.bind_some];rw[show ((0:Int) != 0)=false from rfl,cond_false,qcz hl hfa,decide_eq_true hv];simp only[Option.bind_some,Bool.not_true];unfold jG;rw[cond_false,VK hfa.1,De s _ facts 0 [] (by simp;omega),List.nil_append]
   have hex:∀ t:Int,∃ out,YM (n+30) (l.map toR) (selF t 0 facts)=some (sortF (apis out),0)∧NT out∧(∀ g,g∈out.map Prod.fst→okU1 g)∧out.length≤252∧∀ N,LeastR (l.map toR) N (fun g=>g∈(selF t 0 facts).map toF) (fun g=>g∈out.map Prod.fst):=fun t=>qcC (by omega) hl (qhW hv (VV t facts 0)) hp
   obtain⟨out,a1,a2,a3,a4,a5⟩:=hex s;have hvs:=qhW hv (VV s facts 0);unfold jc;rw[qhl hl.1 (fun r hr=>(hl.2 r hr).2.1),DW hv,qbP (qM (by have:=hvs.2.1;omega)),qdO hvs];simp only[Option.bind_some];rw[a1];simp only[Option.bind_some];have hc:=NY (l:=srcL l facts f) (g:=fun y0=>QC y0 s) (p:=fun x=>iAndNot .i64 x s == 0) (qM (by have:=qif (l:=l) (f:=f) h10;omega)) (fun x _=>rfl);rw[hc];simp only[Option.bind_some];rw[show ((0:Int) == 0)=true from rfl,cond_true,qen (qdg a4) hf1.2.1];simp only[Option.bind_some]
   have he:((srcL l facts f).any fun x=>iAndNot .i64 x s == 0)=decide (f∈sortF (apis out)):=by
    rw[qfd h10 (fun t=>by
     obtain⟨o,_,_,_,_,b5⟩:=hex t
     exact⟨_,b5 _⟩) (qia hs)]
    refine decide_eq_decide.2 ?_
    constructor
    ·rintro⟨X,hX,hx⟩
     exact qfN.2 ⟨toF f,(hX.same (a5 _) (fun _=>Iff.rfl) (fun _=>Iff.rfl) _).1 hx,qhS hg⟩
    ·intro h;obtain⟨g,hg1,hg2⟩:=qfN.1 h;refine⟨_,a5 _,?_⟩;rw[← hg2,(qeh (a3 g hg1)).2];exact hg1
   rw[he,beq_self_eq_true,cond_true,haw];rfl
  ·rw[qig (by omega) hl hv hg hp h10];simp only[Option.bind_some];rw[show ((3:Int) != 0)=true from rfl,cond_true];unfold jG;rw[cond_true,show ((3:Int) == 2)=false from rfl,cond_false,show ((3:Int) == 3)=true from rfl,cond_true,haw];rfl
 ·rw[qih (by omega) hl hall];simp only[Option.bind_some];rw[show ((2:Int) != 0)=true from rfl,cond_true];unfold jG;rw[cond_true,show ((2:Int) == 2)=true from rfl,cond_true,haw];rfl
end Go.AM
