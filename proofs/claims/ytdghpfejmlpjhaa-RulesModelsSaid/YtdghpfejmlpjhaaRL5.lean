/- s -/
import Derived.Test.YtdghpfejmlpjhaaRM1
set_option maxRecDepth 100000
set_option linter.unusedVariables false
set_option linter.unusedSimpArgs false
namespace Go.AM
open Go.Proofs
theorem qZ {α:Type} {l:List α} (h:l.length≤9223372036854775807):lenOk l=true:=Nat.ble_eq_true_of_le (by omega)
theorem JN {b n:Nat} (hb:b≤64) (h:n≤1000000000):capOk b n=true:=by
 simp only[capOk,Bool.and_eq_true,Nat.ble_eq];refine⟨?_,by omega⟩;exact Nat.le_trans (Nat.mul_le_mul h hb) (by omega)
theorem VC {α:Type} {b:Bool} {o:Option α} (h:b=true):chk b o=o:=by rw[h];rfl
theorem wrap64 {n:Int} (h1 : -9223372036854775808≤n) (h2:n≤9223372036854775807):IntKind.wrap .i64 n=n:=by
 simp[IntKind.wrap,IntKind.signed,IntKind.bits]
 omega
def cvA (a:rf2Atom):ql:=⟨a.qb,a.qa.take 5⟩
def cvL (x:rf3Lit):ruLit:=⟨x.qo,cvA x.qc⟩
def cvR (r:rf3Rule):ruRule:=⟨cvA r.qe,(r.qd.take 5).map cvL⟩
def cvF (f:apiFact):apiFact:=⟨f.qb,f.qa.take 9⟩
theorem qcQ {l:List Int} (n:Nat):sub l 0 (if (n:Int)<(l.length:Int) then (n:Int) else (l.length:Int))=some (l.take n):=by
 unfold sub
 split
 ·rw[if_pos ⟨by omega,by omega,by omega⟩]
  simp
 ·rw[if_pos ⟨by omega,by omega,by omega⟩]
  simp[List.take_of_length_le (show l.length≤n by omega)]
theorem qbJ {l:List Int} (h:l.length≤1000):QG l=some l:=by
 unfold QG;rw[VC (JN (by omega) (by omega))]
theorem qdS (a:rf2Atom):Vf a=some (cvA a):=by
 unfold Vf;have:=qcQ (l:=a.qa) 5;rw[show ((5:Nat):Int)=5 from rfl]at this;rw[this];show (QG (a.qa.take 5)).bind _=_;rw[qbJ (by simp;omega)];rfl
theorem qhX (l:List Int):Nx l=some (l.take 9):=by
 unfold Nx;have:=qcQ (l:=l) 9;rw[show ((9:Nat):Int)=9 from rfl]at this;rw[this];show (QG (l.take 9)).bind _=_;rw[qbJ (by simp;omega)];rfl
theorem qha (K:ruRule→Option (List ruRule)):∀ (body:List rf3Lit) (k:Nat) (rel:Int) (args:List Int) (acc:List ruLit),acc.length≤k→acc.length≤5→Qx K body k rel args acc=K ⟨⟨rel,args⟩,acc++(body.take (5 - k)).map cvL⟩
 | [],k,rel,args,acc,_,_=>by simp[Qx]
 | x::r,k,rel,args,acc,h1,h2=>by
  rw[Qx]
  by_cases hk:k<5
  ·rw[decide_eq_true (by omega:(k:Int)<5),cond_true,qdS];show chk _ _=_;rw[VC (JN (by omega) (by simp;omega))];unfold Yf;rw[qha K r (k+1) rel args _ (by simp;omega) (by simp;omega)];obtain⟨m,hm⟩:∃ m,5 - k=m+1:=⟨5 - k - 1,by omega⟩;rw[hm,show 5 - (k+1)=m by omega,List.take_succ_cons,List.map_cons,List.append_assoc];rfl
  ·rw[decide_eq_false (by omega:¬ (k:Int)<5),cond_false];unfold Yf;rw[qha K r (k+1) rel args acc (by omega) h2,show 5 - (k+1)=0 by omega,show 5 - k=0 by omega]
   simp
theorem qih (K:List ruRule→Option (List ruRule)):∀ (l:List rf3Rule) (k:Nat) (acc:List ruRule),(∀ r,r∈l→lenOk r.qd=true)→acc.length≤k→acc.length≤12→Jw K l k acc=K (acc++(l.take (12 - k)).map cvR)
 | [],k,acc,_,_,_=>by simp[Jw]
 | x::r,k,acc,hb,h1,h2=>by
  rw[Jw]
  by_cases hk:k > 11
  ·rw[decide_eq_true (by omega:(k:Int) > 11),cond_true,show 12 - k=0 by omega]
   simp
  ·rw[decide_eq_false (by omega:¬ (k:Int) > 11),cond_false,qdS];show chk (lenOk x.qd) _=_;rw[VC (hb x (List.mem_cons_self ..)),qha _ _ _ _ _ _ (by simp) (by simp)];show chk _ _=_;rw[VC (JN (by omega) (by simp;omega)),qih K r (k+1) _ (fun q hq=>hb q (List.mem_cons_of_mem _ hq)) (by simp;omega) (by simp;omega)];obtain⟨m,hm⟩:∃ m,12 - k=m+1:=⟨12 - k - 1,by omega⟩;rw[hm,show 12 - (k+1)=m by omega,List.take_succ_cons,List.map_cons,List.append_assoc];rfl
theorem qik {l:List rf3Rule} (hl:lenOk l=true) (hb:∀ r,r∈l→lenOk r.qd=true):DQ l=some ((l.take 12).map cvR):=by
 unfold DQ;rw[VC hl,qih _ _ _ _ hb (by simp) (by simp)];rfl
theorem qdD (K:List apiFact→Option (List apiFact)):∀ (l:List apiFact) (k:Nat) (acc:List apiFact),acc.length≤k→acc.length≤26→Qb K l k acc=K (acc++(l.take (26 - k)).map cvF)
 | [],k,acc,_,_=>by simp[Qb]
 | x::r,k,acc,h1,h2=>by
  rw[Qb]
  by_cases hk:k > 25
  ·rw[decide_eq_true (by omega:(k:Int) > 25),cond_true,show 26 - k=0 by omega]
   simp
  ·rw[decide_eq_false (by omega:¬ (k:Int) > 25),cond_false,qhX];show chk _ _=_;rw[VC (JN (by omega) (by simp;omega)),qdD K r (k+1) _ (by simp;omega) (by simp;omega)];obtain⟨m,hm⟩:∃ m,26 - k=m+1:=⟨26 - k - 1,by omega⟩;rw[hm,show 26 - (k+1)=m by omega,List.take_succ_cons,List.map_cons,List.append_assoc];rfl
theorem qgr {l:List apiFact} (hl:lenOk l=true):Vh l=some ((l.take 26).map cvF):=by
 unfold Vh;rw[VC hl,qdD _ _ _ _ (by simp) (by simp)];rfl
def groundP (f:apiFact):Prop:=(0≤f.qb∧f.qb≤5)∧(1≤f.qa.length∧f.qa.length≤2)∧∀ x,x∈f.qa→1≤x∧x≤6
def fitP (rel:Int) (args:List Int):Prop:=(0≤rel∧rel≤5)∧(1≤args.length∧args.length≤2)∧∀ x,x∈args → -6≤x∧x≤7
instance (f:apiFact):Decidable (groundP f):=by unfold groundP;infer_instance
instance (rel:Int) (args:List Int):Decidable (fitP rel args):=by unfold fitP;infer_instance
theorem qbq (K:Option Bool):∀ (args:List Int) (k:Nat),jT K args k=if ∀ x,x∈args→1≤x∧x≤6 then K else some false
 | [],k=>by simp[jT]
 | x::r,k=>by
  rw[jT];unfold Xn;rw[qbq K r (k+1)]
  by_cases h1:x<1
  ·rw[decide_eq_true h1,cond_true,cond_true,if_neg (fun h=>by have:=h x (List.mem_cons_self ..);omega)]
  ·rw[decide_eq_false h1,cond_false]
   by_cases h2:x > 6
   ·rw[decide_eq_true h2,cond_true,if_neg (fun h=>by have:=h x (List.mem_cons_self ..);omega)]
   ·rw[decide_eq_false h2,cond_false]
    have:(∀ y,y∈x::r→1≤y∧y≤6)↔∀ y,y∈r→1≤y∧y≤6:=by
     simp only[List.mem_cons,forall_eq_or_imp];exact⟨fun h=>h.2,fun h=>⟨by omega,h⟩⟩
    simp only[this]
theorem qeM {f:apiFact} (hl:lenOk f.qa=true):Zr f=some (decide (groundP f)):=by
 unfold Zr;rw[VC hl,qbq];unfold JB Qf
 by_cases h:∀ x,x∈f.qa→1≤x∧x≤6
 ·rw[if_pos h]
  by_cases h1:f.qb ≥ 0
  ·rw[decide_eq_true h1,cond_true]
   by_cases h2:f.qb≤5
   ·rw[decide_eq_true h2,cond_true]
    by_cases h3:(f.qa.length:Int) ≥ 1
    ·rw[decide_eq_true h3,cond_true]
     congr 1
     rw[decide_eq_decide];unfold groundP
     constructor
     ·intro h4;exact⟨⟨h1,h2⟩,⟨by omega,by omega⟩,h⟩
     ·intro h4;have:=h4.2.1.2;omega
    ·rw[decide_eq_false h3,cond_false,decide_eq_false (fun h4:groundP f=>by have:=h4.2.1.1;omega)]
   ·rw[decide_eq_false h2,cond_false,decide_eq_false (fun h4:groundP f=>h2 h4.1.2)]
  ·rw[decide_eq_false h1,cond_false,decide_eq_false (fun h4:groundP f=>h1 h4.1.1)]
 ·rw[if_neg h,decide_eq_false (fun h4:groundP f=>h h4.2.2)]
theorem qfA (K:Option Bool):∀ (args:List Int) (k:Nat),Js K args k=if ∀ x,x∈args → -6≤x∧x≤7 then K else some false
 | [],k=>by simp[Js]
 | x::r,k=>by
  rw[Js];unfold Yl;rw[qfA K r (k+1)]
  by_cases h1:x < -6
  ·rw[decide_eq_true h1,cond_true,cond_true,if_neg (fun h=>by have:=h x (List.mem_cons_self ..);omega)]
  ·rw[decide_eq_false h1,cond_false]
   by_cases h2:x > 7
   ·rw[decide_eq_true h2,cond_true,if_neg (fun h=>by have:=h x (List.mem_cons_self ..);omega)]
   ·rw[decide_eq_false h2,cond_false]
    have:(∀ y,y∈x::r → -6≤y∧y≤7)↔∀ y,y∈r → -6≤y∧y≤7:=by
     simp only[List.mem_cons,forall_eq_or_imp];exact⟨fun h=>h.2,fun h=>⟨by omega,h⟩⟩
    simp only[this]
theorem qdA {a:rf2Atom} (hl:lenOk a.qa=true):Va a=some (decide (fitP a.qb a.qa)):=by
 unfold Va;rw[VC hl,qfA];unfold Qq QI
 by_cases h:∀ x,x∈a.qa → -6≤x∧x≤7
 ·rw[if_pos h]
  by_cases h1:a.qb ≥ 0
  ·rw[decide_eq_true h1,cond_true]
   by_cases h2:a.qb≤5
   ·rw[decide_eq_true h2,cond_true]
    by_cases h3:(a.qa.length:Int) ≥ 1
    ·rw[decide_eq_true h3,cond_true]
     congr 1
     rw[decide_eq_decide];unfold fitP
     constructor
     ·intro h4;exact⟨⟨h1,h2⟩,⟨by omega,by omega⟩,h⟩
     ·intro h4;have:=h4.2.1.2;omega
    ·rw[decide_eq_false h3,cond_false,decide_eq_false (fun h4:fitP _ _=>by have:=h4.2.1.1;omega)]
   ·rw[decide_eq_false h2,cond_false,decide_eq_false (fun h4:fitP _ _=>h2 h4.1.2)]
  ·rw[decide_eq_false h1,cond_false,decide_eq_false (fun h4:fitP _ _=>h1 h4.1.1)]
 ·rw[if_neg h,decide_eq_false (fun h4:fitP _ _=>h h4.2.2)]
theorem Do {a b:Nat} (ha:a<256) (hb:b<256):iOr .i64 (a:Int) (b:Int)=((a ||| b:Nat):Int):=by
 have h:a ||| b<256:=Nat.or_lt_two_pow (n:=8) ha hb
 unfold iOr
 have e:(BitVec.ofInt IntKind.i64.bits (a:Int) ||| BitVec.ofInt IntKind.i64.bits (b:Int)).toNat=a ||| b:=by
  rw[BitVec.toNat_or]
  have e1:∀ n:Nat,n<256→(BitVec.ofInt IntKind.i64.bits (n:Int)).toNat=n:=fun n hn=>by
   rw[BitVec.ofInt_natCast,BitVec.toNat_ofNat];exact Nat.mod_eq_of_lt (by show n<2 ^ 64;omega)
  rw[e1 a ha,e1 b hb]
 rw[e,wrap64 (by omega) (by omega)]
theorem qhl {x:Int} (h0:0≤x) (h1:x≤7):iShl .i64 1 x=((2 ^ x.toNat:Nat):Int)∧2 ^ x.toNat<256:=by
 obtain⟨n,rfl⟩:=Int.eq_ofNat_of_zero_le h0
 have hn:n≤7:=by omega
 match n,hn with
 | 0,_ | 1,_ | 2,_ | 3,_ | 4,_ | 5,_ | 6,_ | 7,_=>decide
theorem qbS (K:Int→Option Int):∀ (args:List Int) (k m:Nat),m<256→(∀ x,x∈args→x≤7)→∃ m':Nat,m'<256∧Jv K args k (m:Int)=K (m':Int)∧∀ i,i<8→(m'.testBit i=true↔m.testBit i=true∨(i:Int)∈args)
 | [],k,m,hm,_=>⟨m,hm,by rw[Jv],fun i _=>by simp⟩
 | x::r,k,m,hm,hx=>by
  have hx0:=hx x (List.mem_cons_self ..)
  have hr:∀ y,y∈r→y≤7:=fun y hy=>hx y (List.mem_cons_of_mem _ hy)
  rw[Jv];unfold Yn
  by_cases h0:x ≥ 0
  ·rw[decide_eq_true h0,cond_true,VC rfl];obtain⟨e1,e2⟩:=qhl h0 hx0;rw[e1,Do hm e2];obtain⟨m',q1,q2,q3⟩:=qbS K r (k+1) _ (Nat.or_lt_two_pow (n:=8) hm e2) hr;refine⟨m',q1,q2,fun i hi=>?_⟩;rw[q3 i hi,Nat.testBit_or,Bool.or_eq_true,Nat.testBit_two_pow,decide_eq_true_eq,List.mem_cons]
   have:x.toNat=i↔(i:Int)=x:=by omega
   rw[this]
   constructor
   ·rintro ((h | h) | h)
    ·exact .inl h
    ·exact .inr (.inl h)
    ·exact .inr (.inr h)
   ·rintro (h | h | h)
    ·exact .inl (.inl h)
    ·exact .inl (.inr h)
    ·exact .inr h
  ·rw[decide_eq_false h0,cond_false];obtain⟨m',q1,q2,q3⟩:=qbS K r (k+1) m hm hr;refine⟨m',q1,q2,fun i hi=>?_⟩;rw[q3 i hi,List.mem_cons]
   have:¬ (i:Int)=x:=by omega
   simp[this]
theorem qcG {a:rf2Atom} (hl:lenOk a.qa=true) (hx:∀ x,x∈a.qa→x≤7):∃ m:Nat,m<256∧Zs a=some (m:Int)∧∀ i,i<8→(m.testBit i=true↔(i:Int)∈a.qa):=by
 unfold Zs;rw[VC hl];obtain⟨m,h1,h2,h3⟩:=qbS Qt a.qa 0 0 (by omega) hx;exact⟨m,h1,h2,fun i hi=>by rw[h3 i hi];simp⟩
theorem qhe {a b:Nat} (ha:a<256) (hb:b<256) (h:∀ i,i<8→(a.testBit i=true↔b.testBit i=true)):a=b:=by
 refine Nat.eq_of_testBit_eq fun i=>?_
 by_cases hi:i<8
 ·rw[Bool.eq_iff_iff];exact h i hi
 ·have h8:256≤2 ^ i:=by
   calc 256=2 ^ 8:=by decide
    _≤2 ^ i:=Nat.pow_le_pow_right (by omega) (by omega)
  rw[Nat.testBit_lt_two_pow (by omega),Nat.testBit_lt_two_pow (by omega)]
end Go.AM
namespace Go.AM
open Go.Proofs
open Classical
def szF (f:apiFact):qi:=⟨f.qb,(f.qa.length:Int)⟩
def szA (a:rf2Atom):qi:=⟨a.qb,(a.qa.length:Int)⟩
def sizesR (r:rf3Rule):List qi:=szA r.qe::r.qd.map fun b=>szA b.qc
def conP (S:List qi):Prop:=∀ x,x∈S→∀ y,y∈S→x.f_0=y.f_0→x.f_1=y.f_1
def safeR (r:rf3Rule):Prop:=∀ i:Nat,i<8→(((i:Int)∈r.qe.qa∨∃ b,b∈r.qd∧(i:Int)∈b.qc.qa)↔∃ b,b∈r.qd∧b.qo=false∧(i:Int)∈b.qc.qa)
def okR (r:rf3Rule):Prop:=fitP r.qe.qb r.qe.qa∧r.qd.length≤3∧(∀ b,b∈r.qd→fitP b.qc.qb b.qc.qa)∧safeR r
def VR (l:List rf3Rule) (facts:List apiFact):Prop:=l.length≤10∧facts.length≤20∧(∀ f,f∈facts→groundP f)∧(∀ r,r∈l→okR r)∧conP (facts.map szF++l.flatMap sizesR)
def okArgs (l:List Int):Prop:=lenOk l=true∧∀ x,x∈l→wfI .i64 x=true
def okAtom (a:rf2Atom):Prop:=wfI .i64 a.qb=true∧okArgs a.qa
def okRule (r:rf3Rule):Prop:=okAtom r.qe∧lenOk r.qd=true∧∀ b,b∈r.qd→okAtom b.qc
def okRules (l:List rf3Rule):Prop:=lenOk l=true∧∀ r,r∈l→okRule r
def okFact (f:apiFact):Prop:=wfI .i64 f.qb=true∧okArgs f.qa
def okFacts (l:List apiFact):Prop:=lenOk l=true∧∀ f,f∈l→okFact f
theorem qcH (x:qi) (K:Option Bool):∀ (S:List qi) (k:Nat),Jd x K S k=if ∀ y,y∈S→x.f_0=y.f_0→x.f_1=y.f_1 then K else some false
 | [],k=>by simp[Jd]
 | y::r,k=>by
  rw[Jd];unfold Xi;rw[qcH x K r (k+1)];simp only[List.mem_cons,forall_eq_or_imp]
  by_cases h1:x.f_0=y.f_0
  ·have:(x.f_0 == y.f_0)=true:=by simp[h1]
   rw[this,cond_true]
   by_cases h2:x.f_1=y.f_1
   ·have:(x.f_1 != y.f_1)=false:=by simp[h2]
    rw[this,cond_false]
    simp[h2]
   ·have:(x.f_1 != y.f_1)=true:=by simp[h2]
    rw[this,cond_true,if_neg (fun h=>h2 (h.1 h1))]
  ·have:(x.f_0 == y.f_0)=false:=by simp[h1]
   rw[this,cond_false,cond_false]
   simp[h1]
theorem qcI (S:List qi) (hS:lenOk S=true):∀ (T:List qi) (k:Nat),ju S jr T k=if ∀ x,x∈T→∀ y,y∈S→x.f_0=y.f_0→x.f_1=y.f_1 then some true else some false
 | [],k=>by simp[ju,jr]
 | x::r,k=>by
  rw[ju,VC hS,qcH];unfold Jz;rw[qcI S hS r (k+1)];simp only[List.mem_cons,forall_eq_or_imp]
  by_cases h1:∀ y,y∈S→x.f_0=y.f_0→x.f_1=y.f_1
  ·rw[if_pos h1]
   by_cases h2:∀ a,a∈r→∀ y,y∈S→a.f_0=y.f_0→a.f_1=y.f_1
   ·rw[if_pos h2,if_pos ⟨h1,h2⟩]
   ·rw[if_neg h2,if_neg (fun h=>h2 h.2)]
  ·rw[if_neg h1,if_neg (fun h=>h1 h.1)]
theorem qfF {S:List qi} (hS:lenOk S=true):jd S=if conP S then some true else some false:=by
 unfold jd;rw[VC hS,qcI S hS]
 by_cases h:conP S
 ·rw[if_pos h];exact if_pos h
 ·rw[if_neg h];exact if_neg h
theorem qcJ (K:List qi→Int→Int→Option Bool):∀ (body:List rf3Lit) (k:Nat) (S:List qi) (a b:Nat),(∀ x,x∈body→okAtom x.qc)→a<256→b<256→S.length+body.length≤1000000 →
  ((∀ x,x∈body→fitP x.qc.qb x.qc.qa)∧∃ a' b':Nat,a'<256∧b'<256∧jy K body k S a b=K (S++body.map fun x=>szA x.qc) a' b' ∧
   (∀ i,i<8→(a'.testBit i=true↔a.testBit i=true∨∃ x,x∈body∧(i:Int)∈x.qc.qa))∧∀ i,i<8→(b'.testBit i=true↔b.testBit i=true∨∃ x,x∈body∧x.qo=false∧(i:Int)∈x.qc.qa)) ∨
  (¬ (∀ x,x∈body→fitP x.qc.qb x.qc.qa)∧jy K body k S a b=some false)
 | [],k,S,a,b,_,ha,hb,_=>.inl ⟨fun x hx=>by simp at hx,a,b,ha,hb,by rw[jy];simp,fun i _=>by simp,fun i _=>by simp⟩
 | x::r,k,S,a,b,ho,ha,hb,hl=>by
  have hox:=ho x (List.mem_cons_self ..);rw[jy,qdA hox.2.1];simp only[Option.bind_some]
  by_cases hf:fitP x.qc.qb x.qc.qa
  ·rw[decide_eq_true hf];simp only[Bool.not_true,cond_false];rw[VC (JN (by omega) (by simp at hl ⊢;omega))];obtain⟨m,hm,hv,hbit⟩:=qcG hox.2.1 (fun y hy=>(hf.2.2 y hy).2);rw[hv];simp only[Option.bind_some];unfold Xj
   have ho':∀ y,y∈r→okAtom y.qc:=fun y hy=>ho y (List.mem_cons_of_mem _ hy)
   have hl':(S++[qi.mk x.qc.qb (x.qc.qa.length:Int)]).length+r.length≤1000000:=by simp at hl ⊢;omega
   have ham:a ||| m<256:=Nat.or_lt_two_pow (n:=8) ha hm
   have hbm:b ||| m<256:=Nat.or_lt_two_pow (n:=8) hb hm
   have key:∀ b2:Nat,b2<256→(∀ i,i<8→(b2.testBit i=true↔b.testBit i=true∨(x.qo=false∧(i:Int)∈x.qc.qa))) →
     ((∀ y,y∈x::r→fitP y.qc.qb y.qc.qa)∧∃ a' b':Nat,a'<256∧b'<256∧jy K r (k+1) (S++[qi.mk x.qc.qb (x.qc.qa.length:Int)]) ((a ||| m:Nat):Int) (b2:Int)=K (S++(x::r).map fun x=>szA x.qc) a' b' ∧
      (∀ i,i<8→(a'.testBit i=true↔a.testBit i=true∨∃ y,y∈x::r∧(i:Int)∈y.qc.qa))∧∀ i,i<8→(b'.testBit i=true↔b.testBit i=true∨∃ y,y∈x::r∧y.qo=false∧(i:Int)∈y.qc.qa)) ∨
     (¬ (∀ y,y∈x::r→fitP y.qc.qb y.qc.qa)∧jy K r (k+1) (S++[qi.mk x.qc.qb (x.qc.qa.length:Int)]) ((a ||| m:Nat):Int) (b2:Int)=some false):=by
    intro b2 hb2 hbits
    rcases qcJ K r (k+1) _ (a ||| m) b2 ho' ham hb2 hl' with ⟨q1,a',b',q2,q3,q4,q5,q6⟩ | ⟨q1,q2⟩
    ·left
     refine⟨fun y hy=>?_,a',b',q2,q3,?_,fun i hi=>?_,fun i hi=>?_⟩
     ·rcases List.mem_cons.1 hy with rfl | hy
      ·exact hf
      ·exact q1 y hy
     ·rw[q4,List.map_cons,List.append_assoc];rfl
     ·rw[q5 i hi,Nat.testBit_or,Bool.or_eq_true,hbit i hi];simp only[List.mem_cons]
      constructor
      ·rintro ((h | h) | ⟨y,hy,h⟩)
       ·exact .inl h
       ·exact .inr ⟨x,.inl rfl,h⟩
       ·exact .inr ⟨y,.inr hy,h⟩
      ·rintro (h | ⟨y,rfl | hy,h⟩)
       ·exact .inl (.inl h)
       ·exact .inl (.inr h)
       ·exact .inr ⟨y,hy,h⟩
     ·rw[q6 i hi,hbits i hi];simp only[List.mem_cons]
      constructor
      ·rintro ((h | h) | ⟨y,hy,h⟩)
       ·exact .inl h
       ·exact .inr ⟨x,.inl rfl,h⟩
       ·exact .inr ⟨y,.inr hy,h⟩
      ·rintro (h | ⟨y,rfl | hy,h⟩)
       ·exact .inl (.inl h)
       ·exact .inl (.inr h)
       ·exact .inr ⟨y,hy,h⟩
    ·exact .inr ⟨fun h=>q1 fun y hy=>h y (List.mem_cons_of_mem _ hy),q2⟩
   cases hn:x.qo with
   | true =>
    simp only[Bool.not_true,cond_false];rw[Do ha hm];exact key b hb (fun i _=>by simp[hn])
   | false =>
    simp only[Bool.not_false,cond_true];rw[Do ha hm,Do hb hm];refine key (b ||| m) hbm (fun i hi=>?_);rw[Nat.testBit_or,Bool.or_eq_true,hbit i hi]
    simp[hn]
  ·rw[decide_eq_false hf];simp only[Bool.not_false,cond_true];exact .inr ⟨fun h=>hf (h x (List.mem_cons_self ..)),by first | rfl | trivial⟩
theorem qcK (K:List qi→Option Bool):∀ (l:List rf3Rule) (k:Nat) (S:List qi),(∀ r,r∈l→okRule r)→S.length+5 * l.length≤100000→qX K l k S=if ∀ r,r∈l→okR r then K (S++l.flatMap sizesR) else some false
 | [],k,S,_,_=>by simp[qX]
 | x::r,k,S,ho,hl=>by
  obtain⟨hoh,hob,hol⟩:=ho x (List.mem_cons_self ..);rw[qX,qdA hoh.2.1];simp only[Option.bind_some,List.mem_cons,forall_eq_or_imp];unfold Xk
  by_cases hf:fitP x.qe.qb x.qe.qa
  ·rw[decide_eq_true hf];simp only[Bool.not_true,cond_false]
   by_cases h3:x.qd.length≤3
   ·rw[decide_eq_false (by omega:¬ (x.qd.length:Int) > 3),cond_false,VC (JN (by omega) (by simp at hl ⊢;omega))];obtain⟨m,hm,hv,hbit⟩:=qcG hoh.2.1 (fun y hy=>(hf.2.2 y hy).2);rw[hv];simp only[Option.bind_some];rw[VC hob]
    rcases qcJ (Jk (qX K r (k+1))) x.qd 0 (S++[qi.mk x.qe.qb (x.qe.qa.length:Int)]) m 0 hol hm (by omega) (by simp at hl ⊢;omega) with ⟨q1,a',b',q2,q3,q4,q5,q6⟩ | ⟨q1,q2⟩
    ·rw[show ((0:Nat):Int)=0 from rfl]at q4;rw[q4];unfold Jk
     have hsafe:a'=b'↔safeR x:=by
      constructor
      ·rintro rfl i hi
       have h1:=q5 i hi;have h2:=q6 i hi;rw[hbit i hi]at h1;rw[h2]at h1;simp only[Nat.zero_testBit,Bool.false_eq_true,false_or]at h1;exact h1.symm
      ·intro h
       refine qhe q2 q3 fun i hi=>?_
       rw[q5 i hi,q6 i hi,hbit i hi];simp only[Nat.zero_testBit,Bool.false_eq_true,false_or];exact h i hi
     by_cases hs:safeR x
     ·have hab:=hsafe.2 hs
      have:((a':Int) != (b':Int))=false:=by simp[hab]
      rw[this,cond_false,qcK K r (k+1) _ (fun q hq=>ho q (List.mem_cons_of_mem _ hq)) (by simp at hl ⊢;omega)];have hokx:okR x:=⟨hf,h3,q1,hs⟩
      have e:S++[qi.mk x.qe.qb (x.qe.qa.length:Int)]++x.qd.map (fun x=>szA x.qc)++r.flatMap sizesR=S++(x::r).flatMap sizesR:=by
       simp[sizesR,szA]
      rw[e];simp only[hokx,true_and]
     ·have hab:a'≠b':=fun e=>hs (hsafe.1 e)
      have:((a':Int) != (b':Int))=true:=by simp;omega
      rw[this,cond_true,if_neg (fun h=>hs h.1.2.2.2)]
    ·rw[show ((0:Nat):Int)=0 from rfl]at q2;rw[q2,if_neg (fun h=>q1 h.1.2.2.1)]
   ·rw[decide_eq_true (by omega:(x.qd.length:Int) > 3),cond_true,if_neg (fun h=>h3 h.1.2.1)]
  ·rw[decide_eq_false hf];simp only[Bool.not_false,cond_true];rw[if_neg (fun h=>hf h.1.1)]
theorem qcL (K:List qi→Option Bool):∀ (l:List apiFact) (k:Nat) (S:List qi),(∀ f,f∈l→okFact f)→S.length+l.length≤100000→JZ K l k S=if ∀ f,f∈l→groundP f then K (S++l.map szF) else some false
 | [],k,S,_,_=>by simp[JZ]
 | x::r,k,S,ho,hl=>by
  obtain⟨_,hox,_⟩:=ho x (List.mem_cons_self ..);rw[JZ,qeM hox];simp only[Option.bind_some,List.mem_cons,forall_eq_or_imp]
  by_cases hf:groundP x
  ·rw[decide_eq_true hf];simp only[Bool.not_true,cond_false];rw[VC (JN (by omega) (by simp at hl ⊢;omega)),qcL K r (k+1) _ (fun q hq=>ho q (List.mem_cons_of_mem _ hq)) (by simp at hl ⊢;omega)]
   have e:S++[qi.mk x.qb (x.qa.length:Int)]++r.map szF=S++(x::r).map szF:=by simp[szF]
   rw[e];simp only[hf,true_and]
  ·rw[decide_eq_false hf];simp only[Bool.not_false,cond_true];rw[if_neg (fun h=>hf h.1)]
theorem qcn {l:List rf3Rule} {facts:List apiFact} (hl:okRules l) (hf:okFacts facts):Zg l facts=some (decide (VR l facts)):=by
 have key:Zg l facts=if VR l facts then some true else some false:=by
  unfold Zg XH
  by_cases h1:l.length≤10
  ·rw[decide_eq_false (by omega:¬ (l.length:Int) > 10),cond_false]
   by_cases h2:facts.length≤20
   ·rw[decide_eq_false (by omega:¬ (facts.length:Int) > 20),cond_false,VC hf.1,qcL _ _ _ _ hf.2 (by simp;omega)]
    by_cases h3:∀ f,f∈facts→groundP f
    ·rw[if_pos h3];unfold QJ;rw[VC hl.1,List.nil_append,qcK _ _ _ _ hl.2 (by simp;omega)]
     by_cases h4:∀ r,r∈l→okR r
     ·rw[if_pos h4,qfF]
      ·by_cases h5:conP (facts.map szF++l.flatMap sizesR)
       ·rw[if_pos h5,if_pos ⟨h1,h2,h3,h4,h5⟩]
       ·rw[if_neg h5,if_neg (fun h=>h5 h.2.2.2.2)]
      ·refine qZ ?_
       have:∀ l:List rf3Rule,(∀ r,r∈l→okR r)→(l.flatMap sizesR).length≤4 * l.length:=by
        intro l hl
        induction l with
        | nil=>simp
        | cons r l ih =>
         have h5:=ih fun q hq=>hl q (List.mem_cons_of_mem _ hq)
         have h6:=(hl r (List.mem_cons_self ..)).2.1;simp only[List.flatMap_cons,List.length_append,List.length_cons,sizesR,List.length_map];omega
       have:=this l h4;simp only[List.length_append,List.length_map];omega
     ·rw[if_neg h4,if_neg (fun h=>h4 h.2.2.2.1)]
    ·rw[if_neg h3,if_neg (fun h=>h3 h.2.2.1)]
   ·rw[decide_eq_true (by omega:(facts.length:Int) > 20),cond_true,if_neg (fun h=>h2 h.2.1)]
  ·rw[decide_eq_true (by omega:(l.length:Int) > 10),cond_true,cond_true,if_neg (fun h=>h1 h.1)]
 rw[key]
 by_cases h:VR l facts <;> simp[h]
end Go.AM
namespace Go.AM
open Go.Proofs
open Classical
theorem qfr {fuel:Nat} (hf:4≤fuel) {l:List Int} (h1:1≤l.length) (h2:l.length≤2):∃ m,Xu fuel l=some m∧m∈l∧∀ x,x∈l→m≤x:=by
 obtain⟨f,rfl⟩:∃ f,fuel=f+4:=⟨fuel - 4,by omega⟩
 match l,h1,h2 with
 | [a],_,_ =>
  refine⟨a,?_,by simp,by simp⟩
  simp[Xu,JU,JV,idx]
 | [a,b],_,_ =>
  have e:Xu (f+4) [a,b]=some (if b<a then b else a):=by
   simp[Xu,JU,JV,idx,wrap64]
  rw[e]
  by_cases h:b<a
  ·rw[if_pos h];exact⟨b,rfl,by simp,by simp;omega⟩
  ·rw[if_neg h];exact⟨a,rfl,by simp,by simp;omega⟩
theorem qfu {fuel:Nat} (hf:4≤fuel) {l:List Int} (h1:1≤l.length) (h2:l.length≤2):∃ m,Qh fuel l=some m∧m∈l∧∀ x,x∈l→x≤m:=by
 obtain⟨f,rfl⟩:∃ f,fuel=f+4:=⟨fuel - 4,by omega⟩
 match l,h1,h2 with
 | [a],_,_ =>
  refine⟨a,?_,by simp,by simp⟩
  simp[Qh,jZ,Jy,idx]
 | [a,b],_,_ =>
  have e:Qh (f+4) [a,b]=some (if b > a then b else a):=by
   simp[Qh,jZ,Jy,idx,wrap64]
  rw[e]
  by_cases h:b > a
  ·rw[if_pos h];exact⟨b,rfl,by simp,by simp;omega⟩
  ·rw[if_neg h];exact⟨a,rfl,by simp,by simp;omega⟩
def rangeP (s:qi):Prop:=(0≤s.f_0∧s.f_0≤5)∧1≤s.f_1∧s.f_1≤2
def Tab (n:List Int) (S:List qi):Prop:=n.length=6∧(∀ s,s∈S→rangeP s)∧∀ i:Nat,i<6→(n[i]? = some 0∧∀ s,s∈S→s.f_0≠i)∨∃ k,n[i]? = some k∧k≠0∧(⟨i,k⟩:qi)∈S∧∀ s,s∈S→s.f_0=i→s.f_1=k
theorem Tab.zero:Tab (List.replicate 6 0) []:=⟨by simp,fun s hs=>by simp at hs,fun i hi=>.inl ⟨by rw[List.getElem?_replicate,if_pos hi],fun s hs=>by simp at hs⟩⟩
theorem Tab.con {n:List Int} {S:List qi} (h:Tab n S):conP S:=by
 intro x hx y hy hxy;obtain⟨⟨r1,r2⟩,_⟩:=h.2.1 x hx
 rcases h.2.2 x.f_0.toNat (by omega) with ⟨_,q⟩ | ⟨k,_,_,_,q⟩
 ·exact absurd (show x.f_0=(x.f_0.toNat:Int) by omega) (q x hx)
 ·rw[q x hx (by omega),q y hy (by omega)]
theorem Tab.add {n:List Int} {S:List qi} (h:Tab n S) (rel k:Int) :
  ((rangeP ⟨rel,k⟩∧conP (S++[⟨rel,k⟩]))∧∃ n',Qd n rel k=some (true,n')∧Tab n' (S++[⟨rel,k⟩]))∨(¬ (rangeP ⟨rel,k⟩∧conP (S++[⟨rel,k⟩]))∧Qd n rel k=some (false,n)):=by
 unfold Qd jA
 by_cases h1:rel<0
 ·rw[decide_eq_true h1,cond_true,cond_true];exact .inr ⟨fun h2=>by have:=h2.1.1.1;simp only at this;omega,rfl⟩
 rw[decide_eq_false h1,cond_false]
 by_cases h2:rel ≥ 6
 ·rw[decide_eq_true h2,cond_true,cond_true];exact .inr ⟨fun h2=>by have:=h2.1.1.2;simp only at this;omega,rfl⟩
 rw[decide_eq_false h2,cond_false]
 by_cases h3:k<1
 ·rw[decide_eq_true h3,cond_true,cond_true];exact .inr ⟨fun h2=>by have:=h2.1.2.1;simp only at this;omega,rfl⟩
 rw[decide_eq_false h3,cond_false]
 by_cases h4:k > 2
 ·rw[decide_eq_true h4,cond_true,cond_true];exact .inr ⟨fun h2=>by have:=h2.1.2.2;simp only at this;omega,rfl⟩
 rw[decide_eq_false h4,cond_false];have hr:rangeP ⟨rel,k⟩:=⟨⟨by simp only;omega,by simp only;omega⟩,by simp only;omega,by simp only;omega⟩;obtain⟨i,rfl⟩:∃ i:Nat,rel=i:=⟨rel.toNat,by omega⟩
 have hi:i<6:=by omega
 have e0:(0+Int.toNat (i:Int) * 1)=i:=by omega
 rw[VC (decide_eq_true (by omega)),e0]
 have hset:∀ m:Int,n[i]? = some m→(m=0∨m=k)→conP (S++[⟨i,k⟩])∧Tab (n.set i k) (S++[⟨i,k⟩]):=by
  intro m hm hmk
  have hq:∀ s,s∈S→s.f_0=i→s.f_1=k:=by
   rcases h.2.2 i hi with ⟨q1,q2⟩ | ⟨k',q1,q2,q3,q4⟩
   ·exact fun s hs e=>absurd e (q2 s hs)
   ·rw[hm]at q1;cases q1;intro s hs e;rw[q4 s hs e]
    rcases hmk with h5 | h5
    ·exact absurd h5 q2
    ·exact h5
  have hTab:Tab (n.set i k) (S++[⟨i,k⟩]):=by
   refine⟨by simp[h.1],fun s hs=>?_,fun j hj=>?_⟩
   ·rcases List.mem_append.1 hs with hs | hs
    ·exact h.2.1 s hs
    ·rw[List.mem_singleton.1 hs];exact hr
   ·by_cases hij:j=i
    ·subst hij;refine .inr ⟨k,by rw[List.getElem?_set_self (by rw[h.1];omega)],by omega,by simp,fun s hs e=>?_⟩
     rcases List.mem_append.1 hs with hs | hs
     ·exact hq s hs e
     ·rw[List.mem_singleton.1 hs]
    ·rw[List.getElem?_set_ne (fun e=>hij e.symm)]
     rcases h.2.2 j hj with ⟨q1,q2⟩ | ⟨k',q1,q2,q3,q4⟩
     ·refine .inl ⟨q1,fun s hs=>?_⟩
      rcases List.mem_append.1 hs with hs | hs
      ·exact q2 s hs
      ·rw[List.mem_singleton.1 hs];simp only;omega
     ·refine .inr ⟨k',q1,q2,List.mem_append_left _ q3,fun s hs e=>?_⟩
      rcases List.mem_append.1 hs with hs | hs
      ·exact q4 s hs e
      ·rw[List.mem_singleton.1 hs]at e;simp only at e;omega
  exact⟨hTab.con,hTab⟩
 have hlen:i<n.length:=by rw[h.1];exact hi
 rcases h.2.2 i hi with ⟨q1,q2⟩ | ⟨k',q1,q2,q3,q4⟩
 ·rw[q1];simp only[Option.bind_some,bne_self_eq_false,cond_false];rw[VC (decide_eq_true (by omega)),VC (decide_eq_true hlen)];obtain⟨c1,c2⟩:=hset 0 q1 (.inl rfl);exact .inl ⟨⟨hr,c1⟩,_,rfl,c2⟩
 ·rw[q1];simp only[Option.bind_some]
  have:(k' != 0)=true:=by simp[q2]
  rw[this,cond_true]
  by_cases hk:k'=k
  ·have e1:(k' != k)=false:=by simp[hk]
   rw[e1,cond_false,VC (decide_eq_true (by omega)),VC (decide_eq_true (by omega)),VC (decide_eq_true hlen)];obtain⟨c1,c2⟩:=hset k' q1 (.inr hk);exact .inl ⟨⟨hr,c1⟩,_,rfl,c2⟩
  ·have e1:(k' != k)=true:=by simp[hk]
   rw[e1,cond_true,VC (decide_eq_true (by omega))];exact .inr ⟨fun h2=>hk (h2.2 ⟨i,k'⟩ (List.mem_append_left _ q3) ⟨i,k⟩ (by simp) rfl),rfl⟩
theorem qeL {fuel:Nat} (hf:4≤fuel) (f:apiFact):ZY fuel f=some (decide (groundP f)):=by
 unfold ZY QY
 rcases Tab.zero.add f.qb (f.qa.length:Int) with ⟨⟨h1,_⟩,n',h2,_⟩ | ⟨h1,h2⟩
 ·rw[h2];simp only[Option.bind_some,cond_true];obtain⟨⟨r1,r2⟩,r3,r4⟩:=h1;simp only at r1 r2 r3 r4;obtain⟨m,e1,e2,e3⟩:=qfr hf (l:=f.qa) (by omega) (by omega);rw[e1];simp only[Option.bind_some]
  by_cases hm:m ≥ 1
  ·rw[decide_eq_true hm,cond_true];obtain⟨M,g1,g2,g3⟩:=qfu hf (l:=f.qa) (by omega) (by omega);rw[g1];simp only[Option.bind_some]
   congr 1
   rw[decide_eq_decide]
   constructor
   ·intro h;exact⟨⟨r1,r2⟩,⟨by omega,by omega⟩,fun x hx=>⟨by have:=e3 x hx;omega,by have:=g3 x hx;omega⟩⟩
   ·intro h;exact (h.2.2 M g2).2
  ·rw[decide_eq_false hm,cond_false,decide_eq_false (fun h:groundP f=>by have:=(h.2.2 m e2).1;omega)]
 ·rw[h2];simp only[Option.bind_some,cond_false];rw[decide_eq_false];intro h;refine h1 ⟨⟨h.1,by simp only;have:=h.2.1.1;omega,by simp only;have:=h.2.1.2;omega⟩,?_⟩;intro x hx y hy _;rw[List.nil_append]at hx hy;rw[List.mem_singleton.1 hx,List.mem_singleton.1 hy]
theorem NO {S T:List qi} (h:conP (S++T)):conP S:=fun x hx y hy e=>h x (List.mem_append_left _ hx) y (List.mem_append_left _ hy) e
theorem qbd {fuel:Nat} (hf:4≤fuel) (K:List Int→Option Bool):∀ (l:List apiFact) (k:Nat) (n:List Int) (S:List qi),Tab n S →
  (((∀ f,f∈l→groundP f)∧conP (S++l.map szF))∧∃ n',Jh fuel K l k n=K n'∧Tab n' (S++l.map szF))∨(¬ ((∀ f,f∈l→groundP f)∧conP (S++l.map szF))∧Jh fuel K l k n=some false)
 | [],k,n,S,h=>.inl ⟨⟨fun f hf=>by simp at hf,by simpa using h.con⟩,n,by rw[Jh],by simpa using h⟩
 | x::r,k,n,S,h=>by
  rw[Jh,qeL hf];simp only[Option.bind_some];unfold XD
  by_cases hx:groundP x
  ·rw[decide_eq_true hx];simp only[Bool.not_true,cond_false]
   have e:S++(x::r).map szF=S++[szF x]++r.map szF:=by simp
   rcases h.add x.qb (x.qa.length:Int) with ⟨⟨q1,q2⟩,n',q3,q4⟩ | ⟨q1,q2⟩
   ·rw[q3];simp only[Option.bind_some,Bool.not_true,cond_false]
    rcases qbd hf K r (k+1) n' _ q4 with ⟨⟨p1,p2⟩,n2,p3,p4⟩ | ⟨p1,p2⟩
    ·rw[e];refine .inl ⟨⟨fun f hf=>?_,p2⟩,n2,p3,p4⟩
     rcases List.mem_cons.1 hf with rfl | hf
     ·exact hx
     ·exact p1 f hf
    ·rw[e];exact .inr ⟨fun h2=>p1 ⟨fun f hf=>h2.1 f (List.mem_cons_of_mem _ hf),h2.2⟩,p2⟩
   ·rw[q2];simp only[Option.bind_some,Bool.not_false,cond_true];refine .inr ⟨fun h2=>q1 ⟨⟨hx.1,?_,?_⟩,?_⟩,by first | rfl | trivial⟩
    ·have:=hx.2.1.1;simp only;omega
    ·have:=hx.2.1.2;simp only;omega
    ·rw[e]at h2;exact NO h2.2
  ·rw[decide_eq_false hx];simp only[Bool.not_false,cond_true];exact .inr ⟨fun h2=>hx (h2.1 x (List.mem_cons_self ..)),by first | rfl | trivial⟩
end Go.AM
namespace Go.AM
open Go.Proofs
open Classical
theorem mgetI (k x:Int) (v:Bool):∀ l:List (Int×Bool),mget keq1 false x (mset keq1 k v l)=if x=k then v else mget keq1 false x l
 | []=>by
  simp only[mset,mget,keq1]
  by_cases h:x=k
  ·subst h;simp
  ·have:(k == x)=false:=by simp;omega
   simp[this,h]
 | p::r=>by
  have ih:=mgetI k x v r;simp only[mset]
  cases hq:keq1 p.1 k with
  | true =>
   have hpk:p.1=k:=by simpa[keq1] using hq
   simp only[cond_true,mget,keq1]
   by_cases h:x=k
   ·subst h;simp[hpk]
   ·have h2:(p.1 == x)=false:=by simp;omega
    rw[h2];simp[h]
  | false =>
   have hpk:¬ p.1=k:=by simpa[keq1] using hq
   simp only[cond_false,mget];rw[ih]
   by_cases h:x=k
   ·subst h;rw[hq];simp
   ·simp[h]
theorem qbh (k:Int) (v:Bool):∀ l:List (Int×Bool),(mset keq1 k v l).length≤l.length+1
 | []=>by simp[mset]
 | p::r=>by
  have:=qbh k v r;unfold mset;cases keq1 p.1 k <;> simp <;> omega
theorem qfm (x:ruLit) (K:List (Int×Bool)→Option Bool):∀ (args:List Int) (k:Nat) (m:List (Int×Bool)),(∀ y,y∈args→wfI .i64 y=true)→m.length+args.length≤100000 →
  ∃ m',jk x K args k m=K m'∧m'.length≤m.length+args.length∧∀ y,mget keq1 false y m'=true↔mget keq1 false y m=true∨(x.qo=false∧y∈args)
 | [],k,m,_,_=>⟨m,by rw[jk],by simp,fun y=>by simp⟩
 | a::r,k,m,hw,hl=>by
  have hwa:=hw a (List.mem_cons_self ..)
  have hwr:∀ y,y∈r→wfI .i64 y=true:=fun y hy=>hw y (List.mem_cons_of_mem _ hy)
  rw[List.length_cons]at hl;rw[jk,VC hwa,VC hwa,VC hwa,VC (by simp[Nat.blt];omega),VC (by simp[Nat.blt];omega)];unfold Qw
  have key:∀ v:Bool,(v=true↔mget keq1 false a m=true∨x.qo=false)→∃ m',jk x K r (k+1) (mset keq1 a v m)=K m'∧m'.length≤m.length+(a::r).length∧∀ y,mget keq1 false y m'=true↔mget keq1 false y m=true∨(x.qo=false∧y∈a::r):=by
   intro v hv;have h1:=qbh a v m;obtain⟨m',q1,q2,q3⟩:=qfm x K r (k+1) (mset keq1 a v m) hwr (by omega);refine⟨m',q1,by simp;omega,fun y=>?_⟩;rw[q3 y,mgetI,List.mem_cons]
   by_cases hy:y=a
   ·subst hy;rw[if_pos rfl,hv]
    constructor
    ·rintro ((h | h) | h)
     ·exact .inl h
     ·exact .inr ⟨h,.inl rfl⟩
     ·exact .inr ⟨h.1,.inl rfl⟩
    ·rintro (h | h)
     ·exact .inl (.inl h)
     ·exact .inl (.inr h.1)
   ·rw[if_neg hy]
    simp[hy]
  cases hm:mget keq1 false a m with
  | true =>
   rw[cond_true];exact key true (by simp[hm])
  | false =>
   rw[cond_false];exact key (!x.qo) (by simp[hm])
theorem qfn (K:List (Int×Bool)→Option Bool):∀ (body:List ruLit) (k:Nat) (m:List (Int×Bool)),(∀ b,b∈body→b.qc.qa.length≤5∧∀ y,y∈b.qc.qa→wfI .i64 y=true)→m.length+5 * body.length≤100000 →
  ∃ m',qO K body k m=K m'∧∀ y,mget keq1 false y m'=true↔mget keq1 false y m=true∨∃ b,b∈body∧b.qo=false∧y∈b.qc.qa
 | [],k,m,_,_=>⟨m,by rw[qO],fun y=>by simp⟩
 | x::r,k,m,hw,hl=>by
  obtain⟨w1,w2⟩:=hw x (List.mem_cons_self ..);rw[List.length_cons]at hl;rw[qO,VC (qZ (by omega))];obtain⟨m1,q1,q2,q3⟩:=qfm x (jO (qO K r (k+1))) x.qc.qa 0 m w2 (by omega);rw[q1];unfold jO;obtain⟨m2,p1,p2⟩:=qfn K r (k+1) m1 (fun b hb=>hw b (List.mem_cons_of_mem _ hb)) (by omega);refine⟨m2,p1,fun y=>?_⟩;rw[p2 y,q3 y];simp only[List.mem_cons]
  constructor
  ·rintro ((h | h) | ⟨b,hb,h⟩)
   ·exact .inl h
   ·exact .inr ⟨x,.inl rfl,h⟩
   ·exact .inr ⟨b,.inr hb,h⟩
  ·rintro (h | ⟨b,rfl | hb,h⟩)
   ·exact .inl (.inl h)
   ·exact .inl (.inr h)
   ·exact .inr ⟨b,hb,h⟩
theorem qfk (m:List (Int×Bool)) (K:Option Bool):∀ (args:List Int) (k:Nat),(∀ y,y∈args→wfI .i64 y=true)→js m K args k=if ∀ v,v∈args→0≤v→mget keq1 false v m=true then K else some false
 | [],k,_=>by simp[js]
 | a::r,k,hw=>by
  rw[js];unfold Qv;rw[qfk m K r (k+1) fun y hy=>hw y (List.mem_cons_of_mem _ hy)];simp only[List.mem_cons,forall_eq_or_imp]
  by_cases h0:a ≥ 0
  ·rw[decide_eq_true h0,cond_true,VC (hw a (List.mem_cons_self ..))]
   cases hm:mget keq1 false a m with
   | true=>simp
   | false =>
    simp only[Bool.not_false,cond_true];rw[if_neg (fun h=>by have:=h.1 h0;cases this)]
  ·rw[decide_eq_false h0,cond_false,cond_false]
   have:(0≤a→mget keq1 false a m=true):=fun h=>absurd h h0
   by_cases h1:∀ v,v∈r→0≤v→mget keq1 false v m=true
   ·rw[if_pos h1,if_pos ⟨this,h1⟩]
   ·rw[if_neg h1,if_neg (fun h=>h1 h.2)]
theorem qfl (m:List (Int×Bool)):∀ (l:List ql) (k:Nat),(∀ a,a∈l→a.qa.length≤5∧∀ y,y∈a.qa→wfI .i64 y=true)→qR m qQ l k=if ∀ a,a∈l→∀ v,v∈a.qa→0≤v→mget keq1 false v m=true then some true else some false
 | [],k,_=>by simp[qR,qQ]
 | a::r,k,hw=>by
  obtain⟨w1,w2⟩:=hw a (List.mem_cons_self ..);rw[qR,VC (qZ (by omega)),qfk _ _ _ _ w2];unfold jQ;rw[qfl m r (k+1) fun b hb=>hw b (List.mem_cons_of_mem _ hb)];simp only[List.mem_cons,forall_eq_or_imp]
  by_cases h1:∀ v,v∈a.qa→0≤v→mget keq1 false v m=true
  ·rw[if_pos h1]
   by_cases h2:∀ a,a∈r→∀ v,v∈a.qa→0≤v→mget keq1 false v m=true
   ·rw[if_pos h2,if_pos ⟨h1,h2⟩]
   ·rw[if_neg h2,if_neg (fun h=>h2 h.2)]
  ·rw[if_neg h1,if_neg (fun h=>h1 h.1)]
theorem qdR (K:List ql→Option (List ql)):∀ (body:List ruLit) (k:Nat) (acc:List ql),acc.length+body.length≤100000→jR K body k acc=K (acc++body.map fun x=>x.qc)
 | [],k,acc,_=>by simp[jR]
 | x::r,k,acc,hl=>by
  rw[jR,VC (JN (by omega) (by simp at hl ⊢;omega)),qdR K r (k+1) _ (by simp at hl ⊢;omega)]
  simp
def atomsU (r:ruRule):List ql:=r.qe::r.qd.map fun x=>x.qc
theorem qbO {r:ruRule} (h:r.qd.length≤5):Xh r=some (atomsU r):=by
 unfold Xh;rw[VC (qZ (by omega)),qdR _ _ _ _ (by simp;omega)];rfl
def safeU (r:ruRule):Prop:=∀ a,a∈atomsU r→∀ v,v∈a.qa→0≤v→∃ b,b∈r.qd∧b.qo=false∧v∈b.qc.qa
def smallU (r:ruRule):Prop:=r.qd.length≤5∧∀ a,a∈atomsU r→a.qa.length≤5∧∀ y,y∈a.qa→wfI .i64 y=true
theorem qfZ {r:ruRule} (h:smallU r):Ys r=some (decide (safeU r)):=by
 unfold Ys;rw[VC (qZ (by have:=h.1;omega))];obtain⟨m,q1,q2⟩:=qfn (qV r) r.qd 0 [] (fun b hb=>h.2 b.qc (List.mem_cons_of_mem _ (List.mem_map.2 ⟨b,hb,rfl⟩))) (by have:=h.1;simp;omega);rw[q1];unfold qV;rw[qbO h.1];simp only[Option.bind_some];rw[VC (qZ (by have:=h.1;simp[atomsU];omega)),qfl _ _ _ h.2]
 have e:(∀ a,a∈atomsU r→∀ v,v∈a.qa→0≤v→mget keq1 false v m=true)↔safeU r:=by
  unfold safeU
  constructor
  ·intro h a ha v hv h0;have:=(q2 v).1 (h a ha v hv h0)
   simpa[mget] using this
  ·intro h a ha v hv h0;exact (q2 v).2 (.inr (h a ha v hv h0))
 by_cases hs:safeU r
 ·rw[if_pos (e.2 hs),decide_eq_true hs]
 ·rw[if_neg (fun h=>hs (e.1 h)),decide_eq_false hs]
def szU (a:ql):qi:=⟨a.qb,(a.qa.length:Int)⟩
theorem qbb {fuel:Nat} (hf:4≤fuel) (K:List Int→Option Bool):∀ (l:List ql) (k:Nat) (n:List Int) (S:List qi),Tab n S →
  (((∀ a,a∈l→fitP a.qb a.qa)∧conP (S++l.map szU))∧∃ n',jY fuel K l k n=K n'∧Tab n' (S++l.map szU))∨(¬ ((∀ a,a∈l→fitP a.qb a.qa)∧conP (S++l.map szU))∧jY fuel K l k n=some false)
 | [],k,n,S,h=>.inl ⟨⟨fun f hf=>by simp at hf,by simpa using h.con⟩,n,by rw[jY],by simpa using h⟩
 | x::r,k,n,S,h=>by
  rw[jY];unfold QX
  have e:S++(x::r).map szU=S++[szU x]++r.map szU:=by simp
  rcases h.add x.qb (x.qa.length:Int) with ⟨⟨q1,q2⟩,n',q3,q4⟩ | ⟨q1,q2⟩
  ·rw[q3];simp only[Option.bind_some,Bool.not_true,cond_false];obtain⟨⟨r1,r2⟩,r3,r4⟩:=q1;simp only at r1 r2 r3 r4;obtain⟨m,e1,e2,e3⟩:=qfr hf (l:=x.qa) (by omega) (by omega);rw[e1];simp only[Option.bind_some]
   by_cases hm:m < -6
   ·rw[decide_eq_true hm,cond_true,cond_true];exact .inr ⟨fun h2=>by have:=((h2.1 x (List.mem_cons_self ..)).2.2 m e2).1;omega,rfl⟩
   rw[decide_eq_false hm,cond_false];obtain⟨M,g1,g2,g3⟩:=qfu hf (l:=x.qa) (by omega) (by omega);rw[g1];simp only[Option.bind_some]
   by_cases hM:M ≥ 8
   ·rw[decide_eq_true hM,cond_true];exact .inr ⟨fun h2=>by have:=((h2.1 x (List.mem_cons_self ..)).2.2 M g2).2;omega,rfl⟩
   rw[decide_eq_false hM,cond_false];have hx:fitP x.qb x.qa:=⟨⟨r1,r2⟩,⟨by omega,by omega⟩,fun y hy=>⟨by have:=e3 y hy;omega,by have:=g3 y hy;omega⟩⟩
   rcases qbb hf K r (k+1) n' _ q4 with ⟨⟨p1,p2⟩,n2,p3,p4⟩ | ⟨p1,p2⟩
   ·rw[e];refine .inl ⟨⟨fun f hf=>?_,p2⟩,n2,p3,p4⟩
    rcases List.mem_cons.1 hf with rfl | hf
    ·exact hx
    ·exact p1 f hf
   ·rw[e];exact .inr ⟨fun h2=>p1 ⟨fun f hf=>h2.1 f (List.mem_cons_of_mem _ hf),h2.2⟩,p2⟩
  ·rw[q2];simp only[Option.bind_some,Bool.not_false,cond_true];refine .inr ⟨fun h2=>q1 ⟨?_,?_⟩,by first | rfl | trivial⟩
   ·have hx:=h2.1 x (List.mem_cons_self ..);refine⟨hx.1,?_,?_⟩
    ·have:=hx.2.1.1;simp only;omega
    ·have:=hx.2.1.2;simp only;omega
   ·rw[e]at h2;exact NO h2.2
def okU (r:ruRule):Prop:=r.qd.length≤3∧safeU r∧∀ a,a∈atomsU r→fitP a.qb a.qa
def sizesU (r:ruRule):List qi:=(atomsU r).map szU
theorem qbc {fuel:Nat} (hf:4≤fuel):∀ (l:List ruRule) (k:Nat) (n:List Int) (S:List qi),Tab n S→(∀ r,r∈l→smallU r) →
  jg fuel jp l k n=if (∀ r,r∈l→okU r)∧conP (S++l.flatMap sizesU) then some true else some false
 | [],k,n,S,h,_=>by
  rw[jg,if_pos ⟨fun r hr=>by simp at hr,by simpa using h.con⟩];rfl
 | x::r,k,n,S,h,hs=>by
  have hsx:=hs x (List.mem_cons_self ..);rw[jg,qfZ hsx];unfold XC
  by_cases h3:x.qd.length≤3
  ·rw[decide_eq_false (by omega:¬ (x.qd.length:Int) > 3),cond_false];simp only[Option.bind_some]
   by_cases h4:safeU x
   ·rw[decide_eq_true h4];simp only[Bool.not_true,cond_false];rw[qbO hsx.1];simp only[Option.bind_some];rw[VC (qZ (by have:=hsx.1;simp[atomsU];omega))]
    have e:S++(x::r).flatMap sizesU=S++sizesU x++r.flatMap sizesU:=by simp
    rcases qbb hf (jX (jg fuel jp r (k+1))) (atomsU x) 0 n S h with ⟨⟨p1,p2⟩,n2,p3,p4⟩ | ⟨p1,p2⟩
    ·rw[p3];unfold jX;rw[qbc hf r (k+1) n2 _ p4 fun q hq=>hs q (List.mem_cons_of_mem _ hq),e];simp only[List.mem_cons,forall_eq_or_imp];have hok:okU x:=⟨h3,h4,p1⟩
     by_cases h5:(∀ r_1,r_1∈r→okU r_1)∧conP (S++(atomsU x).map szU++r.flatMap sizesU)
     ·rw[if_pos h5,if_pos ⟨⟨hok,h5.1⟩,h5.2⟩]
     ·rw[if_neg h5,if_neg (fun h6=>h5 ⟨h6.1.2,h6.2⟩)]
    ·rw[p2,if_neg];intro h6;refine p1 ⟨(h6.1 x (List.mem_cons_self ..)).2.2,?_⟩;rw[e]at h6;exact NO h6.2
   ·rw[decide_eq_false h4];simp only[Bool.not_false,cond_true];rw[if_neg (fun h6=>h4 (h6.1 x (List.mem_cons_self ..)).2.1)]
  ·rw[decide_eq_true (by omega:(x.qd.length:Int) > 3),cond_true,cond_true,if_neg (fun h6=>h3 (h6.1 x (List.mem_cons_self ..)).1)]
def VU (l:List ruRule) (facts:List apiFact):Prop:=l.length≤10∧facts.length≤20∧(∀ f,f∈facts→groundP f)∧(∀ r,r∈l→okU r)∧conP (facts.map szF++l.flatMap sizesU)
theorem qev {fuel:Nat} (hf:4≤fuel) {l:List ruRule} {facts:List apiFact} (hl:l.length≤1000) (hfl:facts.length≤1000) (hs:∀ r,r∈l→smallU r):YO fuel l facts=some (decide (VU l facts)):=by
 have key:YO fuel l facts=if VU l facts then some true else some false:=by
  unfold YO Yk
  by_cases h1:l.length≤10
  ·rw[decide_eq_false (by omega:¬ (l.length:Int) > 10),cond_false]
   by_cases h2:facts.length≤20
   ·rw[decide_eq_false (by omega:¬ (facts.length:Int) > 20),cond_false,VC (qZ (by omega))]
    rcases qbd hf (Qc fuel l) facts 0 _ [] Tab.zero with ⟨⟨p1,p2⟩,n2,p3,p4⟩ | ⟨p1,p2⟩
    ·rw[p3];unfold Qc;rw[VC (qZ (by omega)),qbc hf l 0 n2 _ p4 hs,List.nil_append]
     by_cases h5:(∀ r,r∈l→okU r)∧conP (facts.map szF++l.flatMap sizesU)
     ·rw[if_pos h5,if_pos ⟨h1,h2,p1,h5.1,h5.2⟩]
     ·rw[if_neg h5,if_neg (fun h=>h5 ⟨h.2.2.2.1,h.2.2.2.2⟩)]
    ·rw[p2,if_neg (fun h=>p1 ⟨h.2.2.1,by rw[List.nil_append];exact NO h.2.2.2.2⟩)]
   ·rw[decide_eq_true (by omega:(facts.length:Int) > 20),cond_true,if_neg (fun h=>h2 h.2.1)]
  ·rw[decide_eq_true (by omega:(l.length:Int) > 10),cond_true,cond_true,if_neg (fun h=>h1 h.1)]
 rw[key]
 by_cases h:VU l facts <;> simp[h]
end Go.AM
namespace Go.AM
open Go.Proofs
open Classical
theorem NJ {rel:Int} {args:List Int}:fitP rel (args.take 5)↔fitP rel args∧args.take 5=args:=by
 constructor
 ·intro h
  have h1:args.length≤5:=by
   have:=h.2.1.2;rw[List.length_take]at this;omega
  have e:args.take 5=args:=List.take_of_length_le h1;rw[e]at h;exact⟨h,e⟩
 ·rintro⟨h,e⟩
  rw[e];exact h
theorem Uw {rel:Int} {args:List Int} (h:fitP rel args):args.take 5=args:=List.take_of_length_le (by have:=h.2.1.2;omega)
theorem qdx {f:apiFact}:groundP (cvF f)↔groundP f:=by
 unfold groundP cvF
 constructor
 ·intro h
  have h1:f.qa.length≤9:=by
   have:=h.2.1.2;simp only[List.length_take]at this;omega
  rw[List.take_of_length_le h1]at h;exact h
 ·intro h;rw[List.take_of_length_le (by have:=h.2.1.2;omega)];exact h
theorem qeW {f:apiFact} (h:groundP f):cvF f=f:=by
 unfold cvF;rw[List.take_of_length_le (by have:=h.2.1.2;omega)]
theorem ZA {a:rf2Atom} (h:fitP a.qb a.qa):(cvA a).qa=a.qa:=Uw h
theorem qfq (r:rf3Rule):okU (cvR r)↔okR r:=by
 have hb:((cvR r).qd.length≤3↔r.qd.length≤3):=by simp[cvR];omega
 have hbody:r.qd.length≤3→(cvR r).qd=r.qd.map cvL:=fun h=>by unfold cvR;simp only;rw[List.take_of_length_le (by omega)]
 have hatoms:r.qd.length≤3→((∀ a,a∈atomsU (cvR r)→fitP a.qb a.qa)↔(fitP r.qe.qb r.qe.qa∧∀ b,b∈r.qd→fitP b.qc.qb b.qc.qa)):=fun h=>by
  unfold atomsU;rw[hbody h]
  constructor
  ·intro h2;refine⟨(NJ.1 (h2 _ (List.mem_cons_self ..))).1,fun b hb=>?_⟩;exact (NJ.1 (h2 (cvA b.qc) (List.mem_cons_of_mem _ (List.mem_map.2 ⟨cvL b,List.mem_map.2 ⟨b,hb,rfl⟩,rfl⟩)))).1
  ·rintro⟨h2,h3⟩ a ha
   rcases List.mem_cons.1 ha with rfl | ha
   ·exact NJ.2 ⟨h2,Uw h2⟩
   ·obtain⟨y,hy,rfl⟩:=List.mem_map.1 ha;obtain⟨b,hb,rfl⟩:=List.mem_map.1 hy;exact NJ.2 ⟨h3 b hb,Uw (h3 b hb)⟩
 have hsafe:r.qd.length≤3→(fitP r.qe.qb r.qe.qa∧∀ b,b∈r.qd→fitP b.qc.qb b.qc.qa)→(safeU (cvR r)↔safeR r):=fun h h2=>by
  have hbd:∀ v:Int,(∃ b,b∈(cvR r).qd∧b.qo=false∧v∈b.qc.qa)↔∃ b,b∈r.qd∧b.qo=false∧v∈b.qc.qa:=fun v=>by
   rw[hbody h]
   constructor
   ·rintro⟨y,hy,q1,q2⟩
    obtain⟨b,hb,rfl⟩:=List.mem_map.1 hy;have q2':v∈(cvA b.qc).qa:=q2;rw[ZA (h2.2 b hb)]at q2';exact⟨b,hb,q1,q2'⟩
   ·rintro⟨b,hb,q1,q2⟩
    refine⟨cvL b,List.mem_map.2 ⟨b,hb,rfl⟩,q1,?_⟩;show v∈(cvA b.qc).qa;rw[ZA (h2.2 b hb)];exact q2
  unfold safeU safeR
  constructor
  ·intro hu i hi
   constructor
   ·rintro (h3 | ⟨b,hb,h3⟩)
    ·exact (hbd i).1 (hu (cvA r.qe) (List.mem_cons_self ..) i (by rw[ZA h2.1];exact h3) (by omega))
    ·refine (hbd i).1 (hu (cvA b.qc) (List.mem_cons_of_mem _ ?_) i (by rw[ZA (h2.2 b hb)];exact h3) (by omega));rw[hbody h];exact List.mem_map.2 ⟨cvL b,List.mem_map.2 ⟨b,hb,rfl⟩,rfl⟩
   ·rintro⟨b,hb,_,h3⟩
    exact .inr ⟨b,hb,h3⟩
  ·intro hr a ha v hv h0;rw[hbd]
   rcases List.mem_cons.1 ha with rfl | ha
   ·have hv':v∈r.qe.qa:=by rw[← ZA h2.1];exact hv
    have h7:=(h2.1.2.2 v hv').2
    have e:((v.toNat:Nat):Int)=v:=by omega
    have:=(hr v.toNat (by omega)).1 (.inl (by rw[e];exact hv'))
    rwa [e]at this
   ·rw[hbody h]at ha;obtain⟨y,hy,rfl⟩:=List.mem_map.1 ha;obtain⟨b,hb,rfl⟩:=List.mem_map.1 hy
    have hv':v∈b.qc.qa:=by
     have hv2:v∈(cvA b.qc).qa:=hv
     rwa [ZA (h2.2 b hb)]at hv2
    have h7:=((h2.2 b hb).2.2 v hv').2
    have e:((v.toNat:Nat):Int)=v:=by omega
    have:=(hr v.toNat (by omega)).1 (.inr ⟨b,hb,by rw[e];exact hv'⟩)
    rwa [e]at this
 constructor
 ·rintro⟨q1,q2,q3⟩
  have h3:=hb.1 q1;have h4:=(hatoms h3).1 q3;exact⟨h4.1,h3,h4.2,(hsafe h3 h4).1 q2⟩
 ·rintro⟨q1,q2,q3,q4⟩
  exact⟨hb.2 q2,(hsafe q2 ⟨q1,q3⟩).2 q4,(hatoms q2).2 ⟨q1,q3⟩⟩
theorem qcT {r:rf3Rule} (h:okR r):sizesU (cvR r)=sizesR r:=by
 unfold sizesU sizesR atomsU
 have hb:(cvR r).qd=r.qd.map cvL:=by unfold cvR;simp only;rw[List.take_of_length_le (by have:=h.2.1;omega)]
 rw[hb,List.map_cons,List.map_map,List.map_map]
 have e:∀ a:rf2Atom,fitP a.qb a.qa→szU (cvA a)=szA a:=fun a ha=>by unfold szU szA;rw[ZA ha];rfl
 have h1:szU (cvR r).qe=szA r.qe:=e _ h.1;rw[h1]
 congr 1
 refine List.map_congr_left fun b hb=>?_
 exact e b.qc (h.2.2.1 b hb)
theorem qip (l:List rf3Rule) (facts:List apiFact):VU ((l.take 12).map cvR) ((facts.take 26).map cvF)↔VR l facts:=by
 have key:l.length≤10→facts.length≤20→(VU (l.map cvR) (facts.map cvF)↔VR l facts):=by
  intro h1 h2
  have hok:(∀ r,r∈l.map cvR→okU r)↔∀ r,r∈l→okR r:=by
   simp only[List.mem_map,forall_exists_index,and_imp,forall_apply_eq_imp_iff₂,qfq]
  have hgr:(∀ f,f∈facts.map cvF→groundP f)↔∀ f,f∈facts→groundP f:=by
   simp only[List.mem_map,forall_exists_index,and_imp,forall_apply_eq_imp_iff₂,qdx]
  unfold VU VR;rw[hok,hgr,List.length_map,List.length_map]
  constructor
  ·rintro⟨_,_,h3,h4,h5⟩
   refine⟨h1,h2,h3,h4,?_⟩
   have e1:(facts.map cvF).map szF=facts.map szF:=by rw[List.map_map];exact List.map_congr_left fun f hf=>by simp[qeW (h3 f hf)]
   have e2:(l.map cvR).flatMap sizesU=l.flatMap sizesR:=by
    rw[List.flatMap_map];rw[List.flatMap_def,List.flatMap_def]
    congr 1
    exact List.map_congr_left fun r hr=>qcT (h4 r hr)
   rw[e1,e2]at h5;exact h5
  ·rintro⟨_,_,h3,h4,h5⟩
   refine⟨h1,h2,h3,h4,?_⟩
   have e1:(facts.map cvF).map szF=facts.map szF:=by rw[List.map_map];exact List.map_congr_left fun f hf=>by simp[qeW (h3 f hf)]
   have e2:(l.map cvR).flatMap sizesU=l.flatMap sizesR:=by
    rw[List.flatMap_map];rw[List.flatMap_def,List.flatMap_def]
    congr 1
    exact List.map_congr_left fun r hr=>qcT (h4 r hr)
   rw[e1,e2];exact h5
 by_cases h1:l.length≤10
 ·by_cases h2:facts.length≤20
  ·rw[List.take_of_length_le (by omega),List.take_of_length_le (by omega)];exact key h1 h2
  ·constructor
   ·intro h;have:=h.2.1;simp at this;omega
   ·intro h;exact absurd h.2.1 h2
 ·constructor
  ·intro h;have:=h.1;simp at this;omega
  ·intro h;exact absurd h.1 h1
theorem qfL {l:List rf3Rule} (hl:okRules l):∀ r,r∈(l.take 12).map cvR→smallU r:=by
 intro r hr;obtain⟨q,hq,rfl⟩:=List.mem_map.1 hr;obtain⟨h1,h2,h3⟩:=hl.2 q (List.mem_of_mem_take hq);refine⟨by simp[cvR];omega,fun a ha=>?_⟩
 rcases List.mem_cons.1 ha with rfl | ha
 ·exact⟨by simp[cvR,cvA];omega,fun y hy=>h1.2.2 y (List.mem_of_mem_take hy)⟩
 ·obtain⟨y,hy,rfl⟩:=List.mem_map.1 ha;obtain⟨b,hb,rfl⟩:=List.mem_map.1 hy;exact⟨by simp[cvL,cvA];omega,fun y hy=>(h3 b (List.mem_of_mem_take hb)).2.2 y (List.mem_of_mem_take hy)⟩
theorem qec {fuel:Nat} (hf:4≤fuel) {l:List rf3Rule} {facts:List apiFact} (hl:okRules l):YO fuel ((l.take 12).map cvR) ((facts.take 26).map cvF)=some (decide (VR l facts)):=by
 rw[qev hf (by simp;omega) (by simp;omega) (qfL hl)]
 congr 1
 rw[decide_eq_decide];exact qip l facts
end Go.AM
