/- s -/
import Derived.Test.YtdghpfejmlpjhaaRM1
set_option maxRecDepth 100000
set_option linter.unusedVariables false
set_option linter.unusedSimpArgs false
namespace Go.AM
open Go.Proofs
theorem jh {α:Type} {l:List α} (h:l.length≤9223372036854775807):lenOk l=true:=Nat.ble_eq_true_of_le (by omega)
theorem Xb {b n:Nat} (hb:b≤64) (h:n≤1000000000):capOk b n=true:=by
 simp only[capOk,Bool.and_eq_true,Nat.ble_eq];refine⟨?_,by omega⟩;exact Nat.le_trans (Nat.mul_le_mul h hb) (by omega)
theorem Vj {α:Type} {b:Bool} {o:Option α} (h:b=true):chk b o=o:=by rw[h];rfl
theorem wrap64 {n:Int} (h1 : -9223372036854775808≤n) (h2:n≤9223372036854775807):IntKind.wrap .i64 n=n:=by
 simp[IntKind.wrap,IntKind.signed,IntKind.bits]
 omega
def cvA (a:rf2Atom):qj:=⟨a.qb,a.qa.take 5⟩
def cvL (x:rf3Lit):ruLit:=⟨x.qi,cvA x.qc⟩
def cvR (r:rf3Rule):ruRule:=⟨cvA r.qd,(r.qe.take 5).map cvL⟩
def cvF (f:apiFact):apiFact:=⟨f.qb,f.qa.take 9⟩
theorem qfp {l:List Int} (n:Nat):sub l 0 (if (n:Int)<(l.length:Int) then (n:Int) else (l.length:Int))=some (l.take n):=by
 unfold sub
 split
 ·rw[if_pos ⟨by omega,by omega,by omega⟩]
  simp
 ·rw[if_pos ⟨by omega,by omega,by omega⟩]
  simp[List.take_of_length_le (show l.length≤n by omega)]
theorem NO {l:List Int} (h:l.length≤1000):QB l=some l:=by
 unfold QB;rw[Vj (Xb (by omega) (by omega))]
theorem qcP (a:rf2Atom):ZO a=some (cvA a):=by
 unfold ZO;have:=qfp (l:=a.qa) 5;rw[show ((5:Nat):Int)=5 from rfl]at this;rw[this];show (QB (a.qa.take 5)).bind _=_;rw[NO (by simp;omega)];rfl
theorem qfM (K:ruRule→Option (List ruRule)):∀ (body:List rf3Lit) (k:Nat) (rel:Int) (args:List Int) (acc:List ruLit),acc.length≤k→acc.length≤5→Qq K body k rel args acc=K ⟨⟨rel,args⟩,acc++(body.take (5 - k)).map cvL⟩
 | [],k,rel,args,acc,_,_=>by simp[Qq]
 | x::r,k,rel,args,acc,h1,h2=>by
  rw[Qq]
  by_cases hk:k<5
  ·rw[decide_eq_true (by omega:(k:Int)<5),cond_true,qcP];show chk _ _=_;rw[Vj (Xb (by omega) (by simp;omega))];unfold XY;rw[qfM K r (k+1) rel args _ (by simp;omega) (by simp;omega)];obtain⟨m,hm⟩:∃ m,5 - k=m+1:=⟨5 - k - 1,by omega⟩;rw[hm,show 5 - (k+1)=m by omega,List.take_succ_cons,List.map_cons,List.append_assoc];rfl
  ·rw[decide_eq_false (by omega:¬ (k:Int)<5),cond_false];unfold XY;rw[qfM K r (k+1) rel args acc (by omega) h2,show 5 - (k+1)=0 by omega,show 5 - k=0 by omega]
   simp
theorem qgV (K:List ruRule→Option (List ruRule)):∀ (l:List rf3Rule) (k:Nat) (acc:List ruRule),(∀ r,r∈l→lenOk r.qe=true)→acc.length≤k→acc.length≤12→Jt K l k acc=K (acc++(l.take (12 - k)).map cvR)
 | [],k,acc,_,_,_=>by simp[Jt]
 | x::r,k,acc,hb,h1,h2=>by
  rw[Jt]
  by_cases hk:k > 11
  ·rw[decide_eq_true (by omega:(k:Int) > 11),cond_true,show 12 - k=0 by omega]
   simp
  ·rw[decide_eq_false (by omega:¬ (k:Int) > 11),cond_false,qcP];show chk (lenOk x.qe) _=_;rw[Vj (hb x (List.mem_cons_self ..)),qfM _ _ _ _ _ _ (by simp) (by simp)];show chk _ _=_;rw[Vj (Xb (by omega) (by simp;omega)),qgV K r (k+1) _ (fun q hq=>hb q (List.mem_cons_of_mem _ hq)) (by simp;omega) (by simp;omega)];obtain⟨m,hm⟩:∃ m,12 - k=m+1:=⟨12 - k - 1,by omega⟩;rw[hm,show 12 - (k+1)=m by omega,List.take_succ_cons,List.map_cons,List.append_assoc];rfl
theorem qgY {l:List rf3Rule} (hl:lenOk l=true) (hb:∀ r,r∈l→lenOk r.qe=true):NH l=some ((l.take 12).map cvR):=by
 unfold NH;rw[Vj hl,qgV _ _ _ _ hb (by simp) (by simp)];rfl
def groundP (f:apiFact):Prop:=(0≤f.qb∧f.qb≤5)∧(1≤f.qa.length∧f.qa.length≤2)∧∀ x,x∈f.qa→1≤x∧x≤6
def fitP (rel:Int) (args:List Int):Prop:=(0≤rel∧rel≤5)∧(1≤args.length∧args.length≤2)∧∀ x,x∈args → -6≤x∧x≤7
instance (f:apiFact):Decidable (groundP f):=by unfold groundP;infer_instance
instance (rel:Int) (args:List Int):Decidable (fitP rel args):=by unfold fitP;infer_instance
theorem qaz (K:Option Bool):∀ (args:List Int) (k:Nat),jR K args k=if ∀ x,x∈args→1≤x∧x≤6 then K else some false
 | [],k=>by simp[jR]
 | x::r,k=>by
  rw[jR];unfold Xk;rw[qaz K r (k+1)]
  by_cases h1:x<1
  ·rw[decide_eq_true h1,cond_true,cond_true,if_neg (fun h=>by have:=h x (List.mem_cons_self ..);omega)]
  ·rw[decide_eq_false h1,cond_false]
   by_cases h2:x > 6
   ·rw[decide_eq_true h2,cond_true,if_neg (fun h=>by have:=h x (List.mem_cons_self ..);omega)]
   ·rw[decide_eq_false h2,cond_false]
    have:(∀ y,y∈x::r→1≤y∧y≤6)↔∀ y,y∈r→1≤y∧y≤6:=by
     simp only[List.mem_cons,forall_eq_or_imp];exact⟨fun h=>h.2,fun h=>⟨by omega,h⟩⟩
    simp only[this]
theorem qdD {f:apiFact} (hl:lenOk f.qa=true):Zc f=some (decide (groundP f)):=by
 unfold Zc;rw[Vj hl,qaz];unfold Jx JX
 by_cases h:∀ x,x∈f.qa→1≤x∧x≤6
 ·rw[if_pos h]
  by_cases h1:f.qb ≥ 0
  ·rw[decide_eq_true h1,cond_true]
   by_cases h2:f.qb≤5
   ·rw[decide_eq_true h2,cond_true]
    by_cases h3:(f.qa.length:Int) ≥ 1
    ·rw[decide_eq_true h3,cond_true]
     congr 1
     rw[decide_eq_decide];unfold groundP
     constructor
     ·intro h4;exact⟨⟨h1,h2⟩,⟨by omega,by omega⟩,h⟩
     ·intro h4;have:=h4.2.1.2;omega
    ·rw[decide_eq_false h3,cond_false,decide_eq_false (fun h4:groundP f=>by have:=h4.2.1.1;omega)]
   ·rw[decide_eq_false h2,cond_false,decide_eq_false (fun h4:groundP f=>h2 h4.1.2)]
  ·rw[decide_eq_false h1,cond_false,decide_eq_false (fun h4:groundP f=>h1 h4.1.1)]
 ·rw[if_neg h,decide_eq_false (fun h4:groundP f=>h h4.2.2)]
theorem qep (K:Option Bool):∀ (args:List Int) (k:Nat),Jr K args k=if ∀ x,x∈args → -6≤x∧x≤7 then K else some false
 | [],k=>by simp[Jr]
 | x::r,k=>by
  rw[Jr];unfold Yd;rw[qep K r (k+1)]
  by_cases h1:x < -6
  ·rw[decide_eq_true h1,cond_true,cond_true,if_neg (fun h=>by have:=h x (List.mem_cons_self ..);omega)]
  ·rw[decide_eq_false h1,cond_false]
   by_cases h2:x > 7
   ·rw[decide_eq_true h2,cond_true,if_neg (fun h=>by have:=h x (List.mem_cons_self ..);omega)]
   ·rw[decide_eq_false h2,cond_false]
    have:(∀ y,y∈x::r → -6≤y∧y≤7)↔∀ y,y∈r → -6≤y∧y≤7:=by
     simp only[List.mem_cons,forall_eq_or_imp];exact⟨fun h=>h.2,fun h=>⟨by omega,h⟩⟩
    simp only[this]
theorem qcz {a:rf2Atom} (hl:lenOk a.qa=true):ZL a=some (decide (fitP a.qb a.qa)):=by
 unfold ZL;rw[Vj hl,qep];unfold Ql QC
 by_cases h:∀ x,x∈a.qa → -6≤x∧x≤7
 ·rw[if_pos h]
  by_cases h1:a.qb ≥ 0
  ·rw[decide_eq_true h1,cond_true]
   by_cases h2:a.qb≤5
   ·rw[decide_eq_true h2,cond_true]
    by_cases h3:(a.qa.length:Int) ≥ 1
    ·rw[decide_eq_true h3,cond_true]
     congr 1
     rw[decide_eq_decide];unfold fitP
     constructor
     ·intro h4;exact⟨⟨h1,h2⟩,⟨by omega,by omega⟩,h⟩
     ·intro h4;have:=h4.2.1.2;omega
    ·rw[decide_eq_false h3,cond_false,decide_eq_false (fun h4:fitP _ _=>by have:=h4.2.1.1;omega)]
   ·rw[decide_eq_false h2,cond_false,decide_eq_false (fun h4:fitP _ _=>h2 h4.1.2)]
  ·rw[decide_eq_false h1,cond_false,decide_eq_false (fun h4:fitP _ _=>h1 h4.1.1)]
 ·rw[if_neg h,decide_eq_false (fun h4:fitP _ _=>h h4.2.2)]
theorem Hz {a b:Nat} (ha:a<256) (hb:b<256):iOr .i64 (a:Int) (b:Int)=((a ||| b:Nat):Int):=by
 have h:a ||| b<256:=Nat.or_lt_two_pow (n:=8) ha hb
 unfold iOr
 have e:(BitVec.ofInt IntKind.i64.bits (a:Int) ||| BitVec.ofInt IntKind.i64.bits (b:Int)).toNat=a ||| b:=by
  rw[BitVec.toNat_or]
  have e1:∀ n:Nat,n<256→(BitVec.ofInt IntKind.i64.bits (n:Int)).toNat=n:=fun n hn=>by
   rw[BitVec.ofInt_natCast,BitVec.toNat_ofNat];exact Nat.mod_eq_of_lt (by show n<2 ^ 64;omega)
  rw[e1 a ha,e1 b hb]
 rw[e,wrap64 (by omega) (by omega)]
theorem qfW {x:Int} (h0:0≤x) (h1:x≤7):iShl .i64 1 x=((2 ^ x.toNat:Nat):Int)∧2 ^ x.toNat<256:=by
 obtain⟨n,rfl⟩:=Int.eq_ofNat_of_zero_le h0
 have hn:n≤7:=by omega
 match n,hn with
 | 0,_ | 1,_ | 2,_ | 3,_ | 4,_ | 5,_ | 6,_ | 7,_=>decide
theorem qaX (K:Int→Option Int):∀ (args:List Int) (k m:Nat),m<256→(∀ x,x∈args→x≤7)→∃ m':Nat,m'<256∧Js K args k (m:Int)=K (m':Int)∧∀ i,i<8→(m'.testBit i=true↔m.testBit i=true∨(i:Int)∈args)
 | [],k,m,hm,_=>⟨m,hm,by rw[Js],fun i _=>by simp⟩
 | x::r,k,m,hm,hx=>by
  have hx0:=hx x (List.mem_cons_self ..)
  have hr:∀ y,y∈r→y≤7:=fun y hy=>hx y (List.mem_cons_of_mem _ hy)
  rw[Js];unfold Ye
  by_cases h0:x ≥ 0
  ·rw[decide_eq_true h0,cond_true,Vj rfl];obtain⟨e1,e2⟩:=qfW h0 hx0;rw[e1,Hz hm e2];obtain⟨m',q1,q2,q3⟩:=qaX K r (k+1) _ (Nat.or_lt_two_pow (n:=8) hm e2) hr;refine⟨m',q1,q2,fun i hi=>?_⟩;rw[q3 i hi,Nat.testBit_or,Bool.or_eq_true,Nat.testBit_two_pow,decide_eq_true_eq,List.mem_cons]
   have:x.toNat=i↔(i:Int)=x:=by omega
   rw[this]
   constructor
   ·rintro ((h | h) | h)
    ·exact .inl h
    ·exact .inr (.inl h)
    ·exact .inr (.inr h)
   ·rintro (h | h | h)
    ·exact .inl (.inl h)
    ·exact .inl (.inr h)
    ·exact .inr h
  ·rw[decide_eq_false h0,cond_false];obtain⟨m',q1,q2,q3⟩:=qaX K r (k+1) m hm hr;refine⟨m',q1,q2,fun i hi=>?_⟩;rw[q3 i hi,List.mem_cons]
   have:¬ (i:Int)=x:=by omega
   simp[this]
theorem qbI {a:rf2Atom} (hl:lenOk a.qa=true) (hx:∀ x,x∈a.qa→x≤7):∃ m:Nat,m<256∧Zd a=some (m:Int)∧∀ i,i<8→(m.testBit i=true↔(i:Int)∈a.qa):=by
 unfold Zd;rw[Vj hl];obtain⟨m,h1,h2,h3⟩:=qaX Qm a.qa 0 0 (by omega) hx;exact⟨m,h1,h2,fun i hi=>by rw[h3 i hi];simp⟩
theorem qfQ {a b:Nat} (ha:a<256) (hb:b<256) (h:∀ i,i<8→(a.testBit i=true↔b.testBit i=true)):a=b:=by
 refine Nat.eq_of_testBit_eq fun i=>?_
 by_cases hi:i<8
 ·rw[Bool.eq_iff_iff];exact h i hi
 ·have h8:256≤2 ^ i:=by
   calc 256=2 ^ 8:=by decide
    _≤2 ^ i:=Nat.pow_le_pow_right (by omega) (by omega)
  rw[Nat.testBit_lt_two_pow (by omega),Nat.testBit_lt_two_pow (by omega)]
end Go.AM
