/- s -/
import Derived.Test.YtdghpfejmlpjhaaAWq
import Derived.Test.YtdghpfejmlpjhaaChecked
import Derived.Test.YtdghpfejmlpjhaaRAT
import Derived.Test.YtdghpfejmlpjhaaASimJ
import Derived.Test.YtdghpfejmlpjhaaRCon3
import Derived.Test.YtdghpfejmlpjhaaRXT
import Derived.Test.YtdghpfejmlpjhaaRMT
import Derived.Test.YtdghpfejmlpjhaaRX1
import Derived.Test.YtdghpfejmlpjhaaAWp
import GoSem.Claim
set_option maxRecDepth 100000
set_option linter.unusedVariables false
set_option linter.unusedSimpArgs false
namespace Go.AM
open Go.Proofs
end Go.AM
namespace Go.AM
open Go.Proofs
end Go.AM
namespace Go.AM
open Go.Proofs Go.Sort
open Classical
theorem dec252 {k:Nat} (h:k<252):decide ((0:Int)≤(k:Int)∧(k:Int)<((252:Nat):Int))=true:=decide_eq_true ⟨by omega,by omega⟩
structure FoundP (L:List ruRule) (G:rufact→Prop) (yes open':rufact→Prop):Prop where
 ex:∃ could,LeastR L yes G could∧LeastR L could G yes∧∀ g,open' g↔¬ yes g∧could g
end Go.AM
namespace Go.AM
open Go.Proofs Go.Sort
open Classical
theorem qbk {g:rufact}:¬ setB (List.replicate 252 false) g:=fun h=>by
 have:=h.2;rw[List.getD_eq_getElem?_getD,List.getElem?_replicate]at this
 split at this <;> simp at this
theorem StR.empty {ar:Int→Nat}:StR ar [] (List.replicate 252 false):=⟨NT.empty,fun g hg=>by simp at hg,by simp,fun g=>⟨fun h=>by simp at h,fun h=>absurd h qbk⟩⟩
theorem qdO {l:List rf3Rule} {facts:List apiFact} (hv:VR l facts):(facts.take 26).map cvF=facts:=qdN (by have:=hv.2.1;omega) fun f hf=>by have:=(hv.2.2.1 f hf).2.1.2;omega
theorem DW {l:List rf3Rule} {facts:List apiFact} (hv:VR l facts):(l.take 12).map cvR=l.map toR:=qdo hv.1 hv.2.2.2.1
end Go.AM
namespace Go.AM
def V (a:Int):BitVec 64:=BitVec.ofInt 64 a
def wf64 (a:Int):Prop := -9223372036854775808≤a∧a<9223372036854775808
theorem qfp (a:Int):IntKind.wrap .i64 a=a.bmod (2 ^ 64):=by
 simp[IntKind.wrap,IntKind.signed,IntKind.bits,Int.bmod]
 omega
theorem qbe (a:Int):wf64 (IntKind.wrap .i64 a):=by
 rw[qfp];unfold wf64;have h1:=Int.le_bmod (x:=a) (m:=2 ^ 64) (by decide);have h2:=Int.bmod_lt (x:=a) (m:=2 ^ 64) (by decide);omega
theorem qhV (a:Int):V (IntKind.wrap .i64 a)=V a:=by
 rw[qfp];unfold V;apply BitVec.eq_of_toInt_eq
 simp[BitVec.toInt_ofInt]
theorem DH {a:Int} (h:wf64 a):(V a).toInt=a:=by
 unfold V;rw[BitVec.toInt_ofInt];unfold wf64 at h;rw[Int.bmod_eq_of_le] <;> omega
theorem qiz {a b:Int} (ha:wf64 a) (hb:wf64 b) (h:V a=V b):a=b:=by
 rw[← DH ha,← DH hb,h]
theorem qfO (x:BitVec 64):V (x.toNat:Int)=x:=by
 unfold V;simp
theorem qfP (a b:Int):V (iAnd .i64 a b)=V a &&& V b:=by
 unfold iAnd;rw[qhV];exact qfO _
theorem qem (a b:Int):V (iAndNot .i64 a b)=V a &&& ~~~ V b:=by
 unfold iAndNot;rw[qhV];exact qfO _
theorem qgP (a b:Int):wf64 (iAnd .i64 a b):=qbe _
theorem qfR (a b:Int):wf64 (iAndNot .i64 a b):=qbe _
theorem qfQ {a:Int} (h:(Lit.int .i64 a).wf=true):wf64 a:=by
 simp[Lit.wf,IntKind.min,IntKind.max,IntKind.signed,IntKind.bits]at h
 unfold wf64;omega
def Bits (a b:Int):Prop:=∀ i:Nat,(V a).getLsbD i=true→(V b).getLsbD i=true
theorem Bits.refl (a:Int):Bits a a:=fun _ h=>h
theorem Bits.trans {a b c:Int} (h:Bits a b) (k:Bits b c):Bits a c:=fun i x=>k i (h i x)
theorem Us {a b:Int}:(iAndNot .i64 a b == 0)=true↔Bits a b:=by
 rw[beq_iff_eq]
 constructor
 ·intro h i hi
  have:V (iAndNot .i64 a b)=0:=by rw[h];rfl
  rw[qem]at this;have h2:=congrArg (fun x=>BitVec.getLsbD x i) this;have hlt:i<64:=BitVec.lt_of_getLsbD hi
  simp[hi,hlt]at h2
  exact h2
 ·intro h;apply qiz (qfR _ _) (by unfold wf64;omega);rw[qem];apply BitVec.eq_of_getLsbD_eq;intro i hi;have:=h i
  simp[V,hi]at *
  exact this
theorem DM {a:Int} {n:Nat} (hn:n≤62) (ha:wf64 a):Bits a ((2 ^ n - 1:Nat):Int)↔0≤a∧a<((2 ^ n:Nat):Int):=by
 have hp:2 ^ n≤2 ^ 62:=Nat.pow_le_pow_right (by decide) hn;have hp0:0<2 ^ n:=Nat.two_pow_pos n
 have hV:V ((2 ^ n - 1:Nat):Int)=BitVec.ofNat 64 (2 ^ n - 1):=by
  unfold V;exact BitVec.ofInt_natCast _ _
 have hVn:(V ((2 ^ n - 1:Nat):Int)).toNat=2 ^ n - 1:=by
  rw[hV,BitVec.toNat_ofNat];apply Nat.mod_eq_of_lt;omega
 constructor
 ·intro h
  have h1:(V a).toNat≤2 ^ n - 1:=by
   have e:V a &&& V ((2 ^ n - 1:Nat):Int)=V a:=by
    apply BitVec.eq_of_getLsbD_eq;intro i _;have:=h i;cases h1:(V a).getLsbD i <;> simp_all
   rw[← e,BitVec.toNat_and,hVn];exact Nat.and_le_right
  have h2:=DH ha;rw[BitVec.toInt_eq_toNat_cond]at h2
  split at h2 <;> omega
 ·rintro⟨h0,h1⟩ i hi
  obtain⟨m,rfl⟩:=Int.eq_ofNat_of_zero_le h0
  have hm:m<2 ^ n:=by exact_mod_cast h1
  have hVm:V (m:Int)=BitVec.ofNat 64 m:=by unfold V;exact BitVec.ofInt_natCast _ _
  rw[hVm]at hi;rw[hV];have hi64:i<64:=BitVec.lt_of_getLsbD hi;rw[BitVec.getLsbD_ofNat]at hi ⊢;simp only[hi64,decide_true,Bool.true_and]at hi ⊢;rw[Nat.testBit_two_pow_sub_one]
  by_cases hin:i<n
  ·simpa using hin
  ·have:m<2 ^ i:=Nat.lt_of_lt_of_le hm (Nat.pow_le_pow_right (by decide) (by omega));rw[Nat.testBit_lt_two_pow this]at hi;cases hi
end Go.AM
namespace Go.AM
open Go.Proofs Go.Sort
open Classical
def bitS (s:Int) (k:Nat):Bool:=(iAnd .i64 (iShr .i64 s (k:Int)) 1) == 1
theorem qcQ {s:Int} {k:Nat} (hs:wf64 s) (hk:k<64):bitS s k=(V s).getLsbD k:=by
 unfold bitS iShr;have hb:IntKind.bits .i64=64:=rfl;rw[Int.toNat_natCast,hb,Nat.min_eq_left (by omega)]
 have h1:∀ x:Int,((iAnd .i64 x 1) == 1)=(V x).getLsbD 0:=fun x=>by
  rw[Bool.eq_iff_iff,beq_iff_eq]
  have h2:iAnd .i64 x 1=1↔V x &&& V 1=V 1:=by
   rw[← qfP];exact⟨fun h=>by rw[h],fun h=>qiz (qgP _ _) (by unfold wf64;omega) h⟩
  rw[h2]
  constructor
  ·intro h;have:=congrArg (fun b=>BitVec.getLsbD b 0) h;simp only[BitVec.getLsbD_and]at this
   have e:(V 1).getLsbD 0=true:=by decide
   rw[e,Bool.and_true]at this;exact this
  ·intro h
   refine BitVec.eq_of_getLsbD_eq fun i hi=>?_
   rw[BitVec.getLsbD_and]
   by_cases h0:i=0
   ·subst h0;rw[h];rfl
   ·have e:(V 1).getLsbD i=false:=by
     show (1#64).getLsbD i=false;rw[BitVec.getLsbD_one]
     simp[h0]
    rw[e,Bool.and_false]
 rw[h1]
 have e2:s.fdiv (2 ^ k)=s >>> k:=by
  rw[Int.shiftRight_eq_div_pow,Int.fdiv_eq_ediv_of_nonneg _ (by exact_mod_cast Nat.zero_le _)]
  norm_cast
 have e3:V (s >>> k)=(V s).sshiftRight k:=by
  show _=BitVec.ofInt 64 ((V s).toInt >>> k);rw[DH hs];rfl
 rw[e2,e3,BitVec.getLsbD_sshiftRight]
 simp[hk]
def selF {α:Type} (s:Int):Nat→List α→List α
 | _,[]=>[]
 | k,x::r=>bif bitS s k then x::selF s (k+1) r else selF s (k+1) r
theorem VV {α:Type} (s:Int):∀ (l:List α) (k:Nat),(selF s k l).Sublist l
 | [],k=>List.Sublist.refl _
 | x::r,k=>by
  unfold selF
  cases bitS s k with
  | true=>exact (VV s r (k+1)).cons_cons x
  | false=>exact (VV s r (k+1)).cons x
theorem Ho {α:Type} {s t:Int} {n:Nat} (h:∀ i,i<n→bitS s i=true→bitS t i=true):∀ (l:List α) (k:Nat),k+l.length≤n→∀ x,x∈selF s k l→x∈selF t k l
 | [],k,_,x,hx=>hx
 | y::r,k,hn,x,hx=>by
  rw[List.length_cons]at hn;have ih:=Ho h r (k+1) (by omega) x;unfold selF at hx ⊢
  cases hs:bitS s k with
  | true =>
   rw[hs,cond_true]at hx;rw[h k (by omega) hs,cond_true]
   rcases List.mem_cons.1 hx with h1 | h1
   ·exact h1 ▸ List.mem_cons_self ..
   ·exact List.mem_cons_of_mem _ (ih h1)
  | false =>
   rw[hs,cond_false]at hx
   cases bitS t k with
   | true=>exact List.mem_cons_of_mem _ (ih hx)
   | false=>exact ih hx
theorem mset_len (out:List (rufact×Bool)) (f:rufact):(mset qm f true out).length≤out.length+1:=by
 induction out with
 | nil=>simp[mset]
 | cons p r ih =>
  unfold mset
  cases qm p.1 f with
  | true=>simp
  | false=>simpa using ih
theorem qfq (s:Int) (K:List (rufact×Bool)→Option Bool):∀ (l:List apiFact) (k:Nat) (acc:List (rufact×Bool)),(∀ f,f∈l→groundP f)→acc.length+l.length≤1000→jg s K l k acc=K (addF acc ((selF s k l).map toF))
 | [],k,acc,_,_=>by rw[jg];rfl
 | f::l,k,acc,h,hl=>by
  have hf:=h f (List.mem_cons_self ..);rw[List.length_cons]at hl;have hw:=(Vq hf).1.wf;unfold wfF at hw;have hlen:=mset_len acc (toF f)
  have ih:=fun a (ha:a.length+l.length≤1000)=>qfq s K l (k+1) a (fun g hg=>h g (List.mem_cons_of_mem _ hg)) ha
  rw[jg,VK (decide_eq_true (by omega))];show (bif bitS s k then _ else _)=_;unfold selF
  cases bitS s k with
  | true =>
   rw[cond_true,cond_true,qcG hf];simp only[Option.bind_some];rw[VK hw,VK (by rw[Nat.blt_eq];omega)];unfold JG;rw[ih _ (by omega)];rfl
  | false =>
   rw[cond_false,cond_false];unfold JG;exact ih _ (by omega)
theorem qbR (s:Int) (K:List apiFact→Option Bool):∀ (l:List apiFact) (k:Nat) (acc:List apiFact),acc.length+l.length≤1000→Xh s K l k acc=K (acc++selF s k l)
 | [],k,acc,_=>by rw[Xh];unfold selF;rw[List.append_nil]
 | f::l,k,acc,hl=>by
  rw[List.length_cons]at hl
  have ih:=fun a (ha:a.length+l.length≤1000)=>qbR s K l (k+1) a ha
  rw[Xh,VK (decide_eq_true (by omega))];show (bif bitS s k then _ else _)=_;unfold selF
  cases bitS s k with
  | true =>
   rw[cond_true,cond_true,VK (Qs (by omega) (by simp;omega))];unfold Yp;rw[ih _ (by simp;omega),List.append_assoc];rfl
  | false =>
   rw[cond_false,cond_false];unfold Yp;exact ih _ (by omega)
theorem De (s:Int) (K:List apiFact→Option Bool):∀ (l:List apiFact) (k:Nat) (acc:List apiFact),acc.length+l.length≤1000→qI s K l k acc=K (acc++selF s k l)
 | [],k,acc,_=>by rw[qI];unfold selF;rw[List.append_nil]
 | f::l,k,acc,hl=>by
  rw[List.length_cons]at hl
  have ih:=fun a (ha:a.length+l.length≤1000)=>De s K l (k+1) a ha
  rw[qI,VK (decide_eq_true (by omega))];show (bif bitS s k then _ else _)=_;unfold selF
  cases bitS s k with
  | true =>
   rw[cond_true,cond_true,VK (Qs (by omega) (by simp;omega))];unfold jR;rw[ih _ (by simp;omega),List.append_assoc];rfl
  | false =>
   rw[cond_false,cond_false];unfold jR;exact ih _ (by omega)
def EnoughP (l:List rf3Rule) (facts:List apiFact) (f:apiFact) (s:Int):Prop:=∃ X,LeastR (l.map toR) (fun _=>False) (fun g=>g∈(selF s 0 facts).map toF) X∧X (toF f)
theorem qdT {fuel:Nat} (hf:300≤fuel) {l:List rf3Rule} {facts:List apiFact} {f:apiFact} (hv:VR l facts) (hg:groundP f) (s:Int) :
  QS fuel s facts (l.map toR) f=some (decide (EnoughP l facts f s))∧qad fuel l facts s f=some (decide (EnoughP l facts f s)):=by
 have h20:=hv.2.1;have hsub:=VV s facts 0;have hsl:(selF s 0 facts).length≤20:=Nat.le_trans hsub.length_le h20;obtain⟨out,S,g1,g2,g3⟩:=qeX (ar:=arVR l facts) (by omega:(selF s 0 facts).length≤100) (fun x hx=>hv.2.2.1 x (hsub.subset hx)) (fun x hx=>hv.facts_ar x (hsub.subset hx))
 have ho:out=addF [] ((selF s 0 facts).map toF):=by
  have:Yl (selF s 0 facts)=some (addF [] ((selF s 0 facts).map toF)):=by
   unfold Yl;rw[VK (qM (by omega)),UF _ _ 0 [] (fun x hx=>hv.2.2.1 x (hsub.subset hx)) NT.empty (by simp;omega)];rfl
  rw[g1]at this;exact Option.some.inj this
 have hom:∀ g,g∈out.map Prod.fst↔g∈(selF s 0 facts).map toF:=fun g=>by
  rw[ho,NT.empty.add.2.1];simp
 have hLU:∀ r,r∈l.map toR→okL (arVR l facts) r:=fun r hr=>by
  obtain⟨q,hq,rfl⟩:=List.mem_map.1 hr;exact hv.okL q hq
 have hl10:=hv.1;obtain⟨res,a1,a2,a3,a4⟩:=qbV hLU (by rw[List.length_map];omega) g3.nt NT.empty g3.ar (by omega:253≤fuel);obtain⟨u,c1,c2,c3,c4⟩:=qgg hf (by omega:l.length≤12) hv.okL g3.len (N:=List.replicate 252 false) (by simp) g3.arB
 have hN1:(fun g=>g∈([]:List (rufact×Bool)).map Prod.fst)=fun _=>False:=funext fun g=>propext (by simp)
 have hN2:setB (List.replicate 252 false)=fun _=>False:=funext fun g=>propext ⟨qbk,False.elim⟩
 have hG:(fun g=>g∈out.map Prod.fst)=fun g=>g∈(selF s 0 facts).map toF:=funext fun g=>propext (hom g)
 have hGS:setB S=fun g=>g∈(selF s 0 facts).map toF:=funext fun g=>propext (by rw[← g3.same,hom])
 rw[hN1,hG]at a4;rw[hN2,hGS]at c4
 have hE:∀ {X:rufact→Prop},LeastR (l.map toR) (fun _=>False) (fun g=>g∈(selF s 0 facts).map toF) X→(EnoughP l facts f s↔X (toF f)):=fun {X} hX=>by
  constructor
  ·rintro⟨Y,hY,hy⟩
   exact (hY.same hX (fun _=>Iff.rfl) (fun _=>Iff.rfl) _).1 hy
  ·intro h;exact⟨X,hX,h⟩
 have hw:=(Vq hg).1.wf;unfold wfF at hw;refine⟨?_,?_⟩
 ·unfold QS;rw[VK (qM (by omega)),qfq s _ facts 0 [] hv.2.2.1 (by simp;omega)];unfold jM QY;rw[← ho,a1];simp only[Option.bind_some];rw[qcG hg];simp only[Option.bind_some];rw[VK hw]
  congr 1
  rw[Bool.eq_iff_iff,NT.mget a2.t,decide_eq_true_eq,hE a4]
 ·unfold qad;rw[VK (qM (by omega)),qbR s _ facts 0 [] (by simp;omega)];unfold UT;rw[List.nil_append,g2];simp only[Option.bind_some];rw[c1];simp only[Option.bind_some];obtain⟨h1,h2⟩:=Vq hg;have hc:=qaC h1;rw[h2]at hc;replace hc:YN f.qb f.qa=_:=hc;have hlt:=Zw h1;rw[hc];simp only[Option.bind_some];rw[VK (dec252 hlt),Int.toNat_natCast,Nat.mul_one,List.getElem?_eq_getElem (by omega)];simp only[Option.bind_some]
  congr 1
  rw[Bool.eq_iff_iff,decide_eq_true_eq,hE c4];unfold setB;rw[List.getD_eq_getElem?_getD,List.getElem?_eq_getElem (by omega)];exact⟨fun h=>⟨h1,h⟩,fun h=>h.2⟩
theorem EnoughP.mono {l:List rf3Rule} {facts:List apiFact} {f:apiFact} {s t:Int} (h:∀ i,i<facts.length→bitS s i=true→bitS t i=true) {fuel:Nat} (hf:300≤fuel) (hv:VR l facts) (hg:groundP f) (hs:EnoughP l facts f s) (ht:∃ Y,LeastR (l.map toR) (fun _=>False) (fun g=>g∈(selF t 0 facts).map toF) Y):EnoughP l facts f t:=by
 obtain⟨X,hX,hx⟩:=hs;obtain⟨Y,hY⟩:=ht;refine⟨Y,hY,hX.least Y (fun g hg=>hY.sub g ?_) hY.closed _ hx⟩;obtain⟨z,hz,rfl⟩:=List.mem_map.1 hg;exact List.mem_map.2 ⟨z,Ho h facts 0 (by omega) z hz,rfl⟩
def scanS (E:Nat→Bool):Nat→Nat→List Int→List Int
 | 0,_,v=>v
 | n+1,k,v=>scanS E n (k+1) (bif !(v.any fun x=>iAndNot .i64 x (k:Int) == 0) && E k then v++[(k:Int)] else v)
theorem NR {g:Int→Option Bool} {p:Int→Bool}:∀ (l:List Int) (k:Nat),(∀ x,x∈l→g x=some (p x))→∃ i,qZ g jE l k=some i∧(decide (i ≥ 0)=l.any p)
 | [],k,_=>⟨-1,by rw[qZ];rfl,by simp⟩
 | x::l,k,h=>by
  obtain⟨i,h1,h2⟩:=NR l (k+1) fun y hy=>h y (List.mem_cons_of_mem _ hy)
  rw[qZ,h x (List.mem_cons_self ..)];simp only[Option.bind_some]
  cases hp:p x with
  | true=>exact⟨k,rfl,by simp[hp]⟩
  | false=>exact⟨i,by rw[cond_false];exact h1,by rw[h2,List.any_cons,hp,Bool.false_or]⟩
theorem NY {l:List Int} {g:Int→Option Bool} {p:Int→Bool} (hl:lenOk l=true) (h:∀ x,x∈l→g x=some (p x)):Jy l g=some (l.any p):=by
 obtain⟨i,h1,h2⟩:=NR l 0 h;unfold Jy Xy;rw[VK hl,h1];simp only[Option.bind_some];rw[h2]
theorem qha {fuel:Nat} {l:List ruRule} {facts:List apiFact} {f:apiFact} {E:Nat→Bool} (hE:∀ k:Nat,QS fuel (k:Int) facts l f=some (E k)) (K:List Int→Option (List Int×Int)):∀ (r:List Nat) (k:Nat) (v:List Int),v.length+r.length≤100000→jk fuel l facts f K r k v=K (scanS E r.length k v)
 | [],k,v,_=>by rw[jk];rfl
 | y::r,k,v,h=>by
  rw[List.length_cons]at h
  have ih:=fun u (hu:u.length+r.length≤100000)=>qha hE K r (k+1) u hu
  have hc:=NY (l:=v) (g:=fun y0=>Ym y0 (k:Int)) (p:=fun x=>iAndNot .i64 x (k:Int) == 0) (qM (by omega)) (fun x _=>rfl);rw[jk,hc];simp only[Option.bind_some];rw[List.length_cons];unfold scanS
  cases v.any fun x=>iAndNot .i64 x (k:Int) == 0 with
  | true =>
   simp only[Bool.not_true,cond_false,Bool.false_and];unfold Qp Js;rw[cond_false];exact ih v (by omega)
  | false =>
   simp only[Bool.not_false,cond_true,Bool.true_and];rw[hE k];simp only[Option.bind_some];unfold Qp Js
   cases E k with
   | true =>
    rw[cond_true,cond_true,VK (Qs (by omega) (by simp;omega))];exact ih _ (by simp;omega)
   | false =>
    rw[cond_false,cond_false];exact ih v (by omega)
theorem Hp (E:Nat→Bool):∀ (n k:Nat) (v:List Int),(∀ x,x∈v→∃ j:Nat,x=(j:Int)∧j<k∧E j=true)→(∀ j,j<k→E j=true→∃ x,x∈v∧Bits x (j:Int)) →
  (∀ x,x∈scanS E n k v→∃ j:Nat,x=(j:Int)∧j<k+n∧E j=true)∧(∀ j,j<k+n→E j=true→∃ x,x∈scanS E n k v∧Bits x (j:Int))∧(scanS E n k v).length≤v.length+n
 | 0,k,v,h1,h2=>⟨by simpa[scanS] using h1,by simpa[scanS] using h2,by simp[scanS]⟩
 | n+1,k,v,h1,h2=>by
  unfold scanS
  have step:∀ u:List Int,(∀ x,x∈u→∃ j:Nat,x=(j:Int)∧j<k+1∧E j=true)→(∀ j,j<k+1→E j=true→∃ x,x∈u∧Bits x (j:Int))→u.length≤v.length+1 →
    (∀ x,x∈scanS E n (k+1) u→∃ j:Nat,x=(j:Int)∧j<k+(n+1)∧E j=true)∧(∀ j,j<k+(n+1)→E j=true→∃ x,x∈scanS E n (k+1) u∧Bits x (j:Int))∧(scanS E n (k+1) u).length≤v.length+(n+1):=fun u q1 q2 q3=>by
   obtain⟨a,b,c⟩:=Hp E n (k+1) u q1 q2;refine⟨fun x hx=>?_,fun j hj he=>b j (by omega) he,by omega⟩;obtain⟨j,e1,e2,e3⟩:=a x hx;exact⟨j,e1,by omega,e3⟩
  cases ha:v.any fun x=>iAndNot .i64 x (k:Int) == 0 with
  | true =>
   simp only[Bool.not_true,Bool.false_and,cond_false];refine step v (fun x hx=>?_) (fun j hj he=>?_) (by omega)
   ·obtain⟨j,e1,e2,e3⟩:=h1 x hx;exact⟨j,e1,by omega,e3⟩
   ·by_cases hjk:j=k
    ·subst hjk;obtain⟨x,hx,hb⟩:=List.any_eq_true.1 ha;exact⟨x,hx,Us.1 hb⟩
    ·exact h2 j (by omega) he
  | false =>
   simp only[Bool.not_false,Bool.true_and]
   cases hE:E k with
   | true =>
    rw[cond_true];refine step _ (fun x hx=>?_) (fun j hj he=>?_) (by simp)
    ·rcases List.mem_append.1 hx with h | h
     ·obtain⟨j,e1,e2,e3⟩:=h1 x h;exact⟨j,e1,by omega,e3⟩
     ·exact⟨k,List.mem_singleton.1 h,by omega,hE⟩
    ·by_cases hjk:j=k
     ·subst hjk;exact⟨_,List.mem_append_right _ (List.mem_singleton.2 rfl),Bits.refl _⟩
     ·obtain⟨x,hx,hb⟩:=h2 j (by omega) he;exact⟨x,List.mem_append_left _ hx,hb⟩
   | false =>
    rw[cond_false];refine step v (fun x hx=>?_) (fun j hj he=>?_) (by omega)
    ·obtain⟨j,e1,e2,e3⟩:=h1 x hx;exact⟨j,e1,by omega,e3⟩
    ·by_cases hjk:j=k
     ·subst hjk;rw[hE]at he;cases he
     ·exact h2 j (by omega) he
end Go.AM
