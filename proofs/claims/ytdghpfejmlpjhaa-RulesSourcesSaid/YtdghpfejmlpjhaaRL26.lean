/- s -/
import Derived.Test.YtdghpfejmlpjhaaAWq
import Derived.Test.YtdghpfejmlpjhaaChecked
import Derived.Test.YtdghpfejmlpjhaaRAT
import Derived.Test.YtdghpfejmlpjhaaAArr
import Derived.Test.YtdghpfejmlpjhaaASimJ
import Derived.Test.YtdghpfejmlpjhaaRCon3
import Derived.Test.YtdghpfejmlpjhaaRXT
import Derived.Test.YtdghpfejmlpjhaaRMT
import Derived.Test.YtdghpfejmlpjhaaRX1
import Derived.Test.YtdghpfejmlpjhaaAWp
import GoSem.Claim
set_option maxRecDepth 100000
set_option linter.unusedVariables false
set_option linter.unusedSimpArgs false
namespace Go.AM
open Go.Proofs
end Go.AM
namespace Go.AM
open Go.Proofs
end Go.AM
namespace Go.AM
open Go.Proofs Go.Sort
open Classical
theorem dec252 {k:Nat} (h:k<252):decide ((0:Int)≤(k:Int)∧(k:Int)<((252:Nat):Int))=true:=decide_eq_true ⟨by omega,by omega⟩
structure FoundP (L:List ruRule) (G:rufact→Prop) (yes open':rufact→Prop):Prop where
 ex:∃ could,LeastR L yes G could∧LeastR L could G yes∧∀ g,open' g↔¬ yes g∧could g
end Go.AM
namespace Go.AM
open Go.Proofs Go.Sort
open Classical
theorem qbb {g:rufact}:¬ setB (List.replicate 252 false) g:=fun h=>by
 have:=h.2;rw[List.getD_eq_getElem?_getD,List.getElem?_replicate]at this
 split at this <;> simp at this
theorem StR.empty {ar:Int→Nat}:StR ar [] (List.replicate 252 false):=⟨NT.empty,fun g hg=>by simp at hg,by simp,fun g=>⟨fun h=>by simp at h,fun h=>absurd h qbb⟩⟩
theorem qhe {l:List rf3Rule} {facts:List apiFact} (hv:VR l facts):(facts.take 26).map cvF=facts:=qdz (by have:=hv.2.1;omega) fun f hf=>by have:=(hv.2.2.1 f hf).2.1.2;omega
theorem qdc {l:List rf3Rule} {facts:List apiFact} (hv:VR l facts):(l.take 12).map cvR=l.map toR:=qdb hv.1 hv.2.2.2.1
end Go.AM
namespace Go.AM
def V (a:Int):BitVec 64:=BitVec.ofInt 64 a
def wf64 (a:Int):Prop := -9223372036854775808≤a∧a<9223372036854775808
theorem qeY (a:Int):IntKind.wrap .i64 a=a.bmod (2 ^ 64):=by
 simp[IntKind.wrap,IntKind.signed,IntKind.bits,Int.bmod]
 omega
theorem qfx (a:Int):wf64 (IntKind.wrap .i64 a):=by
 rw[qeY];unfold wf64;have h1:=Int.le_bmod (x:=a) (m:=2 ^ 64) (by decide);have h2:=Int.bmod_lt (x:=a) (m:=2 ^ 64) (by decide);omega
theorem qhV (a:Int):V (IntKind.wrap .i64 a)=V a:=by
 rw[qeY];unfold V;apply BitVec.eq_of_toInt_eq
 simp[BitVec.toInt_ofInt]
theorem qfw {a:Int} (h:wf64 a):(V a).toInt=a:=by
 unfold V;rw[BitVec.toInt_ofInt];unfold wf64 at h;rw[Int.bmod_eq_of_le] <;> omega
theorem qie {a b:Int} (ha:wf64 a) (hb:wf64 b) (h:V a=V b):a=b:=by
 rw[← qfw ha,← qfw hb,h]
theorem qhP (x:BitVec 64):V (x.toNat:Int)=x:=by
 unfold V;simp
theorem qdX (a b:Int):V (iAndNot .i64 a b)=V a &&& ~~~ V b:=by
 unfold iAndNot;rw[qhV];exact qhP _
theorem qfy (a b:Int):wf64 (iAndNot .i64 a b):=qfx _
def Bits (a b:Int):Prop:=∀ i:Nat,(V a).getLsbD i=true→(V b).getLsbD i=true
theorem Bits.refl (a:Int):Bits a a:=fun _ h=>h
theorem Bits.trans {a b c:Int} (h:Bits a b) (k:Bits b c):Bits a c:=fun i x=>k i (h i x)
theorem qdT {a b:Int}:(iAndNot .i64 a b == 0)=true↔Bits a b:=by
 rw[beq_iff_eq]
 constructor
 ·intro h i hi
  have:V (iAndNot .i64 a b)=0:=by rw[h];rfl
  rw[qdX]at this;have h2:=congrArg (fun x=>BitVec.getLsbD x i) this;have hlt:i<64:=BitVec.lt_of_getLsbD hi
  simp[hi,hlt]at h2
  exact h2
 ·intro h;apply qie (qfy _ _) (by unfold wf64;omega);rw[qdX];apply BitVec.eq_of_getLsbD_eq;intro i hi;have:=h i
  simp[V,hi]at *
  exact this
end Go.AM
namespace Go.AM
open Go.Proofs Go.Sort
open Classical
def bitS (s:Int) (k:Nat):Bool:=(iAnd .i64 (iShr .i64 s (k:Int)) 1) == 1
def selF {α:Type} (s:Int):Nat→List α→List α
 | _,[]=>[]
 | k,x::r=>bif bitS s k then x::selF s (k+1) r else selF s (k+1) r
theorem DP {α:Type} (s:Int):∀ (l:List α) (k:Nat),(selF s k l).Sublist l
 | [],k=>List.Sublist.refl _
 | x::r,k=>by
  unfold selF
  cases bitS s k with
  | true=>exact (DP s r (k+1)).cons_cons x
  | false=>exact (DP s r (k+1)).cons x
theorem qbc {α:Type} {s t:Int} {n:Nat} (h:∀ i,i<n→bitS s i=true→bitS t i=true):∀ (l:List α) (k:Nat),k+l.length≤n→∀ x,x∈selF s k l→x∈selF t k l
 | [],k,_,x,hx=>hx
 | y::r,k,hn,x,hx=>by
  rw[List.length_cons]at hn;have ih:=qbc h r (k+1) (by omega) x;unfold selF at hx ⊢
  cases hs:bitS s k with
  | true =>
   rw[hs,cond_true]at hx;rw[h k (by omega) hs,cond_true]
   rcases List.mem_cons.1 hx with h1 | h1
   ·exact h1 ▸ List.mem_cons_self ..
   ·exact List.mem_cons_of_mem _ (ih h1)
  | false =>
   rw[hs,cond_false]at hx
   cases bitS t k with
   | true=>exact List.mem_cons_of_mem _ (ih hx)
   | false=>exact ih hx
theorem mset_len (out:List (rufact×Bool)) (f:rufact):(mset qm f true out).length≤out.length+1:=by
 induction out with
 | nil=>simp[mset]
 | cons p r ih =>
  unfold mset
  cases qm p.1 f with
  | true=>simp
  | false=>simpa using ih
theorem qeZ (s:Int) (K:List (rufact×Bool)→Option Bool):∀ (l:List apiFact) (k:Nat) (acc:List (rufact×Bool)),(∀ f,f∈l→groundP f)→acc.length+l.length≤1000→ju s K l k acc=K (addF acc ((selF s k l).map toF))
 | [],k,acc,_,_=>by rw[ju];rfl
 | f::l,k,acc,h,hl=>by
  have hf:=h f (List.mem_cons_self ..);rw[List.length_cons]at hl;have hw:=(Nb hf).1.wf;unfold wfF at hw;have hlen:=mset_len acc (toF f)
  have ih:=fun a (ha:a.length+l.length≤1000)=>qeZ s K l (k+1) a (fun g hg=>h g (List.mem_cons_of_mem _ hg)) ha
  rw[ju,VP (decide_eq_true (by omega))];show (bif bitS s k then _ else _)=_;unfold selF
  cases bitS s k with
  | true =>
   rw[cond_true,cond_true,qcw hf];simp only[Option.bind_some];rw[VP hw,VP (by rw[Nat.blt_eq];omega)];unfold JT;rw[ih _ (by omega)];rfl
  | false =>
   rw[cond_false,cond_false];unfold JT;exact ih _ (by omega)
theorem qbH (s:Int) (K:List apiFact→Option Bool):∀ (l:List apiFact) (k:Nat) (acc:List apiFact),acc.length+l.length≤1000→jU s K l k acc=K (acc++selF s k l)
 | [],k,acc,_=>by rw[jU];unfold selF;rw[List.append_nil]
 | f::l,k,acc,hl=>by
  rw[List.length_cons]at hl
  have ih:=fun a (ha:a.length+l.length≤1000)=>qbH s K l (k+1) a ha
  rw[jU,VP (decide_eq_true (by omega))];show (bif bitS s k then _ else _)=_;unfold selF
  cases bitS s k with
  | true =>
   rw[cond_true,cond_true,VP (QW (by omega) (by simp;omega))];unfold QH;rw[ih _ (by simp;omega),List.append_assoc];rfl
  | false =>
   rw[cond_false,cond_false];unfold QH;exact ih _ (by omega)
def EnoughP (l:List rf3Rule) (facts:List apiFact) (f:apiFact) (s:Int):Prop:=∃ X,LeastR (l.map toR) (fun _=>False) (fun g=>g∈(selF s 0 facts).map toF) X∧X (toF f)
theorem Dk {fuel:Nat} (hf:300≤fuel) {l:List rf3Rule} {facts:List apiFact} {f:apiFact} (hv:VR l facts) (hg:groundP f) (s:Int) :
  Xm fuel s facts (l.map toR) f=some (decide (EnoughP l facts f s))∧Ym fuel l facts s f=some (decide (EnoughP l facts f s)):=by
 have h20:=hv.2.1;have hsub:=DP s facts 0;have hsl:(selF s 0 facts).length≤20:=Nat.le_trans hsub.length_le h20;obtain⟨out,S,g1,g2,g3⟩:=qeH (ar:=arVR l facts) (by omega:(selF s 0 facts).length≤100) (fun x hx=>hv.2.2.1 x (hsub.subset hx)) (fun x hx=>hv.facts_ar x (hsub.subset hx))
 have ho:out=addF [] ((selF s 0 facts).map toF):=by
  have:Zv (selF s 0 facts)=some (addF [] ((selF s 0 facts).map toF)):=by
   unfold Zv;rw[VP (jk (by omega)),HM _ _ 0 [] (fun x hx=>hv.2.2.1 x (hsub.subset hx)) NT.empty (by simp;omega)];rfl
  rw[g1]at this;exact Option.some.inj this
 have hom:∀ g,g∈out.map Prod.fst↔g∈(selF s 0 facts).map toF:=fun g=>by
  rw[ho,NT.empty.add.2.1];simp
 have hLU:∀ r,r∈l.map toR→okL (arVR l facts) r:=fun r hr=>by
  obtain⟨q,hq,rfl⟩:=List.mem_map.1 hr;exact hv.okL q hq
 have hl10:=hv.1;obtain⟨res,a1,a2,a3,a4⟩:=qgj hLU (by rw[List.length_map];omega) g3.nt NT.empty g3.ar (by omega:253≤fuel);obtain⟨u,c1,c2,c3,c4⟩:=qfN hf (by omega:l.length≤12) hv.okL g3.len (N:=List.replicate 252 false) (by simp) g3.arB
 have hN1:(fun g=>g∈([]:List (rufact×Bool)).map Prod.fst)=fun _=>False:=funext fun g=>propext (by simp)
 have hN2:setB (List.replicate 252 false)=fun _=>False:=funext fun g=>propext ⟨qbb,False.elim⟩
 have hG:(fun g=>g∈out.map Prod.fst)=fun g=>g∈(selF s 0 facts).map toF:=funext fun g=>propext (hom g)
 have hGS:setB S=fun g=>g∈(selF s 0 facts).map toF:=funext fun g=>propext (by rw[← g3.same,hom])
 rw[hN1,hG]at a4;rw[hN2,hGS]at c4
 have hE:∀ {X:rufact→Prop},LeastR (l.map toR) (fun _=>False) (fun g=>g∈(selF s 0 facts).map toF) X→(EnoughP l facts f s↔X (toF f)):=fun {X} hX=>by
  constructor
  ·rintro⟨Y,hY,hy⟩
   exact (hY.same hX (fun _=>Iff.rfl) (fun _=>Iff.rfl) _).1 hy
  ·intro h;exact⟨X,hX,h⟩
 have hw:=(Nb hg).1.wf;unfold wfF at hw;refine⟨?_,?_⟩
 ·unfold Xm;rw[VP (jk (by omega)),qeZ s _ facts 0 [] hv.2.2.1 (by simp;omega)];unfold Jc Yh;rw[← ho,a1];simp only[Option.bind_some];rw[qcw hg];simp only[Option.bind_some];rw[VP hw]
  congr 1
  rw[Bool.eq_iff_iff,NT.mget a2.t,decide_eq_true_eq,hE a4]
 ·unfold Ym;rw[VP (jk (by omega)),qbH s _ facts 0 [] (by simp;omega)];unfold JG;rw[List.nil_append,g2];simp only[Option.bind_some];rw[c1];simp only[Option.bind_some];obtain⟨h1,h2⟩:=Nb hg;have hc:=qat h1;rw[h2]at hc;replace hc:Ya f.qb f.qa=_:=hc;have hlt:=ZE h1;rw[hc];simp only[Option.bind_some];rw[VP (dec252 hlt),Int.toNat_natCast,Nat.mul_one,List.getElem?_eq_getElem (by omega)];simp only[Option.bind_some]
  congr 1
  rw[Bool.eq_iff_iff,decide_eq_true_eq,hE c4];unfold setB;rw[List.getD_eq_getElem?_getD,List.getElem?_eq_getElem (by omega)];exact⟨fun h=>⟨h1,h⟩,fun h=>h.2⟩
theorem EnoughP.mono {l:List rf3Rule} {facts:List apiFact} {f:apiFact} {s t:Int} (h:∀ i,i<facts.length→bitS s i=true→bitS t i=true) {fuel:Nat} (hf:300≤fuel) (hv:VR l facts) (hg:groundP f) (hs:EnoughP l facts f s) (ht:∃ Y,LeastR (l.map toR) (fun _=>False) (fun g=>g∈(selF t 0 facts).map toF) Y):EnoughP l facts f t:=by
 obtain⟨X,hX,hx⟩:=hs;obtain⟨Y,hY⟩:=ht;refine⟨Y,hY,hX.least Y (fun g hg=>hY.sub g ?_) hY.closed _ hx⟩;obtain⟨z,hz,rfl⟩:=List.mem_map.1 hg;exact List.mem_map.2 ⟨z,qbc h facts 0 (by omega) z hz,rfl⟩
def scanS (E:Nat→Bool):Nat→Nat→List Int→List Int
 | 0,_,v=>v
 | n+1,k,v=>scanS E n (k+1) (bif !(v.any fun x=>iAndNot .i64 x (k:Int) == 0) && E k then v++[(k:Int)] else v)
theorem NZ {g:Int→Option Bool} {p:Int→Bool}:∀ (l:List Int) (k:Nat),(∀ x,x∈l→g x=some (p x))→∃ i,jn g jX l k=some i∧(decide (i ≥ 0)=l.any p)
 | [],k,_=>⟨-1,by rw[jn];rfl,by simp⟩
 | x::l,k,h=>by
  obtain⟨i,h1,h2⟩:=NZ l (k+1) fun y hy=>h y (List.mem_cons_of_mem _ hy)
  rw[jn,h x (List.mem_cons_self ..)];simp only[Option.bind_some]
  cases hp:p x with
  | true=>exact⟨k,rfl,by simp[hp]⟩
  | false=>exact⟨i,by rw[cond_false];exact h1,by rw[h2,List.any_cons,hp,Bool.false_or]⟩
theorem qcD {l:List Int} {g:Int→Option Bool} {p:Int→Bool} (hl:lenOk l=true) (h:∀ x,x∈l→g x=some (p x)):Qq l g=some (l.any p):=by
 obtain⟨i,h1,h2⟩:=NZ l 0 h;unfold Qq XL;rw[VP hl,h1];simp only[Option.bind_some];rw[h2]
theorem qgG {fuel:Nat} {l:List ruRule} {facts:List apiFact} {f:apiFact} {E:Nat→Bool} (hE:∀ k:Nat,Xm fuel (k:Int) facts l f=some (E k)) (K:List Int→Option (List Int×Int)):∀ (r:List Nat) (k:Nat) (v:List Int),v.length+r.length≤100000→jy fuel l facts f K r k v=K (scanS E r.length k v)
 | [],k,v,_=>by rw[jy];rfl
 | y::r,k,v,h=>by
  rw[List.length_cons]at h
  have ih:=fun u (hu:u.length+r.length≤100000)=>qgG hE K r (k+1) u hu
  have hc:=qcD (l:=v) (g:=fun y0=>YB y0 (k:Int)) (p:=fun x=>iAndNot .i64 x (k:Int) == 0) (jk (by omega)) (fun x _=>rfl);rw[jy,hc];simp only[Option.bind_some];rw[List.length_cons];unfold scanS
  cases v.any fun x=>iAndNot .i64 x (k:Int) == 0 with
  | true =>
   simp only[Bool.not_true,cond_false,Bool.false_and];unfold QG JN;rw[cond_false];exact ih v (by omega)
  | false =>
   simp only[Bool.not_false,cond_true,Bool.true_and];rw[hE k];simp only[Option.bind_some];unfold QG JN
   cases E k with
   | true =>
    rw[cond_true,cond_true,VP (QW (by omega) (by simp;omega))];exact ih _ (by simp;omega)
   | false =>
    rw[cond_false,cond_false];exact ih v (by omega)
theorem qcp (k1:Nat) (K:Bool→Option (List Int)):∀ (l:List Int) (k:Nat) (b:Bool),jF k1 K l k b=K (b && !(l.any fun x=>iAndNot .i64 x (k1:Int) == 0))
 | [],k,b=>by rw[jF];simp
 | x::l,k,b=>by
  rw[jF];unfold QN
  cases b with
  | true =>
   rw[cond_true,qcp k1 K l (k+1),List.any_cons]
   congr 1
   cases h:iAndNot .i64 x (k1:Int) == 0 <;> simp[bne,h]
  | false =>
   rw[cond_false,qcp k1 K l (k+1)];rfl
theorem qgF {fuel:Nat} {l:List rf3Rule} {facts:List apiFact} {f:apiFact} {E:Nat→Bool} (hE:∀ k:Nat,Ym fuel l facts (k:Int) f=some (E k)) (K:List Int→Option (List Int)):∀ (r:List Nat) (k:Nat) (v:List Int),v.length+r.length≤100000→qK fuel l facts f K r k v=K (scanS E r.length k v)
 | [],k,v,_=>by rw[qK];rfl
 | y::r,k,v,h=>by
  rw[List.length_cons]at h
  have ih:=fun u (hu:u.length+r.length≤100000)=>qgF hE K r (k+1) u hu
  rw[qK,VP (jk (by omega)),qcp,Bool.true_and,List.length_cons];unfold scanS Jd
  cases v.any fun x=>iAndNot .i64 x (k:Int) == 0 with
  | true =>
   simp only[Bool.not_true,cond_false,Bool.false_and];unfold Qn jd;rw[cond_false];exact ih v (by omega)
  | false =>
   simp only[Bool.not_false,cond_true,Bool.true_and];rw[hE k];simp only[Option.bind_some];unfold Qn jd
   cases E k with
   | true =>
    rw[cond_true,cond_true,VP (QW (by omega) (by simp;omega))];exact ih _ (by simp;omega)
   | false =>
    rw[cond_false,cond_false];exact ih v (by omega)
theorem qbd (E:Nat→Bool):∀ (n k:Nat) (v:List Int),(∀ x,x∈v→∃ j:Nat,x=(j:Int)∧j<k∧E j=true)→(∀ j,j<k→E j=true→∃ x,x∈v∧Bits x (j:Int)) →
  (∀ x,x∈scanS E n k v→∃ j:Nat,x=(j:Int)∧j<k+n∧E j=true)∧(∀ j,j<k+n→E j=true→∃ x,x∈scanS E n k v∧Bits x (j:Int))∧(scanS E n k v).length≤v.length+n
 | 0,k,v,h1,h2=>⟨by simpa[scanS] using h1,by simpa[scanS] using h2,by simp[scanS]⟩
 | n+1,k,v,h1,h2=>by
  unfold scanS
  have step:∀ u:List Int,(∀ x,x∈u→∃ j:Nat,x=(j:Int)∧j<k+1∧E j=true)→(∀ j,j<k+1→E j=true→∃ x,x∈u∧Bits x (j:Int))→u.length≤v.length+1 →
    (∀ x,x∈scanS E n (k+1) u→∃ j:Nat,x=(j:Int)∧j<k+(n+1)∧E j=true)∧(∀ j,j<k+(n+1)→E j=true→∃ x,x∈scanS E n (k+1) u∧Bits x (j:Int))∧(scanS E n (k+1) u).length≤v.length+(n+1):=fun u q1 q2 q3=>by
   obtain⟨a,b,c⟩:=qbd E n (k+1) u q1 q2;refine⟨fun x hx=>?_,fun j hj he=>b j (by omega) he,by omega⟩;obtain⟨j,e1,e2,e3⟩:=a x hx;exact⟨j,e1,by omega,e3⟩
  cases ha:v.any fun x=>iAndNot .i64 x (k:Int) == 0 with
  | true =>
   simp only[Bool.not_true,Bool.false_and,cond_false];refine step v (fun x hx=>?_) (fun j hj he=>?_) (by omega)
   ·obtain⟨j,e1,e2,e3⟩:=h1 x hx;exact⟨j,e1,by omega,e3⟩
   ·by_cases hjk:j=k
    ·subst hjk;obtain⟨x,hx,hb⟩:=List.any_eq_true.1 ha;exact⟨x,hx,qdT.1 hb⟩
    ·exact h2 j (by omega) he
  | false =>
   simp only[Bool.not_false,Bool.true_and]
   cases hE:E k with
   | true =>
    rw[cond_true];refine step _ (fun x hx=>?_) (fun j hj he=>?_) (by simp)
    ·rcases List.mem_append.1 hx with h | h
     ·obtain⟨j,e1,e2,e3⟩:=h1 x h;exact⟨j,e1,by omega,e3⟩
     ·exact⟨k,List.mem_singleton.1 h,by omega,hE⟩
    ·by_cases hjk:j=k
     ·subst hjk;exact⟨_,List.mem_append_right _ (List.mem_singleton.2 rfl),Bits.refl _⟩
     ·obtain⟨x,hx,hb⟩:=h2 j (by omega) he;exact⟨x,List.mem_append_left _ hx,hb⟩
   | false =>
    rw[cond_false];refine step v (fun x hx=>?_) (fun j hj he=>?_) (by omega)
    ·obtain⟨j,e1,e2,e3⟩:=h1 x hx;exact⟨j,e1,by omega,e3⟩
    ·by_cases hjk:j=k
     ·subst hjk;rw[hE]at he;cases he
     ·exact h2 j (by omega) he
end Go.AM
namespace Go.AM
open Go.Proofs Go.Sort
open Classical
theorem qae {f:apiFact}:groundP (cutF f)↔groundP f:=by
 unfold cutF groundP
 simp only
 by_cases h:f.qa.length≤5
 ·rw[List.take_of_length_le h]
 ·have h1:¬ (f.qa.take 5).length≤2:=by rw[List.length_take];omega
  constructor
  ·rintro⟨_,⟨_,q⟩,_⟩;exact absurd q h1
  ·rintro⟨_,⟨_,q⟩,_⟩;omega
theorem qeN {f:apiFact} (h:groundP f):cutF f=f:=by
 unfold cutF;rw[List.take_of_length_le (by have:=h.2.1.2;omega)]
theorem UX {g:ruRule→Option Bool} {p:ruRule→Bool}:∀ (l:List ruRule) (k:Nat),(∀ x,x∈l→g x=some (p x))→∃ i,qT g jw l k=some i∧(decide (i ≥ 0)=l.any p)
 | [],k,_=>⟨-1,by rw[qT];rfl,by simp⟩
 | x::l,k,h=>by
  obtain⟨i,h1,h2⟩:=UX l (k+1) fun y hy=>h y (List.mem_cons_of_mem _ hy)
  rw[qT,h x (List.mem_cons_self ..)];simp only[Option.bind_some]
  cases hp:p x with
  | true=>exact⟨k,rfl,by simp[hp]⟩
  | false=>exact⟨i,by rw[cond_false];exact h1,by rw[h2,List.any_cons,hp,Bool.false_or]⟩
theorem NY {g:ruLit→Option Bool} {p:ruLit→Bool}:∀ (l:List ruLit) (k:Nat),(∀ x,x∈l→g x=some (p x))→∃ i,ja g jA l k=some i∧(decide (i ≥ 0)=l.any p)
 | [],k,_=>⟨-1,by rw[ja];rfl,by simp⟩
 | x::l,k,h=>by
  obtain⟨i,h1,h2⟩:=NY l (k+1) fun y hy=>h y (List.mem_cons_of_mem _ hy)
  rw[ja,h x (List.mem_cons_self ..)];simp only[Option.bind_some]
  cases hp:p x with
  | true=>exact⟨k,rfl,by simp[hp]⟩
  | false=>exact⟨i,by rw[cond_false];exact h1,by rw[h2,List.any_cons,hp,Bool.false_or]⟩
theorem Nv {l:List rf3Rule} (hl:l.length≤10) (hb:∀ r,r∈l→r.qc.length≤3):JK (l.map toR) (fun y0=>Xn y0)=some (!decide (plainP l)):=by
 have h1:∀ x,x∈l.map toR→Xn x=some (x.qc.any fun b=>b.qr):=fun x hx=>by
  obtain⟨r,hr,rfl⟩:=List.mem_map.1 hx
  obtain⟨i,q1,q2⟩:=NY (g:=fun y0=>XJ y0) (p:=fun b=>b.qr) (toR r).qc 0 fun _ _=>rfl
  unfold Xn QK Xf;rw[VP (jk (by have:=hb r hr;simp[toR];omega)),q1];simp only[Option.bind_some];rw[q2]
 obtain⟨i,q1,q2⟩:=UX (l.map toR) 0 h1;unfold JK Xb;rw[VP (jk (by rw[List.length_map];omega)),q1];simp only[Option.bind_some];rw[q2]
 congr 1
 rw[Bool.eq_iff_iff,Bool.not_eq_true',decide_eq_false_iff_not,List.any_eq_true];unfold plainP
 constructor
 ·rintro⟨x,hx,hn⟩ hp
  obtain⟨r,hr,rfl⟩:=List.mem_map.1 hx;obtain⟨b,hb,hq⟩:=List.any_eq_true.1 hn;obtain⟨c,hc,rfl⟩:=List.mem_map.1 hb;have:=hp r hr c hc;rw[show (toL c).qr=c.qr from rfl,this]at hq;cases hq
 ·intro hp
  refine Classical.byContradiction fun hn=>hp fun r hr b hb=>?_
  cases hbn:b.qr with
  | false=>rfl
  | true=>exact absurd ⟨toR r,List.mem_map.2 ⟨r,hr,rfl⟩,List.any_eq_true.2 ⟨toL b,List.mem_map.2 ⟨b,hb,rfl⟩,hbn⟩⟩ hn
theorem pow10 {n:Nat} (h:n≤10):2 ^ n≤1024:=by
 have:(2:Nat) ^ n≤2 ^ 10:=Nat.pow_le_pow_right (by omega) h
 have e:(2:Nat) ^ 10=1024:=by decide
 omega
theorem qcd {n:Nat} (h:n≤10):iShl .i64 1 (n:Int)=((2 ^ n:Nat):Int):=by
 have h1:=pow10 h;unfold iShl;have hb:IntKind.bits .i64=64:=rfl;rw[Int.toNat_natCast,hb,Nat.min_eq_left (by omega),Int.one_mul]
 have e:(2:Int) ^ n=((2 ^ n:Nat):Int):=by norm_cast
 rw[e];generalize 2 ^ n=m at h1;exact wrap64 (by omega) (by omega)
theorem qfv {n:Nat} (h:n≤10):IntKind.wrap .i64 (iShl .i64 1 (n:Int) - 1)=((2 ^ n - 1:Nat):Int):=by
 have h1:=pow10 h;have h2:1≤2 ^ n:=Nat.one_le_two_pow;rw[qcd h];generalize 2 ^ n=m at h1 h2;rw[wrap64 (by omega) (by omega)];omega
noncomputable def enE (l:List rf3Rule) (facts:List apiFact) (f:apiFact) (k:Nat):Bool:=decide (EnoughP l facts f (k:Int))
noncomputable def srcL (l:List rf3Rule) (facts:List apiFact) (f:apiFact):List Int:=bif enE l facts f (2 ^ facts.length - 1) then scanS (enE l facts f) (2 ^ facts.length) 0 [] else []
theorem qhZ {fuel:Nat} (hf:300≤fuel) {l:List rf3Rule} {facts:List apiFact} {f:apiFact} (ho:okRules l) (hv:VR l facts) (hg:groundP f) (hp:plainP l) (h10:facts.length≤10):Xo fuel (l.map toR) facts f=some (srcL l facts f,0):=by
 have hen:=fun k:Nat=>(Dk hf hv hg (k:Int)).1
 have hpw:=pow10 h10;unfold Xo;rw[mvalid (by omega) ho hv.1 hv.2.2.2.1 (by omega) (fun f hf=>by have:=(hv.2.2.1 f hf).2.1.2;omega),decide_eq_true hv];simp only[Option.bind_some,Bool.not_true,cond_false];rw[VG (by omega),decide_eq_true hg];simp only[Option.bind_some,Bool.not_true,cond_false];rw[Nv hv.1 (fun r hr=>(hv.2.2.2.1 r hr).2.1),decide_eq_true hp];simp only[Option.bind_some,Bool.not_true];unfold Qx;rw[cond_false,decide_eq_false (by omega:¬ (facts.length:Int) > 10),cond_false,VP (decide_eq_true (by omega)),qfv h10,hen];simp only[Option.bind_some];unfold srcL;show (bif !enE l facts f (2 ^ facts.length - 1) then _ else _)=_
 cases enE l facts f (2 ^ facts.length - 1) with
 | false=>rfl
 | true =>
  rw[Bool.not_true,cond_false,VP (decide_eq_true (by omega)),qcd h10,Int.toNat_natCast,VP (jk (by rw[List.length_range];omega)),qgG (E:=enE l facts f) (fun k=>hen k) _ _ 0 [] (by rw[List.length_range];simp;omega),List.length_range];rfl
theorem qhY {fuel:Nat} (hf:300≤fuel) {l:List rf3Rule} {facts:List apiFact} {f:apiFact} (hv:VR l facts) (hg:groundP f) (h10:facts.length≤10):Za fuel l facts f=some (srcL l facts f):=by
 have hen:=fun k:Nat=>(Dk hf hv hg (k:Int)).2
 have hpw:=pow10 h10;unfold Za;rw[VP (decide_eq_true (by omega)),qfv h10,hen];simp only[Option.bind_some];unfold srcL;show (bif !enE l facts f (2 ^ facts.length - 1) then _ else _)=_
 cases enE l facts f (2 ^ facts.length - 1) with
 | false=>rfl
 | true =>
  rw[Bool.not_true,cond_false,VP (decide_eq_true (by omega)),qcd h10,Int.toNat_natCast,VP (jk (by rw[List.length_range];omega)),qgF (E:=enE l facts f) (fun k=>hen k) _ _ 0 [] (by rw[List.length_range];simp;omega),List.length_range];rfl
theorem qhz {l:List rf3Rule} {facts:List apiFact} {f:apiFact} (h10:facts.length≤10):(srcL l facts f).length≤1024:=by
 have hpw:=pow10 h10;unfold srcL
 cases enE l facts f (2 ^ facts.length - 1) with
 | false=>simp
 | true =>
  have:=(qbd (enE l facts f) (2 ^ facts.length) 0 [] (by simp) (by omega)).2.2
  simp at this ⊢
  omega
theorem qhB {fuel:Nat} (hf:300≤fuel) {l:List rf3Rule} {facts:List apiFact} {f:apiFact} (ho:okRules l) (h:¬ (VR l facts∧groundP f∧plainP l)):Xo fuel ((l.take 12).map cvR) ((facts.take 26).map cvF) (cutF f)=some ([],2):=by
 unfold Xo;rw[DI (by omega) ho];simp only[Option.bind_some]
 by_cases hv:VR l facts
 ·rw[decide_eq_true hv,Bool.not_true,cond_false,VG (by omega)];simp only[Option.bind_some]
  by_cases hg:groundP f
  ·rw[decide_eq_true (qae.2 hg),Bool.not_true,cond_false,qdc hv,Nv hv.1 (fun r hr=>(hv.2.2.2.1 r hr).2.1),decide_eq_false (fun hp=>h ⟨hv,hg,hp⟩)];rfl
  ·rw[decide_eq_false (fun q=>hg (qae.1 q))];rfl
 ·rw[decide_eq_false hv];rfl
theorem qhA {fuel:Nat} (hf:300≤fuel) {l:List rf3Rule} {facts:List apiFact} {f:apiFact} (ho:okRules l) (hv:VR l facts) (hg:groundP f) (hp:plainP l) (h10:¬ facts.length≤10):Xo fuel (l.map toR) facts f=some ([],3):=by
 have h20:=hv.2.1;unfold Xo;rw[mvalid (by omega) ho hv.1 hv.2.2.2.1 (by omega) (fun f hf=>by have:=(hv.2.2.1 f hf).2.1.2;omega),decide_eq_true hv];simp only[Option.bind_some,Bool.not_true,cond_false];rw[VG (by omega),decide_eq_true hg];simp only[Option.bind_some,Bool.not_true,cond_false];rw[Nv hv.1 (fun r hr=>(hv.2.2.2.1 r hr).2.1),decide_eq_true hp];simp only[Option.bind_some,Bool.not_true];unfold Qx;rw[cond_false,decide_eq_true (by omega:(facts.length:Int) > 10),cond_true]
theorem NJ {fuel:Nat} (hf:400≤fuel) {l:List rf3Rule} {facts:List apiFact} {f:apiFact} (hl:okRules l) (hfa:okFacts facts) (hf1:okFact f):XV fuel l facts f=some true:=by
 obtain⟨n,rfl⟩:∃ n,fuel=n+30:=⟨fuel - 30,by omega⟩;have haw:=qgq n;unfold XV;rw[qhT hl.1 (fun r hr=>(hl.2 r hr).2.1),qgh hfa.1];simp only[Option.bind_some];rw[qeD];simp only[Option.bind_some]
 have jbad:jg (n+30) l facts f ([],2) true=some true:=by
  unfold jg;rw[cond_true,show ((([]:List Int).length:Int) == 0)=true from rfl,cond_true,show ((2:Int) == 2)=true from rfl,cond_true,haw];rfl
 by_cases hall:VR l facts∧groundP f∧plainP l
 ·obtain⟨hv,hg,hp⟩:=hall;rw[qhe hv,qdc hv,qeN hg]
  by_cases h10:facts.length≤10
  ·rw[qhZ (by omega) hl hv hg hp h10];simp only[Option.bind_some];rw[VA hl hfa,decide_eq_true hv];simp only[Option.bind_some,Bool.not_true,cond_false];rw[VH hf1.2.1,decide_eq_true hg];simp only[Option.bind_some,Bool.not_true,cond_false];rw[Ni hl,decide_eq_true hp];simp only[Option.bind_some,Bool.not_true];unfold jg;rw[cond_false,decide_eq_false (by omega:¬ (facts.length:Int) > 10),cond_false,qhY (by omega) hv hg h10];simp only[Option.bind_some];rw[qgi (jk (by have:=qhz (l:=l) (f:=f) h10;omega)),decide_eq_true rfl];simp only[Option.bind_some,cond_true];rw[show ((0:Int) == 0)=true from rfl,cond_true,haw];rfl
  ·rw[qhA (by omega) hl hv hg hp h10];simp only[Option.bind_some];rw[VA hl hfa,decide_eq_true hv];simp only[Option.bind_some,Bool.not_true,cond_false];rw[VH hf1.2.1,decide_eq_true hg];simp only[Option.bind_some,Bool.not_true,cond_false];rw[Ni hl,decide_eq_true hp];simp only[Option.bind_some,Bool.not_true];unfold jg;rw[cond_false,decide_eq_true (by omega:(facts.length:Int) > 10),cond_true,show ((([]:List Int).length:Int) == 0)=true from rfl,cond_true,show ((3:Int) == 3)=true from rfl,cond_true,haw];rfl
 ·rw[qhB (by omega) hl hall];simp only[Option.bind_some];rw[VA hl hfa];simp only[Option.bind_some]
  by_cases hv:VR l facts
  ·rw[decide_eq_true hv,Bool.not_true,cond_false,VH hf1.2.1];simp only[Option.bind_some]
   by_cases hg:groundP f
   ·rw[decide_eq_true hg,Bool.not_true,cond_false,Ni hl,decide_eq_false (fun hp=>hall ⟨hv,hg,hp⟩)];simp only[Option.bind_some,Bool.not_false];exact jbad
   ·rw[decide_eq_false hg,Bool.not_false,cond_true];exact jbad
  ·rw[decide_eq_false hv,Bool.not_false,cond_true];exact jbad
end Go.AM
