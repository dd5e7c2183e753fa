/- s -/
import Derived.Test.YtdghpfejmlpjhaaAWq
import Derived.Test.YtdghpfejmlpjhaaChecked
import Derived.Test.YtdghpfejmlpjhaaRAT
import Derived.Test.YtdghpfejmlpjhaaAArr
import Derived.Test.YtdghpfejmlpjhaaASimJ
import Derived.Test.YtdghpfejmlpjhaaRCon3
import Derived.Test.YtdghpfejmlpjhaaRMT
import Derived.Test.YtdghpfejmlpjhaaRQ2
import Derived.Test.YtdghpfejmlpjhaaRFou
import Derived.Test.YtdghpfejmlpjhaaRQT
import Derived.Test.YtdghpfejmlpjhaaAWp
import GoSem.Claim
set_option maxRecDepth 100000
set_option linter.unusedVariables false
set_option linter.unusedSimpArgs false
namespace Go.AM
open Go.Proofs
end Go.AM
namespace Go.AM
open Go.Proofs
end Go.AM
namespace Go.AM
open Go.Proofs
end Go.AM
namespace Go.AM
open Go.Proofs
end Go.AM
namespace Go.AM
open Go.Proofs Go.Sort
open Classical
theorem qaA {S:List Bool} {k:Nat} (hk:k<S.length) (b:Bool) (i:Nat):(S.set k b).getD i false=if i=k then b else S.getD i false:=by
 rw[List.getD_eq_getElem?_getD,List.getD_eq_getElem?_getD,List.getElem?_set]
 by_cases h:k=i
 ·subst h;rw[if_pos rfl,if_pos hk,if_pos rfl];rfl
 ·rw[if_neg h,if_neg (Ne.symm h)]
structure FoundP (L:List ruRule) (G:rufact→Prop) (yes open':rufact→Prop):Prop where
 ex:∃ could,LeastR L yes G could∧LeastR L could G yes∧∀ g,open' g↔¬ yes g∧could g
end Go.AM
namespace Go.AM
open Go.Proofs Go.Sort
open Classical
theorem qeA {g:rufact}:¬ setB (List.replicate 252 false) g:=fun h=>by
 have:=h.2;rw[List.getD_eq_getElem?_getD,List.getElem?_replicate]at this
 split at this <;> simp at this
theorem StR.empty {ar:Int→Nat}:StR ar [] (List.replicate 252 false):=⟨NT.empty,fun g hg=>by simp at hg,by simp,fun g=>⟨fun h=>by simp at h,fun h=>absurd h qeA⟩⟩
theorem HZ {l:List rf3Rule} {facts:List apiFact} (hv:VR l facts):(l.take 12).map cvR=l.map toR:=qfA hv.1 hv.2.2.2.1
end Go.AM
namespace Go.AM
def V (a:Int):BitVec 64:=BitVec.ofInt 64 a
def wf64 (a:Int):Prop := -9223372036854775808≤a∧a<9223372036854775808
theorem qdV (a:Int):IntKind.wrap .i64 a=a.bmod (2 ^ 64):=by
 simp[IntKind.wrap,IntKind.signed,IntKind.bits,Int.bmod]
 omega
theorem qab (a:Int):wf64 (IntKind.wrap .i64 a):=by
 rw[qdV];unfold wf64;have h1:=Int.le_bmod (x:=a) (m:=2 ^ 64) (by decide);have h2:=Int.bmod_lt (x:=a) (m:=2 ^ 64) (by decide);omega
theorem qgr (a:Int):V (IntKind.wrap .i64 a)=V a:=by
 rw[qdV];unfold V;apply BitVec.eq_of_toInt_eq
 simp[BitVec.toInt_ofInt]
theorem qbH {a:Int} (h:wf64 a):(V a).toInt=a:=by
 unfold V;rw[BitVec.toInt_ofInt];unfold wf64 at h;rw[Int.bmod_eq_of_le] <;> omega
theorem qgt {a b:Int} (ha:wf64 a) (hb:wf64 b) (h:V a=V b):a=b:=by
 rw[← qbH ha,← qbH hb,h]
theorem qes (x:BitVec 64):V (x.toNat:Int)=x:=by
 unfold V;simp
theorem V_or (a b:Int):V (iOr .i64 a b)=V a ||| V b:=by
 unfold iOr;rw[qgr];exact qes _
theorem qgu (a b:Int):V (iAnd .i64 a b)=V a &&& V b:=by
 unfold iAnd;rw[qgr];exact qes _
theorem qgN (a b:Int):wf64 (iOr .i64 a b):=qab _
theorem qcV (a b:Int):wf64 (iAnd .i64 a b):=qab _
def Bits (a b:Int):Prop:=∀ i:Nat,(V a).getLsbD i=true→(V b).getLsbD i=true
theorem Bits.refl (a:Int):Bits a a:=fun _ h=>h
theorem Bits.trans {a b c:Int} (h:Bits a b) (k:Bits b c):Bits a c:=fun i x=>k i (h i x)
end Go.AM
namespace Go.AM
open Go.Proofs Go.Sort
open Classical
def bitS (s:Int) (k:Nat):Bool:=(iAnd .i64 (iShr .i64 s (k:Int)) 1) == 1
theorem qbC {s:Int} {k:Nat} (hs:wf64 s) (hk:k<64):bitS s k=(V s).getLsbD k:=by
 unfold bitS iShr;have hb:IntKind.bits .i64=64:=rfl;rw[Int.toNat_natCast,hb,Nat.min_eq_left (by omega)]
 have h1:∀ x:Int,((iAnd .i64 x 1) == 1)=(V x).getLsbD 0:=fun x=>by
  rw[Bool.eq_iff_iff,beq_iff_eq]
  have h2:iAnd .i64 x 1=1↔V x &&& V 1=V 1:=by
   rw[← qgu];exact⟨fun h=>by rw[h],fun h=>qgt (qcV _ _) (by unfold wf64;omega) h⟩
  rw[h2]
  constructor
  ·intro h;have:=congrArg (fun b=>BitVec.getLsbD b 0) h;simp only[BitVec.getLsbD_and]at this
   have e:(V 1).getLsbD 0=true:=by decide
   rw[e,Bool.and_true]at this;exact this
  ·intro h
   refine BitVec.eq_of_getLsbD_eq fun i hi=>?_
   rw[BitVec.getLsbD_and]
   by_cases h0:i=0
   ·subst h0;rw[h];rfl
   ·have e:(V 1).getLsbD i=false:=by
     show (1#64).getLsbD i=false;rw[BitVec.getLsbD_one]
     simp[h0]
    rw[e,Bool.and_false]
 rw[h1]
 have e2:s.fdiv (2 ^ k)=s >>> k:=by
  rw[Int.shiftRight_eq_div_pow,Int.fdiv_eq_ediv_of_nonneg _ (by exact_mod_cast Nat.zero_le _)]
  norm_cast
 have e3:V (s >>> k)=(V s).sshiftRight k:=by
  show _=BitVec.ofInt 64 ((V s).toInt >>> k);rw[qbH hs];rfl
 rw[e2,e3,BitVec.getLsbD_sshiftRight]
 simp[hk]
def selF {α:Type} (s:Int):Nat→List α→List α
 | _,[]=>[]
 | k,x::r=>bif bitS s k then x::selF s (k+1) r else selF s (k+1) r
theorem qah {α:Type} {s t:Int} {n:Nat} (h:∀ i,i<n→bitS s i=true→bitS t i=true):∀ (l:List α) (k:Nat),k+l.length≤n→∀ x,x∈selF s k l→x∈selF t k l
 | [],k,_,x,hx=>hx
 | y::r,k,hn,x,hx=>by
  rw[List.length_cons]at hn;have ih:=qah h r (k+1) (by omega) x;unfold selF at hx ⊢
  cases hs:bitS s k with
  | true =>
   rw[hs,cond_true]at hx;rw[h k (by omega) hs,cond_true]
   rcases List.mem_cons.1 hx with h1 | h1
   ·exact h1 ▸ List.mem_cons_self ..
   ·exact List.mem_cons_of_mem _ (ih h1)
  | false =>
   rw[hs,cond_false]at hx
   cases bitS t k with
   | true=>exact List.mem_cons_of_mem _ (ih hx)
   | false=>exact ih hx
theorem mset_len (out:List (rufact×Bool)) (f:rufact):(mset qt f true out).length≤out.length+1:=by
 induction out with
 | nil=>simp[mset]
 | cons p r ih =>
  unfold mset
  cases qt p.1 f with
  | true=>simp
  | false=>simpa using ih
def EnoughP (l:List rf3Rule) (facts:List apiFact) (f:apiFact) (s:Int):Prop:=∃ X,LeastR (l.map toR) (fun _=>False) (fun g=>g∈(selF s 0 facts).map toF) X∧X (toF f)
theorem EnoughP.mono {l:List rf3Rule} {facts:List apiFact} {f:apiFact} {s t:Int} (h:∀ i,i<facts.length→bitS s i=true→bitS t i=true) {fuel:Nat} (hf:300≤fuel) (hv:VR l facts) (hg:groundP f) (hs:EnoughP l facts f s) (ht:∃ Y,LeastR (l.map toR) (fun _=>False) (fun g=>g∈(selF t 0 facts).map toF) Y):EnoughP l facts f t:=by
 obtain⟨X,hX,hx⟩:=hs;obtain⟨Y,hY⟩:=ht;refine⟨Y,hY,hX.least Y (fun g hg=>hY.sub g ?_) hY.closed _ hx⟩;obtain⟨z,hz,rfl⟩:=List.mem_map.1 hg;exact List.mem_map.2 ⟨z,qah h facts 0 (by omega) z hz,rfl⟩
end Go.AM
namespace Go.AM
open Go.Proofs Go.Sort
open Classical
theorem pow10 {n:Nat} (h:n≤10):2 ^ n≤1024:=by
 have:(2:Nat) ^ n≤2 ^ 10:=Nat.pow_le_pow_right (by omega) h
 have e:(2:Nat) ^ 10=1024:=by decide
 omega
theorem qgD {n:Nat} (h:n≤10):iShl .i64 1 (n:Int)=((2 ^ n:Nat):Int):=by
 have h1:=pow10 h;unfold iShl;have hb:IntKind.bits .i64=64:=rfl;rw[Int.toNat_natCast,hb,Nat.min_eq_left (by omega),Int.one_mul]
 have e:(2:Int) ^ n=((2 ^ n:Nat):Int):=by norm_cast
 rw[e];generalize 2 ^ n=m at h1;exact wrap64 (by omega) (by omega)
end Go.AM
namespace Go.AM
open Go.Proofs Go.Sort
open Classical
theorem qed {r:Int} (h:rel6 r):r=((r.toNat:Nat):Int):=by have:=h.1;omega
theorem Vv {r:Int} (h:rel6 r):r.toNat<6:=by have:=h.1;have:=h.2;omega
theorem qfn (x:Int):((iAnd .i64 x 1) == 0)=!((iAnd .i64 x 1) == 1):=by
 rw[Bool.eq_iff_iff,beq_iff_eq,Bool.not_eq_true',← Bool.not_eq_true,beq_iff_eq]
 constructor
 ·intro h h1;rw[h]at h1;cases h1
 ·intro h
  have hz:V (iAnd .i64 x 1)=V 0:=by
   rw[qgu]
   refine BitVec.eq_of_getLsbD_eq fun i hi=>?_
   rw[BitVec.getLsbD_and]
   have e0:(V 0).getLsbD i=false:=by
    show (0#64).getLsbD i=false
    simp
   rw[e0]
   by_cases hi0:i=0
   ·subst hi0
    cases hb:(V x).getLsbD 0 with
    | false=>rfl
    | true =>
     exfalso;refine h (qgt (qcV _ _) (by unfold wf64;omega) ?_);rw[qgu]
     refine BitVec.eq_of_getLsbD_eq fun j hj=>?_
     rw[BitVec.getLsbD_and]
     by_cases hj0:j=0
     ·subst hj0;rw[hb];rfl
     ·have:(V 1).getLsbD j=false:=by
       show (1#64).getLsbD j=false;rw[BitVec.getLsbD_one]
       simp[hj0]
      rw[this,Bool.and_false]
   ·have:(V 1).getLsbD i=false:=by
     show (1#64).getLsbD i=false;rw[BitVec.getLsbD_one]
     simp[hi0]
    rw[this,Bool.and_false]
  exact qgt (qcV _ _) (by unfold wf64;omega) hz
theorem test1 {v r:Int} (hr:rel6 r):((iAnd .i64 (iShr .i64 v r) 1) == 1)=bitS v r.toNat:=by
 unfold bitS;rw[← qed hr]
theorem test0 {v r:Int} (hr:rel6 r):((iAnd .i64 (iShr .i64 v r) 1) == 0)=!bitS v r.toNat:=by
 rw[qfn,test1 hr]
theorem qgs {n:Nat} (hn:n<62) (i:Nat):(V ((2 ^ n:Nat):Int)).getLsbD i=decide (i=n):=by
 unfold V;rw[BitVec.ofInt_natCast,BitVec.getLsbD_ofNat,Nat.testBit_two_pow];rw[Bool.eq_iff_iff];simp only[Bool.and_eq_true,decide_eq_true_eq];omega
theorem Hw {r:Int} (hr:rel6 r):iShl .i64 1 r=((2 ^ r.toNat:Nat):Int):=by
 have h:=qgD (n:=r.toNat) (by have:=Vv hr;omega);rw[← qed hr]at h;exact h
theorem qdN {v r:Int} (hv:wf64 v) (hr:rel6 r) {i:Nat} (hi:i<64):bitS (iOr .i64 v (iShl .i64 1 r)) i=(bitS v i || decide (i=r.toNat)):=by
 rw[qbC (qgN _ _) hi,qbC hv hi,V_or,BitVec.getLsbD_or,Hw hr,qgs (by have:=Vv hr;omega)]
def ClosedN (l:List rf3Rule) (D:Nat→Prop):Prop:=∀ r,r∈l→D r.qd.qb.toNat→∀ b,b∈r.qe→D b.qc.qb.toNat
structure NeedN (l:List rf3Rule) (rel:Nat) (D:Nat→Prop):Prop where
 at':D rel
 closed:ClosedN l D
 least:∀ Q:Nat→Prop,Q rel→ClosedN l Q→∀ i,D i→Q i
 lt:∀ i,D i→i<6
theorem NeedN.same {l:List rf3Rule} {rel:Nat} {D E:Nat→Prop} (h:NeedN l rel D) (k:NeedN l rel E) (i:Nat):D i↔E i:=⟨h.least E k.at' k.closed i,k.least D h.at' h.closed i⟩
def bitsP (v:Int):Nat→Prop:=fun i=>i<6∧bitS v i=true
theorem qbq (K:Int→Bool→Option (List ruRule×Int)):∀ (body:List rf3Lit) (k:Nat) (v:Int) (c:Bool),wf64 v→(∀ b,b∈body→rel6 b.qc.qb) →
  ∃ v' c',Ja K (body.map toL) k v c=K v' c'∧wf64 v'∧(∀ i,bitsP v' i↔bitsP v i∨∃ b,b∈body∧i=b.qc.qb.toNat)∧(c'=true↔c=true∨∃ b,b∈body∧¬ bitsP v b.qc.qb.toNat)
 | [],k,v,c,hv,_=>⟨v,c,by rw[List.map_nil,Ja],hv,fun i=>by simp,by simp⟩
 | b::body,k,v,c,hv,hb=>by
  have h6:=hb b (List.mem_cons_self ..);have hlt:=Vv h6
  have hb':=fun x (hx:x∈body)=>hb x (List.mem_cons_of_mem _ hx)
  have e:(toL b).qc.qb=b.qc.qb:=rfl;rw[List.map_cons,Ja,e,Vj (decide_eq_true h6.1),test0 h6];unfold Xg
  cases hq:bitS v b.qc.qb.toNat with
  | true =>
   rw[Bool.not_true,cond_false];obtain⟨v',c',a1,a2,a3,a4⟩:=qbq K body (k+1) v c hv hb';refine⟨v',c',a1,a2,fun i=>?_,?_⟩
   ·rw[a3]
    constructor
    ·rintro (h | ⟨x,hx,he⟩)
     ·exact .inl h
     ·exact .inr ⟨x,List.mem_cons_of_mem _ hx,he⟩
    ·rintro (h | ⟨x,hx,he⟩)
     ·exact .inl h
     ·rcases List.mem_cons.1 hx with rfl | hx
      ·exact .inl ⟨by omega,he ▸ hq⟩
      ·exact .inr ⟨x,hx,he⟩
   ·rw[a4]
    constructor
    ·rintro (h | ⟨x,hx,he⟩)
     ·exact .inl h
     ·exact .inr ⟨x,List.mem_cons_of_mem _ hx,he⟩
    ·rintro (h | ⟨x,hx,he⟩)
     ·exact .inl h
     ·rcases List.mem_cons.1 hx with rfl | hx
      ·exact absurd ⟨hlt,hq⟩ he
      ·exact .inr ⟨x,hx,he⟩
  | false =>
   rw[Bool.not_false,cond_true,Vj (decide_eq_true h6.1)]
   have hor:∀ i,bitsP (iOr .i64 v (iShl .i64 1 b.qc.qb)) i↔bitsP v i∨i=b.qc.qb.toNat:=fun i=>by
    unfold bitsP
    constructor
    ·rintro⟨h1,h2⟩
     rw[qdN hv h6 (by omega),Bool.or_eq_true,decide_eq_true_eq]at h2;exact h2.imp (fun h=>⟨h1,h⟩) id
    ·rintro (⟨h1,h2⟩ | h)
     ·exact⟨h1,by rw[qdN hv h6 (by omega),h2,Bool.true_or]⟩
     ·exact⟨by omega,by rw[qdN hv h6 (by omega),decide_eq_true h,Bool.or_true]⟩
   obtain⟨v',c',a1,a2,a3,a4⟩:=qbq K body (k+1) _ true (qgN _ _) hb';refine⟨v',c',a1,a2,fun i=>?_,?_⟩
   ·rw[a3,hor]
    constructor
    ·rintro ((h | h) | ⟨x,hx,he⟩)
     ·exact .inl h
     ·exact .inr ⟨b,List.mem_cons_self ..,h⟩
     ·exact .inr ⟨x,List.mem_cons_of_mem _ hx,he⟩
    ·rintro (h | ⟨x,hx,he⟩)
     ·exact .inl (.inl h)
     ·rcases List.mem_cons.1 hx with rfl | hx
      ·exact .inl (.inr he)
      ·exact .inr ⟨x,hx,he⟩
   ·rw[a4];exact⟨fun _=>.inr ⟨b,List.mem_cons_self ..,fun h=>by rw[h.2]at hq;cases hq⟩,fun _=>.inl rfl⟩
theorem qbr (N1:Int→Bool→Option (List ruRule×Int)):∀ (l:List rf3Rule) (k:Nat) (v:Int) (c:Bool),wf64 v→relsR l →
  ∃ v' c',qW N1 (l.map toR) k v c=N1 v' c'∧wf64 v'∧(∀ i,bitsP v i→bitsP v' i)∧(∀ Q:Nat→Prop,(∀ i,bitsP v i→Q i)→ClosedN l Q→∀ i,bitsP v' i→Q i)∧(c'=true→c=true∨∃ i,bitsP v' i∧¬ bitsP v i)∧(c'=false→(∀ i,bitsP v' i→bitsP v i)∧ClosedN l (bitsP v))∧(c=true→c'=true)
 | [],k,v,c,hv,_=>⟨v,c,by rw[List.map_nil,qW],hv,fun _ h=>h,fun Q h _=>h,fun h=>.inl h,fun _=>⟨fun _ h=>h,fun r hr=>by simp at hr⟩,id⟩
 | r::l,k,v,c,hv,hr=>by
  obtain⟨h6,h3,hb⟩:=hr r (List.mem_cons_self ..)
  have hr':relsR l:=fun x hx=>hr x (List.mem_cons_of_mem _ hx)
  have e:(toR r).qd.qb=r.qd.qb:=rfl;have e2:(toR r).qe=r.qe.map toL:=rfl;rw[List.map_cons,qW,e,Vj (decide_eq_true h6.1),test0 h6,e2];unfold Jj
  cases hq:bitS v r.qd.qb.toNat with
  | false =>
   rw[Bool.not_false,cond_true];obtain⟨v',c',a1,a2,a3,a4,a5,a6,a7⟩:=qbr N1 l (k+1) v c hv hr';refine⟨v',c',a1,a2,a3,fun Q q1 q2=>a4 Q q1 fun x hx=>q2 x (List.mem_cons_of_mem _ hx),a5,fun hc=>⟨(a6 hc).1,fun x hx hh=>?_⟩,a7⟩
   rcases List.mem_cons.1 hx with rfl | hx
   ·rw[hh.2]at hq;cases hq
   ·exact (a6 hc).2 x hx hh
  | true =>
   rw[Bool.not_true,cond_false,Vj (jh (by rw[List.length_map];omega))];obtain⟨v1,c1,b1,b2,b3,b4⟩:=qbq (fun v37 v38=>qW N1 (l.map toR) (k+1) v37 v38) r.qe 0 v c hv hb;obtain⟨v',c',a1,a2,a3,a4,a5,a6,a7⟩:=qbr N1 l (k+1) v1 c1 b2 hr'
   have hsub:∀ i,bitsP v i→bitsP v1 i:=fun i h=>(b3 i).2 (.inl h)
   refine⟨v',c',b1.trans a1,a2,fun i h=>a3 i (hsub i h),fun Q q1 q2=>a4 Q (fun i hi=>?_) fun x hx=>q2 x (List.mem_cons_of_mem _ hx),fun hc=>?_,fun hc=>?_,fun hc=>a7 (b4.2 (.inl hc))⟩
   ·rcases (b3 i).1 hi with h | ⟨b,hbm,rfl⟩
    ·exact q1 i h
    ·exact q2 r (List.mem_cons_self ..) (q1 _ ⟨Vv h6,hq⟩) b hbm
   ·rcases a5 hc with h | ⟨i,h1,h2⟩
    ·rcases b4.1 h with h | ⟨b,hbm,hn⟩
     ·exact .inl h
     ·exact .inr ⟨_,a3 _ ((b3 _).2 (.inr ⟨b,hbm,rfl⟩)),hn⟩
    ·exact .inr ⟨i,h1,fun h=>h2 (hsub i h)⟩
   ·obtain⟨g1,g2⟩:=a6 hc
    have hc1:c1=false:=by
     cases hcc:c1 with
     | false=>rfl
     | true=>rw[a7 hcc]at hc;cases hc
    have hno:∀ b,b∈r.qe→bitsP v b.qc.qb.toNat:=fun b hbm=>Classical.byContradiction fun hn=>by
     have:=b4.2 (.inr ⟨b,hbm,hn⟩);rw[hc1]at this;cases this
    have hback:∀ i,bitsP v1 i→bitsP v i:=fun i hi=>by
     rcases (b3 i).1 hi with h | ⟨b,hbm,rfl⟩
     ·exact h
     ·exact hno b hbm
    refine⟨fun i hi=>hback i (g1 i hi),fun x hx hh b hbm=>?_⟩
    rcases List.mem_cons.1 hx with rfl | hx
    ·exact hno b hbm
    ·exact hback _ (g2 x hx (hsub _ hh) b hbm)
def cnt6 (v:Int):Nat:=(List.range 6).countP fun i=>bitS v i
theorem qgL {v v':Int} (h:∀ i,bitsP v i→bitsP v' i) {i:Nat} (h1:bitsP v' i) (h2:¬ bitsP v i):cnt6 v<cnt6 v':=by
 refine ZQ (x:=i) (fun y hy hq=>(h y ⟨List.mem_range.1 hy,hq⟩).2) (List.mem_range.2 h1.1) h1.2 ?_
 cases hb:bitS v i with
 | false=>rfl
 | true=>exact absurd ⟨h1.1,hb⟩ h2
theorem qer (v:Int):cnt6 v≤6:=by
 have:=List.countP_le_length (p:=fun i=>bitS v i) (l:=List.range 6)
 simpa[cnt6] using this
theorem qeh {l:List rf3Rule} (hl:l.length≤100) (hr:relsR l) (K:Int→Option (List ruRule×Int)) {rel:Nat}:∀ (d m:Nat) (v:Int) (c:Bool),wf64 v→(if c=true then 8≤cnt6 v+d else 1≤d)→d≤m→bitsP v rel→(∀ Q:Nat→Prop,Q rel→ClosedN l Q→∀ i,bitsP v i→Q i)→(c=false→ClosedN l (bitsP v)) →
  ∃ v',qS (l.map toR) K m v c=K v'∧wf64 v'∧NeedN l rel (bitsP v')
 | 0,m,v,c,hv,hd,hm,hb,hQ,hc=>by
  cases c with
  | true=>have:=qer v;rw[if_pos rfl]at hd;omega
  | false=>rw[if_neg (by simp)]at hd;omega
 | d+1,0,v,c,hv,hd,hm,hb,hQ,hc=>by omega
 | d+1,m+1,v,c,hv,hd,hm,hb,hQ,hc=>by
  rw[qS]
  cases c with
  | false =>
   rw[cond_false];exact⟨v,rfl,hv,hb,hc rfl,hQ,fun i h=>h.1⟩
  | true =>
   rw[if_pos rfl]at hd;rw[cond_true,Vj (jh (by rw[List.length_map];omega))];obtain⟨v',c',a1,a2,a3,a4,a5,a6,a7⟩:=qbr (qS (l.map toR) K m) l 0 v false hv hr
   obtain⟨v2,b1,b2,b3⟩:=qeh hl hr K d m v' c' a2 (by
    cases hcc:c' with
    | true =>
     rw[if_pos rfl]
     rcases a5 hcc with h | ⟨i,h1,h2⟩
     ·cases h
     ·have:=qgL a3 h1 h2;omega
    | false=>rw[if_neg (by simp)];have:=qer v;omega) (by omega) (a3 _ hb) (fun Q q1 q2=>a4 Q (fun i hi=>hQ Q q1 q2 i hi) q2) (fun hcc=>by
    obtain⟨g1,g2⟩:=a6 hcc
    exact fun r hr hh b hbm=>a3 _ (g2 r hr (g1 _ hh) b hbm))
   exact⟨v2,a1.trans b1,b2,b3⟩
def setN (v:List Bool):Nat→Prop:=fun i=>v.getD i false=true
theorem qdX {v:List Bool} (hv:v.length=6) {i:Nat} (h:setN v i):i<6:=by
 refine Classical.byContradiction fun hn=>?_
 unfold setN at h;rw[List.getD_eq_getElem?_getD,List.getElem?_eq_none (by omega)]at h;cases h
theorem get6b {v:List Bool} (hv:v.length=6) {r:Int} (hr:rel6 r):v[0+Int.toNat r * 1]? = some (v.getD r.toNat false):=by
 have:=Vv hr;rw[Nat.zero_add,Nat.mul_one,List.getD_eq_getElem?_getD,List.getElem?_eq_getElem (by omega)];rfl
theorem dec6b {r:Int} (hr:rel6 r):decide ((0:Int)≤r∧r<((6:Nat):Int)∧0<1)=true:=decide_eq_true ⟨hr.1,by have:=hr.2;omega,by omega⟩
theorem qca (x:rf3Rule) (hx:rel6 x.qd.qb) (K:List Bool→Option (List rf3Rule)):∀ (body:List rf3Lit) (k:Nat) (v:List Bool),v.length=6→(∀ b,b∈body→rel6 b.qc.qb) →
  ∃ v',jE x K body k v=K v'∧v'.length=6∧∀ i,setN v' i↔setN v i∨(setN v x.qd.qb.toNat∧∃ b,b∈body∧i=b.qc.qb.toNat)
 | [],k,v,hv,_=>⟨v,by rw[jE],hv,fun i=>by simp⟩
 | b::body,k,v,hv,hb=>by
  have h6:=hb b (List.mem_cons_self ..);have hlt:=Vv h6
  have hb':=fun x (hx:x∈body)=>hb x (List.mem_cons_of_mem _ hx)
  have e3:decide ((0+Int.toNat b.qc.qb * 1)<v.length)=true:=decide_eq_true (by omega)
  have e4:0+Int.toNat b.qc.qb * 1=b.qc.qb.toNat:=by omega
  have key:∀ u:Bool,(u=true↔setN v b.qc.qb.toNat∨setN v x.qd.qb.toNat)→∃ v',jE x K body (k+1) (v.set b.qc.qb.toNat u)=K v'∧v'.length=6∧∀ i,setN v' i↔setN v i∨(setN v x.qd.qb.toNat∧∃ b',b'∈b::body∧i=b'.qc.qb.toNat):=fun u hu=>by
   obtain⟨v',a1,a2,a3⟩:=qca x hx K body (k+1) (v.set b.qc.qb.toNat u) (by rw[List.length_set];exact hv) hb'
   have hs:∀ i,setN (v.set b.qc.qb.toNat u) i↔setN v i∨(setN v x.qd.qb.toNat∧i=b.qc.qb.toNat):=fun i=>by
    unfold setN;rw[qaA (by omega)]
    by_cases hi:i=b.qc.qb.toNat
    ·rw[if_pos hi,hu,hi];exact⟨fun h=>h.imp id fun h=>⟨h,rfl⟩,fun h=>h.imp id fun h=>h.1⟩
    ·rw[if_neg hi];exact⟨.inl,fun h=>h.elim id fun h=>absurd h.2 hi⟩
   refine⟨v',a1,a2,fun i=>?_⟩;rw[a3,hs,hs]
   constructor
   ·rintro ((h | ⟨h1,h2⟩) | ⟨h1,y,hy,he⟩)
    ·exact .inl h
    ·exact .inr ⟨h1,b,List.mem_cons_self ..,h2⟩
    ·exact .inr ⟨h1.elim id fun h=>h.1,y,List.mem_cons_of_mem _ hy,he⟩
   ·rintro (h | ⟨h1,y,hy,he⟩)
    ·exact .inl (.inl h)
    ·rcases List.mem_cons.1 hy with rfl | hy
     ·exact .inl (.inr ⟨h1,he⟩)
     ·exact .inr ⟨.inl h1,y,hy,he⟩
  rw[jE,Vj (dec6b h6),get6b hv h6];simp only[Option.bind_some];unfold QM
  cases hq:v.getD b.qc.qb.toNat false with
  | true =>
   rw[cond_true,Vj (dec6b h6),Vj e3,e4];exact key true ⟨fun _=>.inl hq,fun _=>rfl⟩
  | false =>
   rw[cond_false,Vj (dec6b hx),get6b hv hx];simp only[Option.bind_some];rw[Vj (dec6b h6),Vj e3,e4];refine key _ ⟨fun h=>.inr h,fun h=>h.elim (fun h=>?_) id⟩;unfold setN at h;rw[hq]at h;cases h
theorem qcb (K:List Bool→Option (List rf3Rule)):∀ (l:List rf3Rule) (k:Nat) (v:List Bool),v.length=6→relsR l →
  ∃ v',qU K l k v=K v'∧v'.length=6∧(∀ i,setN v i→setN v' i)∧(∀ Q:Nat→Prop,(∀ i,setN v i→Q i)→ClosedN l Q→∀ i,setN v' i→Q i)∧((∀ i,setN v' i→setN v i)→ClosedN l (setN v))
 | [],k,v,hv,_=>⟨v,by rw[qU],hv,fun _ h=>h,fun Q h _=>h,fun _ r hr=>by simp at hr⟩
 | r::l,k,v,hv,hr=>by
  obtain⟨h6,h3,hb⟩:=hr r (List.mem_cons_self ..)
  have hr':relsR l:=fun x hx=>hr x (List.mem_cons_of_mem _ hx)
  obtain⟨v1,b1,b2,b3⟩:=qca r h6 (Jm (qU K l (k+1))) r.qe 0 v hv hb;obtain⟨v',a1,a2,a3,a4,a5⟩:=qcb K l (k+1) v1 b2 hr'
  have hsub:∀ i,setN v i→setN v1 i:=fun i h=>(b3 i).2 (.inl h)
  refine⟨v',?_,a2,fun i h=>a3 i (hsub i h),fun Q q1 q2=>a4 Q (fun i hi=>?_) fun x hx=>q2 x (List.mem_cons_of_mem _ hx),fun hs x hx hh b hbm=>?_⟩
  ·rw[qU,Vj (jh (by omega)),b1];exact a1
  ·rcases (b3 i).1 hi with h | ⟨h1,b,hbm,rfl⟩
   ·exact q1 i h
   ·exact q2 r (List.mem_cons_self ..) (q1 _ h1) b hbm
  ·rcases List.mem_cons.1 hx with rfl | hx
   ·exact hs _ (a3 _ ((b3 _).2 (.inr ⟨hh,b,hbm,rfl⟩)))
   ·exact hs _ (a3 _ (a5 (fun i hi=>hsub i (hs i hi)) x hx (hsub _ hh) b hbm))
def cntB6 (v:List Bool):Nat:=(List.range 6).countP fun i=>v.getD i false
theorem qgi {v v':List Bool} (hv':v'.length=6) (h:∀ i,setN v i→setN v' i) {i:Nat} (h1:setN v' i) (h2:¬ setN v i):cntB6 v<cntB6 v':=by
 refine ZQ (x:=i) (fun y hy hq=>h y hq) (List.mem_range.2 (qdX hv' h1)) h1 ?_
 cases hb:v.getD i false with
 | false=>rfl
 | true=>exact absurd hb h2
theorem qgj (v:List Bool):cntB6 v≤6:=by
 have:=List.countP_le_length (p:=fun i=>v.getD i false) (l:=List.range 6)
 simpa[cntB6] using this
theorem qcc {l:List rf3Rule} (hl:l.length≤100) (hr:relsR l) (K:List Bool→Option (List rf3Rule)) {rel:Nat}:∀ (L:List Nat) (k:Nat) (v:List Bool),v.length=6→setN v rel→(∀ Q:Nat→Prop,Q rel→ClosedN l Q→∀ i,setN v i→Q i)→(ClosedN l (setN v)∨7≤cntB6 v+L.length) →
  ∃ v',qw l K L k v=K v'∧v'.length=6∧NeedN l rel (setN v')
 | [],k,v,hv,hb,hQ,hc=>by
  refine⟨v,by rw[qw],hv,hb,?_,hQ,fun i h=>qdX hv h⟩
  rcases hc with h | h
  ·exact h
  ·have:=qgj v;simp at h;omega
 | x::L,k,v,hv,hb,hQ,hc=>by
  obtain⟨v',a1,a2,a3,a4,a5⟩:=qcb (jg (qw l K L (k+1))) l 0 v hv hr
  have hstay:(∀ i,setN v' i→setN v i)→ClosedN l (setN v'):=fun hs r hr hh b hbm=>a3 _ (a5 hs r hr (hs _ hh) b hbm)
  obtain⟨v2,b1,b2,b3⟩:=qcc hl hr K L (k+1) v' a2 (a3 _ hb) (fun Q q1 q2=>a4 Q (fun i hi=>hQ Q q1 q2 i hi) q2) (by
   by_cases hs:∀ i,setN v' i→setN v i
   ·exact .inl (hstay hs)
   ·right
    have:∃ i,setN v' i∧¬ setN v i:=Classical.byContradiction fun hn=>hs fun i hi=>Classical.byContradiction fun h2=>hn ⟨i,hi,h2⟩
    obtain⟨i,h1,h2⟩:=this;have hlt:=qgi a2 a3 h1 h2
    rcases hc with h | h
    ·exact absurd (a4 (setN v) (fun _ h=>h) h i h1) h2
    ·rw[List.length_cons]at h;omega)
  refine⟨v2,?_,b2,b3⟩;rw[qw,Vj (jh (by omega)),a1];exact b1
end Go.AM
