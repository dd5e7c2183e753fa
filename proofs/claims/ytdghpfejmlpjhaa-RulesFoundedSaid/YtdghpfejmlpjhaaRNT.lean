/- s -/
import Derived.Test.YtdghpfejmlpjhaaRL15
import Derived.Test.YtdghpfejmlpjhaaAClose
import Derived.Test.YtdghpfejmlpjhaaRAT
import Derived.Test.YtdghpfejmlpjhaaChecked
import Derived.Test.YtdghpfejmlpjhaaRows
import Derived.ProofKit
import Derived.OpenShut
import Derived.Test.YtdghpfejmlpjhaaAWq
import Derived.Test.YtdghpfejmlpjhaaAArr
import Derived.Test.YtdghpfejmlpjhaaASimJ
import Derived.Test.YtdghpfejmlpjhaaRCon3
import Derived.Test.YtdghpfejmlpjhaaRMT
import Derived.Test.YtdghpfejmlpjhaaRL1
set_option maxRecDepth 100000
set_option linter.unusedVariables false
set_option linter.unusedSimpArgs false
namespace Go.AM
open Go.Proofs Go.Sort
open Classical
def keyOf (n:Nat):List Int:=(decF n).ql::argsF (decF n)
def codesS (S:List Bool):List Nat:=(List.range' 0 252).filter fun n=>S.getD n false
theorem qhi {f g:rufact} (hf:okU1 f) (hg:okU1 g) (har:f.ql=g.ql→(argsF f).length=(argsF g).length) (h:codeF f<codeF g):cmpL (f.ql::argsF f) (g.ql::argsF g)<0:=by
 have:=hf.r0;have:=hf.r5;have:=hf.a1;have:=hf.a6;have:=hf.b0;have:=hf.b6;have:=hg.r0;have:=hg.r5;have:=hg.a1;have:=hg.a6;have:=hg.b0;have:=hg.b6
 have hle:f.ql≤g.ql:=by
  unfold codeF at h
  split at h <;> split at h <;> omega
 unfold cmpL
 by_cases hr:f.ql=g.ql
 ·have hz:cmpI f.ql g.ql=0:=(QI _ _).2 hr;rw[if_neg (by simpa using hz)];have hl:=har hr;unfold argsF at hl ⊢;unfold codeF at h
  by_cases h1:f.f_b=0
  ·by_cases h2:g.f_b=0
   ·rw[if_pos h1,if_pos h2]at h ⊢
    have hlt:f.f_a<g.f_a:=by omega
    have:=(XK _ _).2 hlt;unfold cmpL;rw[if_pos (by omega)];exact this
   ·rw[if_pos h1,if_neg h2]at hl;simp at hl
  ·by_cases h2:g.f_b=0
   ·rw[if_neg h1,if_pos h2]at hl;simp at hl
   ·rw[if_neg h1,if_neg h2]at h ⊢
    have hlt:f.f_a<g.f_a∨f.f_a=g.f_a∧f.f_b<g.f_b:=by omega
    unfold cmpL
    rcases hlt with hlt | ⟨he,hlt⟩
    ·have:=(XK _ _).2 hlt;rw[if_pos (by omega)];exact this
    ·rw[if_neg (by simpa using (QI _ _).2 he)];have:=(XK _ _).2 hlt;unfold cmpL;rw[if_pos (by omega)];exact this
 ·have:=(XK _ _).2 (show f.ql<g.ql by omega);rw[if_pos (by omega)];exact this
theorem Zf {S:List Bool} (n:Nat):n∈codesS S↔n<252∧S.getD n false=true:=by
 unfold codesS;rw[List.mem_filter,List.mem_range'_1]
 constructor
 ·rintro⟨h1,h2⟩;exact⟨by omega,h2⟩
 ·rintro⟨h1,h2⟩;exact⟨⟨by omega,by omega⟩,h2⟩
theorem qgS {ar:Int→Nat} {S:List Bool} (har:arW ar (setB S)) {m n:Nat} (hm:m<252∧S.getD m false=true) (hn:n<252∧S.getD n false=true) (h:m<n):cmpL (keyOf m) (keyOf n)<0:=by
 have h1:setB S (decF m):=⟨Uo hm.1,by rw[Yq hm.1];exact hm.2⟩;have h2:setB S (decF n):=⟨Uo hn.1,by rw[Yq hn.1];exact hn.2⟩;exact qhi h1.1 h2.1 (fun e=>by rw[(har _ h1).2,(har _ h2).2,e]) (by rw[Yq hm.1,Yq hn.1];exact h)
theorem qhT (f g:rufact):cfF (apiF f) (apiF g)=cmpL (f.ql::argsF f) (g.ql::argsF g):=by
 rw[Yc,Yc];rfl
theorem DF:∀ (n k:Nat),(List.range' k n).Pairwise (· < ·)
 | 0,k=>by simp
 | n+1,k=>by
  rw[List.range'_succ,List.pairwise_cons];exact⟨fun x hx=>by have:=List.mem_range'_1.1 hx;omega,DF n (k+1)⟩
theorem qdW {ar:Int→Nat} {out:List (rufact×Bool)} {S:List Bool} (h:StR ar out S):sortF (apis out)=(codesS S).map fun n=>apiF (decF n):=by
 have hp:(apis out).Perm ((codesS S).map fun n=>apiF (decF n)):=by
  have h1:(out.map Prod.fst).Perm ((codesS S).map decF):=by
   refine (List.perm_ext_iff_of_nodup h.nt.n ?_).2 fun g=>?_
   ·rw[List.nodup_iff_pairwise_ne,List.pairwise_map];refine List.Pairwise.imp_of_mem ?_ ((DF 252 0).filter _);intro a b ha hb hlt e;have h1:=((Zf a).1 ha).1;have h2:=((Zf b).1 hb).1;have:=congrArg codeF e;rw[Yq h1,Yq h2]at this;omega
   ·rw[h.same,List.mem_map]
    constructor
    ·rintro⟨a,b⟩
     exact⟨codeF g,(Zf _).2 ⟨Zt a,b⟩,NG a⟩
    ·rintro⟨n,hn,rfl⟩
     obtain⟨a,b⟩:=(Zf n).1 hn;exact⟨Uo a,by rw[Yq a];exact b⟩
  have h2:=h1.map apiF;rw[List.map_map,List.map_map]at h2;exact h2
 rw[Dt hp];unfold sortF
 have hs:((codesS S).map fun n=>apiF (decF n)).Pairwise fun a b=>(!ltOf cfF b a)=true:=by
  rw[List.pairwise_map];refine List.Pairwise.imp_of_mem ?_ ((DF 252 0).filter _);intro a b ha hb hlt;have:=qgS h.arB ((Zf a).1 ha) ((Zf b).1 hb) hlt;simp only[Bool.not_eq_true'];rw[ltFf,Uq,qhT];replace this:cmpL ((decF a).ql::argsF (decF a)) ((decF b).ql::argsF (decF b))<0:=this;omega
 exact List.mergeSort_of_pairwise hs
theorem qbH (a1 a2:List Int):∀ (r s:List Int) (k:Nat),a1.length=k+r.length→(∃ p:List Int,p.length=k∧a2=p++s)→jx a2 (Je a1 a2) r k=some (decide (cmpL r s<0))
 | [],s,k,h1,⟨p,hp,h2⟩=>by
  rw[jx];unfold Je
  congr 1
  rw[h2,List.length_append]
  cases s with
  | nil=>rw[decide_eq_false (by simp at h1 ⊢;omega)];rfl
  | cons y s=>rw[decide_eq_true (by simp at h1 ⊢;omega)];rfl
 | x::r,[],k,h1,⟨p,hp,h2⟩=>by
  rw[jx,decide_eq_true (by rw[h2];simp;omega),cond_true];unfold QE;rfl
 | x::r,y::s,k,h1,⟨p,hp,h2⟩=>by
  have hi:idx a2 (k:Int)=some y:=by
   unfold idx;rw[if_pos (by omega),Int.toNat_natCast,h2,List.getElem?_append_right (by omega),hp,Nat.sub_self];rfl
  rw[jx,decide_eq_false (by rw[h2];simp;omega),cond_false,hi];simp only[Option.bind_some];unfold QE;rw[hi];simp only[Option.bind_some];unfold cmpL
  by_cases hgt:x > y
  ·rw[decide_eq_true hgt,cond_true]
   have e:cmpI x y=1:=by unfold cmpI;rw[if_neg (by omega),if_pos (by omega)]
   rw[e];rfl
  ·rw[decide_eq_false hgt,cond_false]
   by_cases hlt:x<y
   ·rw[decide_eq_true hlt,cond_true]
    have e:cmpI x y = -1:=by unfold cmpI;rw[if_pos hlt]
    rw[e];rfl
   ·rw[decide_eq_false hlt,cond_false]
    have e:x=y:=by omega
    subst e;rw[if_neg (by simpa using (QI x x).2 rfl)];exact qbH a1 a2 r s (k+1) (by rw[List.length_cons]at h1;omega) ⟨p++[x],by simp[hp],by rw[h2];simp⟩
theorem qeM {a b:List Int} (h:a.length≤1000):XO a b=some (decide (cmpL a b<0)):=by
 unfold XO;rw[Vp (jB (by omega))];exact qbH a b a b 0 (by simp) ⟨[],rfl,rfl⟩
theorem qhQ {l:List (List Int)} {x:List Int} (hl:l.length≤1000) (hb:∀ y,y∈l→y.length≤1000∧cmpL y x<0) (K:Int→Option (List (List Int))):∀ (d m lo:Nat),lo+d=l.length→d+1≤m→QD l x K m (lo:Int) (l.length:Int)=K (l.length:Int):=by
 intro d
 induction d using Nat.strongRecOn with
 | ind d ih =>
  intro m lo hd hm
  match m,hm with
  | m+1,hm =>
   rw[QD]
   by_cases h0:d=0
   ·rw[decide_eq_false (by omega),cond_false,show lo=l.length by omega]
   ·have e1:IntKind.wrap .i64 (((IntKind.wrap .i64 ((lo:Int)+(l.length:Int)))).tdiv 2)=(((lo+l.length) / 2:Nat):Int):=by
     rw[wrap64 (n:=(lo:Int)+(l.length:Int)) (by omega) (by omega),Int.tdiv_eq_ediv_of_nonneg (by omega),wrap64 (by omega) (by omega)];omega
    have hmid:(lo+l.length) / 2<l.length:=by omega
    have hi:idx l (((lo+l.length) / 2:Nat):Int)=some l[(lo+l.length) / 2]:=by
     unfold idx;rw[if_pos (by omega),Int.toNat_natCast,List.getElem?_eq_getElem hmid]
    have hbb:=hb _ (List.getElem_mem hmid);rw[decide_eq_true (by omega),cond_true,e1,hi];simp only[Option.bind_some];rw[qeM hbb.1];simp only[Option.bind_some];rw[decide_eq_true hbb.2,cond_true]
    have e2:IntKind.wrap .i64 ((((lo+l.length) / 2:Nat):Int)+1)=(((lo+l.length) / 2+1:Nat):Int):=by rw[wrap64 (by omega) (by omega)];omega
    rw[e2];exact ih (l.length - ((lo+l.length) / 2+1)) (by omega) m _ (by omega) (by omega)
theorem qhw {α:Type} (l:List α):sub l 0 (l.length:Int)=some l:=by
 unfold sub;rw[if_pos ⟨by omega,by omega,by omega⟩]
 simp
theorem qgv {α:Type} (l:List α):sub l (l.length:Int) (l.length:Int)=some []:=by
 unfold sub;rw[if_pos ⟨by omega,by omega,by omega⟩]
 simp
theorem qhy {fuel:Nat} (hf:300≤fuel) {l:List (List Int)} {x:List Int} (hl:l.length≤252) (hb:∀ y,y∈l→y.length≤1000∧cmpL y x<0):Nl fuel l x=some (l++[x]):=by
 unfold Nl;rw[show (0:Int)=((0:Nat):Int) from rfl,qhQ (by omega) hb _ l.length fuel 0 (by omega) (by omega)];unfold Xl XY;rw[decide_eq_false (by omega),cond_false,cond_false,qhw];simp only[Option.bind_some];rw[Vp (JY (by omega) (by simp;omega)),Vp (JY (by omega) (by simp;omega)),qgv];simp only[Option.bind_some];rw[Vp (JY (by omega) (by simp;omega))]
 simp
theorem qcm (n:Nat):(keyOf n).length≤3:=by
 unfold keyOf argsF
 split <;> simp
theorem qcj {ar:Int→Nat} {fuel:Nat} (hf:300≤fuel) {S:List Bool} (hS:S.length=252) (har:arW ar (setB S)) (K:List (List Int)→Option (List apiFact)):∀ (L:List Nat) (k:Nat) (pre:List Nat),k+L.length=252→pre.length≤k→(∀ n,n∈pre→n<k∧S.getD n false=true) →
  Jm fuel S K L k (pre.map keyOf)=K ((pre++(List.range' k L.length).filter fun n=>S.getD n false).map keyOf)
 | [],k,pre,_,_,_=>by rw[Jm];simp
 | x::L,k,pre,hk,hp,hpre=>by
  rw[List.length_cons]at hk
  have hk2:k<252:=by omega
  have hg:S[Int.toNat (k:Int) * 1]? = some (S.getD k false):=by
   rw[Int.toNat_natCast,Nat.mul_one,List.getD_eq_getElem?_getD,List.getElem?_eq_getElem (by omega)];rfl
  rw[Jm,Vp (decide_eq_true ⟨by omega,by omega⟩),hg];simp only[Option.bind_some];unfold XW;rw[List.length_cons,List.range'_succ,List.filter_cons]
  cases hs:S.getD k false with
  | false =>
   rw[cond_false,if_neg (by simp)]
   exact qcj hf hS har K L (k+1) pre (by omega) (by omega) fun n hn=>⟨by have:=(hpre n hn).1;omega,(hpre n hn).2⟩
  | true =>
   rw[cond_true,if_pos rfl,qdR hk2,Yc];simp only[Option.bind_some];unfold Dj;have hkl:=qcm k;unfold keyOf at hkl;rw[List.length_cons]at hkl;rw[Vp (JY (by omega) (by simp;omega))];simp only[Option.bind_some,List.singleton_append]
   rw[show (decF k).ql::argsF (decF k)=keyOf k from rfl,qhy hf (by rw[List.length_map];omega) (fun y hy=>by
    obtain⟨n,hn,rfl⟩:=List.mem_map.1 hy;obtain⟨a,b⟩:=hpre n hn
    exact⟨by have:=qcm n;omega,qgS har ⟨by omega,b⟩ ⟨hk2,hs⟩ a⟩)]
   simp only[Option.bind_some]
   rw[show pre.map keyOf++[keyOf k]=(pre++[k]).map keyOf by simp,qcj hf hS har K L (k+1) (pre++[k]) (by omega) (by simp;omega) (fun n hn=>by
    rcases List.mem_append.1 hn with hn | hn
    ·exact⟨by have:=(hpre n hn).1;omega,(hpre n hn).2⟩
    ·simp only[List.mem_singleton]at hn;subst hn;exact⟨by omega,hs⟩)]
   simp
theorem qfk:∀ (ns:List Nat) (k:Nat) (acc:List apiFact),acc.length+ns.length≤1000→Qg Qa (ns.map keyOf) k acc=some (acc++ns.map fun n=>apiF (decF n))
 | [],k,acc,_=>by rw[List.map_nil,Qg];simp[Qa]
 | n::ns,k,acc,h=>by
  rw[List.length_cons]at h;rw[List.map_cons,Qg];have h1:idx (keyOf n) 0=some (decF n).ql:=rfl
  have h2:sub (keyOf n) 1 ((keyOf n).length:Int)=some (argsF (decF n)):=by
   unfold sub keyOf;rw[if_pos ⟨by omega,by rw[List.length_cons];omega,by omega⟩];rw[Int.toNat_natCast,List.take_of_length_le (Nat.le_refl _)];rfl
  rw[h1];simp only[Option.bind_some];rw[h2];simp only[Option.bind_some];rw[Vp (JY (by omega) (by simp;omega)),qfk ns (k+1) _ (by simp;omega),List.map_cons,Yc]
  simp
theorem qbB (S:List Bool):(codesS S).length≤252:=by
 have:=List.length_filter_le (fun n=>S.getD n false) (List.range' 0 252);rw[List.length_range']at this;exact this
theorem qfD {ar:Int→Nat} {fuel:Nat} (hf:300≤fuel) {S:List Bool} (hS:S.length=252) (har:arW ar (setB S)):Yh fuel S=some ((codesS S).map fun n=>apiF (decF n)):=by
 have hc:=qbB S;unfold Yh;rw[Vp (by cases S <;> simp_all),Vp (decide_eq_true hS),Vp (jB (by simp)),show ([]:List (List Int))=([]:List Nat).map keyOf from rfl,qcj hf hS har _ _ 0 [] (by simp) (by simp) (by simp)];unfold Qh;rw[show (List.range (Int.toNat 252)).length=252 by simp,List.nil_append];rw[Vp (jB (by rw[List.length_map];exact Nat.le_trans hc (by omega)))];exact qfk (codesS S) 0 [] (by simp;omega)
theorem DO {ar:Int→Nat} {fuel:Nat} (hf:300≤fuel) {out:List (rufact×Bool)} {S:List Bool} (h:StR ar out S):∃ m:List apiFact,JQ out=some m∧Yh fuel S=some m∧m.length≤252∧(∀ f,f∈m→f.qa.length≤2):=by
 have hc:=qbB S;refine⟨_,?_,qfD hf h.len h.arB,by rw[List.length_map];exact hc,fun f hf=>?_⟩
 ·unfold JQ
  have hsm:=Yd h.nt.n fun g hg=>(h.ar g hg).1
  rw[List.length_map]at hsm;rw[Vp (by rw[Bool.and_eq_true,He h.nt.n,decide_eq_true (by omega)];exact⟨rfl,rfl⟩),qdW h]
 ·obtain⟨n,_,rfl⟩:=List.mem_map.1 hf;rw[Yc];have:=qcm n;unfold keyOf at this;rw[List.length_cons]at this;show (argsF (decF n)).length≤2;omega
theorem qfB {f:apiFact} (h:f.qa.length≤1000):XR f f=some true:=by
 have key:∀ (r:List Int) (k:Nat),(∃ p:List Int,p.length=k∧f.qa=p++r)→jQ f.qa JA r k=some true:=by
  intro r
  induction r with
  | nil=>intro k _;rw[jQ];rfl
  | cons x r ih =>
   rintro k ⟨p,hp,h2⟩
   have hi:idx f.qa (k:Int)=some x:=by
    unfold idx;rw[if_pos (by omega),Int.toNat_natCast,h2,List.getElem?_append_right (by omega),hp,Nat.sub_self];rfl
   rw[jQ,hi];simp only[Option.bind_some,bne_self_eq_false,cond_false];exact ih (k+1) ⟨p++[x],by simp[hp],by rw[h2];simp⟩
 unfold XR YR;rw[beq_self_eq_true,cond_true,bne_self_eq_false,cond_false,Vp (jB (by omega)),key f.qa 0 ⟨[],rfl,rfl⟩];rfl
theorem Dw {l:List apiFact} (hl:l.length≤1000) (h:∀ f,f∈l→f.qa.length≤1000):Zo l l=some true:=by
 have key:∀ (r:List apiFact) (k:Nat),(∃ p:List apiFact,p.length=k∧l=p++r)→qQ l (fun y0 y1=>XR y0 y1) je r k=some true:=by
  intro r
  induction r with
  | nil=>intro k _;rw[qQ];rfl
  | cons x r ih =>
   rintro k ⟨p,hp,h2⟩
   have hi:idx l (k:Int)=some x:=by
    unfold idx;rw[if_pos (by omega),Int.toNat_natCast,h2,List.getElem?_append_right (by omega),hp,Nat.sub_self];rfl
   rw[qQ,hi];simp only[Option.bind_some];rw[qfB (h x (by rw[h2];simp))];simp only[Option.bind_some,Bool.not_true,cond_false];exact ih (k+1) ⟨p++[x],by simp[hp],by rw[h2];simp⟩
 unfold Zo Qv;rw[bne_self_eq_false,cond_false,Vp (jB (by omega)),key l 0 ⟨[],rfl,rfl⟩];rfl
end Go.AM
namespace Go.AM
open Go.Proofs Go.Sort
open Classical
abbrev awR:List ruRule:=[(ruRule.mk (qm.mk 1 [0]) [(ruLit.mk false (qm.mk 0 [0]))])]
abbrev awF:List apiFact:=[(apiFact.mk 0 [3])]
theorem qdG (n:Nat):XA (n+30) awR awF=some true:=by rfl
theorem qdH (n:Nat):Nj (n+30) awR awF=some ([(⟨0,3,0⟩,true),(⟨1,3,0⟩,true)],true):=by rfl
theorem qeN:sortF (apis [((⟨0,3,0⟩:rufact),true),(⟨1,3,0⟩,true)])=[⟨0,[3]⟩,⟨1,[3]⟩]:=by
 show sortF [⟨0,[3]⟩,⟨1,[3]⟩]=_;unfold sortF;refine List.mergeSort_of_pairwise ?_;simp only[List.pairwise_cons,List.mem_cons,List.not_mem_nil,or_false,forall_eq,false_implies,implies_true,List.Pairwise.nil,and_true,Bool.not_eq_true'];rw[ltFf]
 decide
theorem qeO:JQ [((⟨0,3,0⟩:rufact),true),(⟨1,3,0⟩,true)]=some [⟨0,[3]⟩,⟨1,[3]⟩]:=by
 unfold JQ;rw[Vp (by rfl),qeN]
theorem qgm (n:Nat):Zb (n+30)=some true:=by
 unfold Zb Nk;rw[qdG];simp only[Option.bind_some,Bool.not_true,cond_false];rw[qdH];simp only[Option.bind_some,Bool.not_true,cond_false];rw[qeO];simp only[Option.bind_some];rw[show ((0:Int) == 0)=true from rfl,cond_true,Dw (by simp) (by simp)];rfl
end Go.AM
namespace Go.AM
open Go.Proofs Go.Proofs.Ytdghpfejmlpjhaa Go.ChangeShapes Go.WideShapes Go.ChangeAt Go.RowKit
abbrev wA (l:List Int):Prop:=l.length≤maxLen∧∀ x,x∈l→wfI .i64 x=true
abbrev wAt (a:rf2Atom):Prop:=wfI .i64 a.qb=true∧wA a.qa
abbrev wFa (f:apiFact):Prop:=wfI .i64 f.qb=true∧wA f.qa
abbrev wRu (r:rf3Rule):Prop:=wAt r.qf∧r.qe.length≤maxLen∧∀ b,b∈r.qe→wAt b.qc
theorem DE:Reads Try.prog 3 (AV.int .i64) (fun n=>wfI .i64 n=true):=qfH (P:=Try.prog) (t:=3) (k:=.i64) (by kernel_rfl)
theorem qaV:Reads Try.prog 39 (encL 3 1 (AV.int .i64)) wA :=
 ZA (by kernel_rfl) (by kernel_rfl) (by decide) DE (fun _=>rfl) (fun _=>rfl)
theorem qfK:Reads Try.prog 41 qA wFa :=
 YS (P := Try.prog) (size := 2) (fs := #[Field.mk "Rel" 3 0 false "" "" 0, Field.mk "Args" 39 1 false "" "" 8]) (fun b : Int × List Int × Unit => (⟨b.1, b.2.1⟩ : apiFact)) (by kernel_rfl) (by kernel_rfl)
  (QA (f:=AV.int .i64) (ok:=fun n=>wfI .i64 n=true) (n:=1) (off':=1) rfl (by kernel_rfl) rfl DE (QA (f:=encL 3 1 (AV.int .i64)) (ok:=wA) (n:=1) (off':=2) rfl (by kernel_rfl) rfl qaV (ZC rfl)))
  (fun b=>rfl) (fun b h=>⟨h.1,h.2.1⟩)
theorem qaW:Reads Try.prog 91 Hn wAt :=
 YS (P := Try.prog) (size := 2) (fs := #[Field.mk "Rel" 3 0 false "" "" 0, Field.mk "Args" 39 1 false "" "" 8]) (fun b : Int × List Int × Unit => (⟨b.1, b.2.1⟩ : rf2Atom)) (by kernel_rfl) (by kernel_rfl)
  (QA (f:=AV.int .i64) (ok:=fun n=>wfI .i64 n=true) (n:=1) (off':=1) rfl (by kernel_rfl) rfl DE (QA (f:=encL 3 1 (AV.int .i64)) (ok:=wA) (n:=1) (off':=2) rfl (by kernel_rfl) rfl qaV (ZC rfl)))
  (fun b=>rfl) (fun b h=>⟨h.1,h.2.1⟩)
theorem qgH:Reads Try.prog 96 JT (fun b=>wAt b.qc) :=
 YS (P := Try.prog) (size := 3) (fs := #[Field.mk "Not" 4 0 false "" "" 0, Field.mk "Atom" 91 1 false "" "" 8]) (fun b : Bool × rf2Atom × Unit => (⟨b.1, b.2.1⟩ : rf3Lit)) (by kernel_rfl) (by kernel_rfl)
  (QA (f:=AV.bool) (ok:=fun _=>True) (n:=1) (off':=1) rfl (by kernel_rfl) rfl (qeh (by kernel_rfl)) (QA (f:=Hn) (ok:=wAt) (n:=2) (off':=3) rfl (by kernel_rfl) rfl qaW (ZC rfl)))
  (fun b=>rfl) (fun b h=>h.2.1)
theorem qfJ:Reads Try.prog 92 (encL 96 3 JT) (fun l=>l.length≤maxLen∧∀ b,b∈l→wAt b.qc) :=
 ZA (by kernel_rfl) (by kernel_rfl) (by decide) qgH (fun _=>rfl) (fun _=>rfl)
theorem qfI:Reads Try.prog 94 Qp wRu :=
 YS (P := Try.prog) (size := 3) (fs := #[Field.mk "Head" 91 0 false "" "" 0, Field.mk "Body" 92 2 false "" "" 32]) (fun b : rf2Atom × List rf3Lit × Unit => (⟨b.1, b.2.1⟩ : rf3Rule)) (by kernel_rfl) (by kernel_rfl)
  (QA (f:=Hn) (ok:=wAt) (n:=2) (off':=2) rfl (by kernel_rfl) rfl qaW (QA (f:=encL 96 3 JT) (ok:=fun l=>l.length≤maxLen∧∀ b,b∈l→wAt b.qc) (n:=1) (off':=3) rfl (by kernel_rfl) rfl qfJ (ZC rfl)))
  (fun b=>rfl) (fun b h=>⟨h.1,h.2.1⟩)
theorem qei:Reads Try.prog 22 (encL 94 3 Qp) (fun l=>l.length≤maxLen∧∀ r,r∈l→wRu r) :=
 ZA (by kernel_rfl) (by kernel_rfl) (by decide) qfI (fun _=>rfl) (fun _=>rfl)
theorem qej:Reads Try.prog 23 (encL 41 2 qA) (fun l=>l.length≤maxLen∧∀ f,f∈l→wFa f) :=
 ZA (by kernel_rfl) (by kernel_rfl) (by decide) qfK (fun _=>rfl) (fun _=>rfl)
theorem Ue {α:Type} {l:List α} (h:l.length≤maxLen):lenOk l=true:=Nat.ble_eq_true_of_le (by unfold maxLen at h;omega)
theorem own:ownKnob Try.prog.godebug=none:=by kernel_rfl
theorem mixed:Try.prog.follows .mixedOrders=true:=by kernel_rfl
theorem laid:laidOutB Try.prog=true:=by kernel_rfl
end Go.AM
namespace Go.AM
open Go.Proofs
theorem Hd {l:List Int} (h:wA l):okArgs l:=⟨Ue h.1,h.2⟩
theorem qeq {l:List rf3Rule} (h:l.length≤maxLen∧∀ r,r∈l→wRu r):okRules l :=
 ⟨Ue h.1,fun r hr=>⟨⟨(h.2 r hr).1.1,Hd (h.2 r hr).1.2⟩,Ue (h.2 r hr).2.1,fun b hb=>⟨((h.2 r hr).2.2 b hb).1,Hd ((h.2 r hr).2.2 b hb).2⟩⟩⟩
theorem qer {l:List apiFact} (h:l.length≤maxLen∧∀ f,f∈l→wFa f):okFacts l :=
 ⟨Ue h.1,fun f hf=>⟨(h.2 f hf).1,Hd (h.2 f hf).2⟩⟩
def bigFuel:Nat:=500
theorem big400:400≤bigFuel:=by decide
end Go.AM
namespace Go.AM
open Go.Proofs
end Go.AM
