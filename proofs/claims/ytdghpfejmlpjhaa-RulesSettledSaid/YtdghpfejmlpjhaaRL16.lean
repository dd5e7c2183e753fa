/- s -/
import Derived.Test.YtdghpfejmlpjhaaRL15
set_option maxRecDepth 100000
set_option linter.unusedVariables false
set_option linter.unusedSimpArgs false
namespace Go.AM
open Go.Proofs Go.Sort
open Classical
def keyOf (n:Nat):List Int:=(decF n).qh::argsF (decF n)
def codesS (S:List Bool):List Nat:=(List.range' 0 252).filter fun n=>S.getD n false
theorem qgY {f g:rufact} (hf:okU1 f) (hg:okU1 g) (har:f.qh=g.qh→(argsF f).length=(argsF g).length) (h:codeF f<codeF g):cmpL (f.qh::argsF f) (g.qh::argsF g)<0:=by
 have:=hf.r0;have:=hf.r5;have:=hf.a1;have:=hf.a6;have:=hf.b0;have:=hf.b6;have:=hg.r0;have:=hg.r5;have:=hg.a1;have:=hg.a6;have:=hg.b0;have:=hg.b6
 have hle:f.qh≤g.qh:=by
  unfold codeF at h
  split at h <;> split at h <;> omega
 unfold cmpL
 by_cases hr:f.qh=g.qh
 ·have hz:cmpI f.qh g.qh=0:=(Qb _ _).2 hr;rw[if_neg (by simpa using hz)];have hl:=har hr;unfold argsF at hl ⊢;unfold codeF at h
  by_cases h1:f.f_b=0
  ·by_cases h2:g.f_b=0
   ·rw[if_pos h1,if_pos h2]at h ⊢
    have hlt:f.f_a<g.f_a:=by omega
    have:=(Xf _ _).2 hlt;unfold cmpL;rw[if_pos (by omega)];exact this
   ·rw[if_pos h1,if_neg h2]at hl;simp at hl
  ·by_cases h2:g.f_b=0
   ·rw[if_neg h1,if_pos h2]at hl;simp at hl
   ·rw[if_neg h1,if_neg h2]at h ⊢
    have hlt:f.f_a<g.f_a∨f.f_a=g.f_a∧f.f_b<g.f_b:=by omega
    unfold cmpL
    rcases hlt with hlt | ⟨he,hlt⟩
    ·have:=(Xf _ _).2 hlt;rw[if_pos (by omega)];exact this
    ·rw[if_neg (by simpa using (Qb _ _).2 he)];have:=(Xf _ _).2 hlt;unfold cmpL;rw[if_pos (by omega)];exact this
 ·have:=(Xf _ _).2 (show f.qh<g.qh by omega);rw[if_pos (by omega)];exact this
theorem Yy {S:List Bool} (n:Nat):n∈codesS S↔n<252∧S.getD n false=true:=by
 unfold codesS;rw[List.mem_filter,List.mem_range'_1]
 constructor
 ·rintro⟨h1,h2⟩;exact⟨by omega,h2⟩
 ·rintro⟨h1,h2⟩;exact⟨⟨by omega,by omega⟩,h2⟩
theorem qgI {ar:Int→Nat} {S:List Bool} (har:arW ar (setB S)) {m n:Nat} (hm:m<252∧S.getD m false=true) (hn:n<252∧S.getD n false=true) (h:m<n):cmpL (keyOf m) (keyOf n)<0:=by
 have h1:setB S (decF m):=⟨Ua hm.1,by rw[XH hm.1];exact hm.2⟩;have h2:setB S (decF n):=⟨Ua hn.1,by rw[XH hn.1];exact hn.2⟩;exact qgY h1.1 h2.1 (fun e=>by rw[(har _ h1).2,(har _ h2).2,e]) (by rw[XH hm.1,XH hn.1];exact h)
theorem qhQ (f g:rufact):cfF (apiF f) (apiF g)=cmpL (f.qh::argsF f) (g.qh::argsF g):=by
 rw[Xt,Xt];rfl
theorem Dq:∀ (n k:Nat),(List.range' k n).Pairwise (· < ·)
 | 0,k=>by simp
 | n+1,k=>by
  rw[List.range'_succ,List.pairwise_cons];exact⟨fun x hx=>by have:=List.mem_range'_1.1 hx;omega,Dq n (k+1)⟩
theorem qdA {ar:Int→Nat} {out:List (rufact×Bool)} {S:List Bool} (h:StR ar out S):sortF (apis out)=(codesS S).map fun n=>apiF (decF n):=by
 have hp:(apis out).Perm ((codesS S).map fun n=>apiF (decF n)):=by
  have h1:(out.map Prod.fst).Perm ((codesS S).map decF):=by
   refine (List.perm_ext_iff_of_nodup h.nt.n ?_).2 fun g=>?_
   ·rw[List.nodup_iff_pairwise_ne,List.pairwise_map];refine List.Pairwise.imp_of_mem ?_ ((Dq 252 0).filter _);intro a b ha hb hlt e;have h1:=((Yy a).1 ha).1;have h2:=((Yy b).1 hb).1;have:=congrArg codeF e;rw[XH h1,XH h2]at this;omega
   ·rw[h.same,List.mem_map]
    constructor
    ·rintro⟨a,b⟩
     exact⟨codeF g,(Yy _).2 ⟨YN a,b⟩,Nk a⟩
    ·rintro⟨n,hn,rfl⟩
     obtain⟨a,b⟩:=(Yy n).1 hn;exact⟨Ua a,by rw[XH a];exact b⟩
  have h2:=h1.map apiF;rw[List.map_map,List.map_map]at h2;exact h2
 rw[Uq hp];unfold sortF
 have hs:((codesS S).map fun n=>apiF (decF n)).Pairwise fun a b=>(!ltOf cfF b a)=true:=by
  rw[List.pairwise_map];refine List.Pairwise.imp_of_mem ?_ ((Dq 252 0).filter _);intro a b ha hb hlt;have:=qgI h.arB ((Yy a).1 ha) ((Yy b).1 hb) hlt;simp only[Bool.not_eq_true'];rw[ltFf,Ub,qhQ];replace this:cmpL ((decF a).qh::argsF (decF a)) ((decF b).qh::argsF (decF b))<0:=this;omega
 exact List.mergeSort_of_pairwise hs
theorem qbo (a1 a2:List Int):∀ (r s:List Int) (k:Nat),a1.length=k+r.length→(∃ p:List Int,p.length=k∧a2=p++s)→JX a2 (Zc a1 a2) r k=some (decide (cmpL r s<0))
 | [],s,k,h1,⟨p,hp,h2⟩=>by
  rw[JX];unfold Zc
  congr 1
  rw[h2,List.length_append]
  cases s with
  | nil=>rw[decide_eq_false (by simp at h1 ⊢;omega)];rfl
  | cons y s=>rw[decide_eq_true (by simp at h1 ⊢;omega)];rfl
 | x::r,[],k,h1,⟨p,hp,h2⟩=>by
  rw[JX,decide_eq_true (by rw[h2];simp;omega),cond_true];unfold XW;rfl
 | x::r,y::s,k,h1,⟨p,hp,h2⟩=>by
  have hi:idx a2 (k:Int)=some y:=by
   unfold idx;rw[if_pos (by omega),Int.toNat_natCast,h2,List.getElem?_append_right (by omega),hp,Nat.sub_self];rfl
  rw[JX,decide_eq_false (by rw[h2];simp;omega),cond_false,hi];simp only[Option.bind_some];unfold XW;rw[hi];simp only[Option.bind_some];unfold cmpL
  by_cases hgt:x > y
  ·rw[decide_eq_true hgt,cond_true]
   have e:cmpI x y=1:=by unfold cmpI;rw[if_neg (by omega),if_pos (by omega)]
   rw[e];rfl
  ·rw[decide_eq_false hgt,cond_false]
   by_cases hlt:x<y
   ·rw[decide_eq_true hlt,cond_true]
    have e:cmpI x y = -1:=by unfold cmpI;rw[if_pos hlt]
    rw[e];rfl
   ·rw[decide_eq_false hlt,cond_false]
    have e:x=y:=by omega
    subst e;rw[if_neg (by simpa using (Qb x x).2 rfl)];exact qbo a1 a2 r s (k+1) (by rw[List.length_cons]at h1;omega) ⟨p++[x],by simp[hp],by rw[h2];simp⟩
theorem qeq {a b:List Int} (h:a.length≤1000):YD a b=some (decide (cmpL a b<0)):=by
 unfold YD;rw[ZU (qG (by omega))];exact qbo a b a b 0 (by simp) ⟨[],rfl,rfl⟩
theorem qhL {l:List (List Int)} {x:List Int} (hl:l.length≤1000) (hb:∀ y,y∈l→y.length≤1000∧cmpL y x<0) (K:Int→Option (List (List Int))):∀ (d m lo:Nat),lo+d=l.length→d+1≤m→YC l x K m (lo:Int) (l.length:Int)=K (l.length:Int):=by
 intro d
 induction d using Nat.strongRecOn with
 | ind d ih =>
  intro m lo hd hm
  match m,hm with
  | m+1,hm =>
   rw[YC]
   by_cases h0:d=0
   ·rw[decide_eq_false (by omega),cond_false,show lo=l.length by omega]
   ·have e1:IntKind.wrap .i64 (((IntKind.wrap .i64 ((lo:Int)+(l.length:Int)))).tdiv 2)=(((lo+l.length) / 2:Nat):Int):=by
     rw[wrap64 (n:=(lo:Int)+(l.length:Int)) (by omega) (by omega),Int.tdiv_eq_ediv_of_nonneg (by omega),wrap64 (by omega) (by omega)];omega
    have hmid:(lo+l.length) / 2<l.length:=by omega
    have hi:idx l (((lo+l.length) / 2:Nat):Int)=some l[(lo+l.length) / 2]:=by
     unfold idx;rw[if_pos (by omega),Int.toNat_natCast,List.getElem?_eq_getElem hmid]
    have hbb:=hb _ (List.getElem_mem hmid);rw[decide_eq_true (by omega),cond_true,e1,hi];simp only[Option.bind_some];rw[qeq hbb.1];simp only[Option.bind_some];rw[decide_eq_true hbb.2,cond_true]
    have e2:IntKind.wrap .i64 ((((lo+l.length) / 2:Nat):Int)+1)=(((lo+l.length) / 2+1:Nat):Int):=by rw[wrap64 (by omega) (by omega)];omega
    rw[e2];exact ih (l.length - ((lo+l.length) / 2+1)) (by omega) m _ (by omega) (by omega)
theorem qhm {α:Type} (l:List α):sub l 0 (l.length:Int)=some l:=by
 unfold sub;rw[if_pos ⟨by omega,by omega,by omega⟩]
 simp
theorem qgc {α:Type} (l:List α):sub l (l.length:Int) (l.length:Int)=some []:=by
 unfold sub;rw[if_pos ⟨by omega,by omega,by omega⟩]
 simp
theorem qho {fuel:Nat} (hf:300≤fuel) {l:List (List Int)} {x:List Int} (hl:l.length≤252) (hb:∀ y,y∈l→y.length≤1000∧cmpL y x<0):qbH fuel l x=some (l++[x]):=by
 unfold qbH;rw[show (0:Int)=((0:Nat):Int) from rfl,qhL (by omega) hb _ l.length fuel 0 (by omega) (by omega)];unfold Dn Vm;rw[decide_eq_false (by omega),cond_false,cond_false,qhm];simp only[Option.bind_some];rw[ZU (JS (by omega) (by simp;omega)),ZU (JS (by omega) (by simp;omega)),qgc];simp only[Option.bind_some];rw[ZU (JS (by omega) (by simp;omega))]
 simp
theorem qbO (n:Nat):(keyOf n).length≤3:=by
 unfold keyOf argsF
 split <;> simp
theorem qbL {ar:Int→Nat} {fuel:Nat} (hf:300≤fuel) {S:List Bool} (hS:S.length=252) (har:arW ar (setB S)) (K:List (List Int)→Option (List apiFact)):∀ (L:List Nat) (k:Nat) (pre:List Nat),k+L.length=252→pre.length≤k→(∀ n,n∈pre→n<k∧S.getD n false=true) →
  Xp fuel S K L k (pre.map keyOf)=K ((pre++(List.range' k L.length).filter fun n=>S.getD n false).map keyOf)
 | [],k,pre,_,_,_=>by rw[Xp];simp
 | x::L,k,pre,hk,hp,hpre=>by
  rw[List.length_cons]at hk
  have hk2:k<252:=by omega
  have hg:S[Int.toNat (k:Int) * 1]? = some (S.getD k false):=by
   rw[Int.toNat_natCast,Nat.mul_one,List.getD_eq_getElem?_getD,List.getElem?_eq_getElem (by omega)];rfl
  rw[Xp,ZU (decide_eq_true ⟨by omega,by omega⟩),hg];simp only[Option.bind_some];unfold Vk;rw[List.length_cons,List.range'_succ,List.filter_cons]
  cases hs:S.getD k false with
  | false =>
   rw[cond_false,if_neg (by simp)]
   exact qbL hf hS har K L (k+1) pre (by omega) (by omega) fun n hn=>⟨by have:=(hpre n hn).1;omega,(hpre n hn).2⟩
  | true =>
   rw[cond_true,if_pos rfl,qdu hk2,Xt];simp only[Option.bind_some];unfold qeF;have hkl:=qbO k;unfold keyOf at hkl;rw[List.length_cons]at hkl;rw[ZU (JS (by omega) (by simp;omega))];simp only[Option.bind_some,List.singleton_append]
   rw[show (decF k).qh::argsF (decF k)=keyOf k from rfl,qho hf (by rw[List.length_map];omega) (fun y hy=>by
    obtain⟨n,hn,rfl⟩:=List.mem_map.1 hy;obtain⟨a,b⟩:=hpre n hn
    exact⟨by have:=qbO n;omega,qgI har ⟨by omega,b⟩ ⟨hk2,hs⟩ a⟩)]
   simp only[Option.bind_some]
   rw[show pre.map keyOf++[keyOf k]=(pre++[k]).map keyOf by simp,qbL hf hS har K L (k+1) (pre++[k]) (by omega) (by simp;omega) (fun n hn=>by
    rcases List.mem_append.1 hn with hn | hn
    ·exact⟨by have:=(hpre n hn).1;omega,(hpre n hn).2⟩
    ·simp only[List.mem_singleton]at hn;subst hn;exact⟨by omega,hs⟩)]
   simp
theorem qeO:∀ (ns:List Nat) (k:Nat) (acc:List apiFact),acc.length+ns.length≤1000→Yb ZH (ns.map keyOf) k acc=some (acc++ns.map fun n=>apiF (decF n))
 | [],k,acc,_=>by rw[List.map_nil,Yb];simp[ZH]
 | n::ns,k,acc,h=>by
  rw[List.length_cons]at h;rw[List.map_cons,Yb];have h1:idx (keyOf n) 0=some (decF n).qh:=rfl
  have h2:sub (keyOf n) 1 ((keyOf n).length:Int)=some (argsF (decF n)):=by
   unfold sub keyOf;rw[if_pos ⟨by omega,by rw[List.length_cons];omega,by omega⟩];rw[Int.toNat_natCast,List.take_of_length_le (Nat.le_refl _)];rfl
  rw[h1];simp only[Option.bind_some];rw[h2];simp only[Option.bind_some];rw[ZU (JS (by omega) (by simp;omega)),qeO ns (k+1) _ (by simp;omega),List.map_cons,Xt]
  simp
theorem qbi (S:List Bool):(codesS S).length≤252:=by
 have:=List.length_filter_le (fun n=>S.getD n false) (List.range' 0 252);rw[List.length_range']at this;exact this
theorem qfg {ar:Int→Nat} {fuel:Nat} (hf:300≤fuel) {S:List Bool} (hS:S.length=252) (har:arW ar (setB S)):Vl fuel S=some ((codesS S).map fun n=>apiF (decF n)):=by
 have hc:=qbi S;unfold Vl;rw[ZU (by cases S <;> simp_all),ZU (decide_eq_true hS),ZU (qG (by simp)),show ([]:List (List Int))=([]:List Nat).map keyOf from rfl,qbL hf hS har _ _ 0 [] (by simp) (by simp) (by simp)];unfold Hg;rw[show (List.range (Int.toNat 252)).length=252 by simp,List.nil_append];rw[ZU (qG (by rw[List.length_map];exact Nat.le_trans hc (by omega)))];exact qeO (codesS S) 0 [] (by simp;omega)
theorem Dx {ar:Int→Nat} {fuel:Nat} (hf:300≤fuel) {out:List (rufact×Bool)} {S:List Bool} (h:StR ar out S):∃ m:List apiFact,Jp out=some m∧Vl fuel S=some m∧m.length≤252∧(∀ f,f∈m→f.qa.length≤2):=by
 have hc:=qbi S;refine⟨_,?_,qfg hf h.len h.arB,by rw[List.length_map];exact hc,fun f hf=>?_⟩
 ·unfold Jp
  have hsm:=QS h.nt.n fun g hg=>(h.ar g hg).1
  rw[List.length_map]at hsm;rw[ZU (by rw[Bool.and_eq_true,NK h.nt.n,decide_eq_true (by omega)];exact⟨rfl,rfl⟩),qdA h]
 ·obtain⟨n,_,rfl⟩:=List.mem_map.1 hf;rw[Xt];have:=qbO n;unfold keyOf at this;rw[List.length_cons]at this;show (argsF (decF n)).length≤2;omega
theorem qfe {f:apiFact} (h:f.qa.length≤1000):Xk f f=some true:=by
 have key:∀ (r:List Int) (k:Nat),(∃ p:List Int,p.length=k∧f.qa=p++r)→qT f.qa jA r k=some true:=by
  intro r
  induction r with
  | nil=>intro k _;rw[qT];rfl
  | cons x r ih =>
   rintro k ⟨p,hp,h2⟩
   have hi:idx f.qa (k:Int)=some x:=by
    unfold idx;rw[if_pos (by omega),Int.toNat_natCast,h2,List.getElem?_append_right (by omega),hp,Nat.sub_self];rfl
   rw[qT,hi];simp only[Option.bind_some,bne_self_eq_false,cond_false];exact ih (k+1) ⟨p++[x],by simp[hp],by rw[h2];simp⟩
 unfold Xk Qc;rw[beq_self_eq_true,cond_true,bne_self_eq_false,cond_false,ZU (qG (by omega)),key f.qa 0 ⟨[],rfl,rfl⟩];rfl
theorem qco {l:List apiFact} (hl:l.length≤1000) (h:∀ f,f∈l→f.qa.length≤1000):Zv l l=some true:=by
 have key:∀ (r:List apiFact) (k:Nat),(∃ p:List apiFact,p.length=k∧l=p++r)→qE l (fun y0 y1=>Xk y0 y1) qR r k=some true:=by
  intro r
  induction r with
  | nil=>intro k _;rw[qE];rfl
  | cons x r ih =>
   rintro k ⟨p,hp,h2⟩
   have hi:idx l (k:Int)=some x:=by
    unfold idx;rw[if_pos (by omega),Int.toNat_natCast,h2,List.getElem?_append_right (by omega),hp,Nat.sub_self];rfl
   rw[qE,hi];simp only[Option.bind_some];rw[qfe (h x (by rw[h2];simp))];simp only[Option.bind_some,Bool.not_true,cond_false];exact ih (k+1) ⟨p++[x],by simp[hp],by rw[h2];simp⟩
 unfold Zv JO;rw[bne_self_eq_false,cond_false,ZU (qG (by omega)),key l 0 ⟨[],rfl,rfl⟩];rfl
end Go.AM
