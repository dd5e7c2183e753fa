/- s -/
import Derived.Test.YtdghpfejmlpjhaaRL15
import Derived.Test.YtdghpfejmlpjhaaRBase
set_option maxRecDepth 100000
set_option linter.unusedVariables false
set_option linter.unusedSimpArgs false
namespace Go.AM
open Go.Proofs Go.Sort
open Classical
def keyOf (n:Nat):List Int:=(decF n).qm::argsF (decF n)
def codesS (S:List Bool):List Nat:=(List.range' 0 252).filter fun n=>S.getD n false
theorem qhy {f g:rufact} (hf:okU1 f) (hg:okU1 g) (har:f.qm=g.qm→(argsF f).length=(argsF g).length) (h:codeF f<codeF g):cmpL (f.qm::argsF f) (g.qm::argsF g)<0:=by
 have:=hf.r0;have:=hf.r5;have:=hf.a1;have:=hf.a6;have:=hf.b0;have:=hf.b6;have:=hg.r0;have:=hg.r5;have:=hg.a1;have:=hg.a6;have:=hg.b0;have:=hg.b6
 have hle:f.qm≤g.qm:=by
  unfold codeF at h
  split at h <;> split at h <;> omega
 unfold cmpL
 by_cases hr:f.qm=g.qm
 ·have hz:cmpI f.qm g.qm=0:=(QT _ _).2 hr;rw[if_neg (by simpa using hz)];have hl:=har hr;unfold argsF at hl ⊢;unfold codeF at h
  by_cases h1:f.f_b=0
  ·by_cases h2:g.f_b=0
   ·rw[if_pos h1,if_pos h2]at h ⊢
    have hlt:f.f_a<g.f_a:=by omega
    have:=(XY _ _).2 hlt;unfold cmpL;rw[if_pos (by omega)];exact this
   ·rw[if_pos h1,if_neg h2]at hl;simp at hl
  ·by_cases h2:g.f_b=0
   ·rw[if_neg h1,if_pos h2]at hl;simp at hl
   ·rw[if_neg h1,if_neg h2]at h ⊢
    have hlt:f.f_a<g.f_a∨f.f_a=g.f_a∧f.f_b<g.f_b:=by omega
    unfold cmpL
    rcases hlt with hlt | ⟨he,hlt⟩
    ·have:=(XY _ _).2 hlt;rw[if_pos (by omega)];exact this
    ·rw[if_neg (by simpa using (QT _ _).2 he)];have:=(XY _ _).2 hlt;unfold cmpL;rw[if_pos (by omega)];exact this
 ·have:=(XY _ _).2 (show f.qm<g.qm by omega);rw[if_pos (by omega)];exact this
theorem Zm {S:List Bool} (n:Nat):n∈codesS S↔n<252∧S.getD n false=true:=by
 unfold codesS;rw[List.mem_filter,List.mem_range'_1]
 constructor
 ·rintro⟨h1,h2⟩;exact⟨by omega,h2⟩
 ·rintro⟨h1,h2⟩;exact⟨⟨by omega,by omega⟩,h2⟩
theorem qhj {ar:Int→Nat} {S:List Bool} (har:arW ar (setB S)) {m n:Nat} (hm:m<252∧S.getD m false=true) (hn:n<252∧S.getD n false=true) (h:m<n):cmpL (keyOf m) (keyOf n)<0:=by
 have h1:setB S (decF m):=⟨Dp hm.1,by rw[YW hm.1];exact hm.2⟩;have h2:setB S (decF n):=⟨Dp hn.1,by rw[YW hn.1];exact hn.2⟩;exact qhy h1.1 h2.1 (fun e=>by rw[(har _ h1).2,(har _ h2).2,e]) (by rw[YW hm.1,YW hn.1];exact h)
theorem qio (f g:rufact):cfF (apiF f) (apiF g)=cmpL (f.qm::argsF f) (g.qm::argsF g):=by
 rw[YK,YK];rfl
theorem DK:∀ (n k:Nat),(List.range' k n).Pairwise (· < ·)
 | 0,k=>by simp
 | n+1,k=>by
  rw[List.range'_succ,List.pairwise_cons];exact⟨fun x hx=>by have:=List.mem_range'_1.1 hx;omega,DK n (k+1)⟩
theorem qeg {ar:Int→Nat} {out:List (rufact×Bool)} {S:List Bool} (h:StR ar out S):sortF (apis out)=(codesS S).map fun n=>apiF (decF n):=by
 have hp:(apis out).Perm ((codesS S).map fun n=>apiF (decF n)):=by
  have h1:(out.map Prod.fst).Perm ((codesS S).map decF):=by
   refine (List.perm_ext_iff_of_nodup h.nt.n ?_).2 fun g=>?_
   ·rw[List.nodup_iff_pairwise_ne,List.pairwise_map];refine List.Pairwise.imp_of_mem ?_ ((DK 252 0).filter _);intro a b ha hb hlt e;have h1:=((Zm a).1 ha).1;have h2:=((Zm b).1 hb).1;have:=congrArg codeF e;rw[YW h1,YW h2]at this;omega
   ·rw[h.same,List.mem_map]
    constructor
    ·rintro⟨a,b⟩
     exact⟨codeF g,(Zm _).2 ⟨ZB a,b⟩,NM a⟩
    ·rintro⟨n,hn,rfl⟩
     obtain⟨a,b⟩:=(Zm n).1 hn;exact⟨Dp a,by rw[YW a];exact b⟩
  have h2:=h1.map apiF;rw[List.map_map,List.map_map]at h2;exact h2
 rw[Dx hp];unfold sortF
 have hs:((codesS S).map fun n=>apiF (decF n)).Pairwise fun a b=>(!ltOf cfF b a)=true:=by
  rw[List.pairwise_map];refine List.Pairwise.imp_of_mem ?_ ((DK 252 0).filter _);intro a b ha hb hlt;have:=qhj h.arB ((Zm a).1 ha) ((Zm b).1 hb) hlt;simp only[Bool.not_eq_true'];rw[ltFf,UC,qio];replace this:cmpL ((decF a).qm::argsF (decF a)) ((decF b).qm::argsF (decF b))<0:=this;omega
 exact List.mergeSort_of_pairwise hs
theorem qbM (a1 a2:List Int):∀ (r s:List Int) (k:Nat),a1.length=k+r.length→(∃ p:List Int,p.length=k∧a2=p++s)→jE a2 (Jn a1 a2) r k=some (decide (cmpL r s<0))
 | [],s,k,h1,⟨p,hp,h2⟩=>by
  rw[jE];unfold Jn
  congr 1
  rw[h2,List.length_append]
  cases s with
  | nil=>rw[decide_eq_false (by simp at h1 ⊢;omega)];rfl
  | cons y s=>rw[decide_eq_true (by simp at h1 ⊢;omega)];rfl
 | x::r,[],k,h1,⟨p,hp,h2⟩=>by
  rw[jE,decide_eq_true (by rw[h2];simp;omega),cond_true];unfold QP;rfl
 | x::r,y::s,k,h1,⟨p,hp,h2⟩=>by
  have hi:idx a2 (k:Int)=some y:=by
   unfold idx;rw[if_pos (by omega),Int.toNat_natCast,h2,List.getElem?_append_right (by omega),hp,Nat.sub_self];rfl
  rw[jE,decide_eq_false (by rw[h2];simp;omega),cond_false,hi];simp only[Option.bind_some];unfold QP;rw[hi];simp only[Option.bind_some];unfold cmpL
  by_cases hgt:x > y
  ·rw[decide_eq_true hgt,cond_true]
   have e:cmpI x y=1:=by unfold cmpI;rw[if_neg (by omega),if_pos (by omega)]
   rw[e];rfl
  ·rw[decide_eq_false hgt,cond_false]
   by_cases hlt:x<y
   ·rw[decide_eq_true hlt,cond_true]
    have e:cmpI x y = -1:=by unfold cmpI;rw[if_pos hlt]
    rw[e];rfl
   ·rw[decide_eq_false hlt,cond_false]
    have e:x=y:=by omega
    subst e;rw[if_neg (by simpa using (QT x x).2 rfl)];exact qbM a1 a2 r s (k+1) (by rw[List.length_cons]at h1;omega) ⟨p++[x],by simp[hp],by rw[h2];simp⟩
theorem qeZ {a b:List Int} (h:a.length≤1000):Yd a b=some (decide (cmpL a b<0)):=by
 unfold Yd;rw[VC (qZ (by omega))];exact qbM a b a b 0 (by simp) ⟨[],rfl,rfl⟩
theorem qij {l:List (List Int)} {x:List Int} (hl:l.length≤1000) (hb:∀ y,y∈l→y.length≤1000∧cmpL y x<0) (K:Int→Option (List (List Int))):∀ (d m lo:Nat),lo+d=l.length→d+1≤m→QO l x K m (lo:Int) (l.length:Int)=K (l.length:Int):=by
 intro d
 induction d using Nat.strongRecOn with
 | ind d ih =>
  intro m lo hd hm
  match m,hm with
  | m+1,hm =>
   rw[QO]
   by_cases h0:d=0
   ·rw[decide_eq_false (by omega),cond_false,show lo=l.length by omega]
   ·have e1:IntKind.wrap .i64 (((IntKind.wrap .i64 ((lo:Int)+(l.length:Int)))).tdiv 2)=(((lo+l.length) / 2:Nat):Int):=by
     rw[wrap64 (n:=(lo:Int)+(l.length:Int)) (by omega) (by omega),Int.tdiv_eq_ediv_of_nonneg (by omega),wrap64 (by omega) (by omega)];omega
    have hmid:(lo+l.length) / 2<l.length:=by omega
    have hi:idx l (((lo+l.length) / 2:Nat):Int)=some l[(lo+l.length) / 2]:=by
     unfold idx;rw[if_pos (by omega),Int.toNat_natCast,List.getElem?_eq_getElem hmid]
    have hbb:=hb _ (List.getElem_mem hmid);rw[decide_eq_true (by omega),cond_true,e1,hi];simp only[Option.bind_some];rw[qeZ hbb.1];simp only[Option.bind_some];rw[decide_eq_true hbb.2,cond_true]
    have e2:IntKind.wrap .i64 ((((lo+l.length) / 2:Nat):Int)+1)=(((lo+l.length) / 2+1:Nat):Int):=by rw[wrap64 (by omega) (by omega)];omega
    rw[e2];exact ih (l.length - ((lo+l.length) / 2+1)) (by omega) m _ (by omega) (by omega)
theorem qhL {α:Type} (l:List α):sub l 0 (l.length:Int)=some l:=by
 unfold sub;rw[if_pos ⟨by omega,by omega,by omega⟩]
 simp
theorem qgG {α:Type} (l:List α):sub l (l.length:Int) (l.length:Int)=some []:=by
 unfold sub;rw[if_pos ⟨by omega,by omega,by omega⟩]
 simp
theorem qhN {fuel:Nat} (hf:300≤fuel) {l:List (List Int)} {x:List Int} (hl:l.length≤252) (hb:∀ y,y∈l→y.length≤1000∧cmpL y x<0):Nt fuel l x=some (l++[x]):=by
 unfold Nt;rw[show (0:Int)=((0:Nat):Int) from rfl,qij (by omega) hb _ l.length fuel 0 (by omega) (by omega)];unfold Xx Yo;rw[decide_eq_false (by omega),cond_false,cond_false,qhL];simp only[Option.bind_some];rw[VC (JN (by omega) (by simp;omega)),VC (JN (by omega) (by simp;omega)),qgG];simp only[Option.bind_some];rw[VC (JN (by omega) (by simp;omega))]
 simp
theorem qct (n:Nat):(keyOf n).length≤3:=by
 unfold keyOf argsF
 split <;> simp
theorem qcq {ar:Int→Nat} {fuel:Nat} (hf:300≤fuel) {S:List Bool} (hS:S.length=252) (har:arW ar (setB S)) (K:List (List Int)→Option (List apiFact)):∀ (L:List Nat) (k:Nat) (pre:List Nat),k+L.length=252→pre.length≤k→(∀ n,n∈pre→n<k∧S.getD n false=true) →
  Jt fuel S K L k (pre.map keyOf)=K ((pre++(List.range' k L.length).filter fun n=>S.getD n false).map keyOf)
 | [],k,pre,_,_,_=>by rw[Jt];simp
 | x::L,k,pre,hk,hp,hpre=>by
  rw[List.length_cons]at hk
  have hk2:k<252:=by omega
  have hg:S[Int.toNat (k:Int) * 1]? = some (S.getD k false):=by
   rw[Int.toNat_natCast,Nat.mul_one,List.getD_eq_getElem?_getD,List.getElem?_eq_getElem (by omega)];rfl
  rw[Jt,VC (decide_eq_true ⟨by omega,by omega⟩),hg];simp only[Option.bind_some];unfold Ym;rw[List.length_cons,List.range'_succ,List.filter_cons]
  cases hs:S.getD k false with
  | false =>
   rw[cond_false,if_neg (by simp)]
   exact qcq hf hS har K L (k+1) pre (by omega) (by omega) fun n hn=>⟨by have:=(hpre n hn).1;omega,(hpre n hn).2⟩
  | true =>
   rw[cond_true,if_pos rfl,qea hk2,YK];simp only[Option.bind_some];unfold Dl;have hkl:=qct k;unfold keyOf at hkl;rw[List.length_cons]at hkl;rw[VC (JN (by omega) (by simp;omega))];simp only[Option.bind_some,List.singleton_append]
   rw[show (decF k).qm::argsF (decF k)=keyOf k from rfl,qhN hf (by rw[List.length_map];omega) (fun y hy=>by
    obtain⟨n,hn,rfl⟩:=List.mem_map.1 hy;obtain⟨a,b⟩:=hpre n hn
    exact⟨by have:=qct n;omega,qhj har ⟨by omega,b⟩ ⟨hk2,hs⟩ a⟩)]
   simp only[Option.bind_some]
   rw[show pre.map keyOf++[keyOf k]=(pre++[k]).map keyOf by simp,qcq hf hS har K L (k+1) (pre++[k]) (by omega) (by simp;omega) (fun n hn=>by
    rcases List.mem_append.1 hn with hn | hn
    ·exact⟨by have:=(hpre n hn).1;omega,(hpre n hn).2⟩
    ·simp only[List.mem_singleton]at hn;subst hn;exact⟨by omega,hs⟩)]
   simp
theorem qfw:∀ (ns:List Nat) (k:Nat) (acc:List apiFact),acc.length+ns.length≤1000→Qr Ql (ns.map keyOf) k acc=some (acc++ns.map fun n=>apiF (decF n))
 | [],k,acc,_=>by rw[List.map_nil,Qr];simp[Ql]
 | n::ns,k,acc,h=>by
  rw[List.length_cons]at h;rw[List.map_cons,Qr];have h1:idx (keyOf n) 0=some (decF n).qm:=rfl
  have h2:sub (keyOf n) 1 ((keyOf n).length:Int)=some (argsF (decF n)):=by
   unfold sub keyOf;rw[if_pos ⟨by omega,by rw[List.length_cons];omega,by omega⟩];rw[Int.toNat_natCast,List.take_of_length_le (Nat.le_refl _)];rfl
  rw[h1];simp only[Option.bind_some];rw[h2];simp only[Option.bind_some];rw[VC (JN (by omega) (by simp;omega)),qfw ns (k+1) _ (by simp;omega),List.map_cons,YK]
  simp
theorem qbG (S:List Bool):(codesS S).length≤252:=by
 have:=List.length_filter_le (fun n=>S.getD n false) (List.range' 0 252);rw[List.length_range']at this;exact this
theorem qfP {ar:Int→Nat} {fuel:Nat} (hf:300≤fuel) {S:List Bool} (hS:S.length=252) (har:arW ar (setB S)):Vb fuel S=some ((codesS S).map fun n=>apiF (decF n)):=by
 have hc:=qbG S;unfold Vb;rw[VC (by cases S <;> simp_all),VC (decide_eq_true hS),VC (qZ (by simp)),show ([]:List (List Int))=([]:List Nat).map keyOf from rfl,qcq hf hS har _ _ 0 [] (by simp) (by simp) (by simp)];unfold Qs;rw[show (List.range (Int.toNat 252)).length=252 by simp,List.nil_append];rw[VC (qZ (by rw[List.length_map];exact Nat.le_trans hc (by omega)))];exact qfw (codesS S) 0 [] (by simp;omega)
theorem DT {ar:Int→Nat} {fuel:Nat} (hf:300≤fuel) {out:List (rufact×Bool)} {S:List Bool} (h:StR ar out S):∃ m:List apiFact,QH out=some m∧Vb fuel S=some m∧m.length≤252∧(∀ f,f∈m→f.qa.length≤2):=by
 have hc:=qbG S;refine⟨_,?_,qfP hf h.len h.arB,by rw[List.length_map];exact hc,fun f hf=>?_⟩
 ·unfold QH
  have hsm:=VI h.nt.n fun g hg=>(h.ar g hg).1
  rw[List.length_map]at hsm;rw[VC (by rw[Bool.and_eq_true,qbg h.nt.n,decide_eq_true (by omega)];exact⟨rfl,rfl⟩),qeg h]
 ·obtain⟨n,_,rfl⟩:=List.mem_map.1 hf;rw[YK];have:=qct n;unfold keyOf at this;rw[List.length_cons]at this;show (argsF (decF n)).length≤2;omega
theorem qfN {f:apiFact} (h:f.qa.length≤1000):Yg f f=some true:=by
 have key:∀ (r:List Int) (k:Nat),(∃ p:List Int,p.length=k∧f.qa=p++r)→Ja f.qa JL r k=some true:=by
  intro r
  induction r with
  | nil=>intro k _;rw[Ja];rfl
  | cons x r ih =>
   rintro k ⟨p,hp,h2⟩
   have hi:idx f.qa (k:Int)=some x:=by
    unfold idx;rw[if_pos (by omega),Int.toNat_natCast,h2,List.getElem?_append_right (by omega),hp,Nat.sub_self];rfl
   rw[Ja,hi];simp only[Option.bind_some,bne_self_eq_false,cond_false];exact ih (k+1) ⟨p++[x],by simp[hp],by rw[h2];simp⟩
 unfold Yg Za;rw[beq_self_eq_true,cond_true,bne_self_eq_false,cond_false,VC (qZ (by omega)),key f.qa 0 ⟨[],rfl,rfl⟩];rfl
theorem DA {l:List apiFact} (hl:l.length≤1000) (h:∀ f,f∈l→f.qa.length≤1000):Vg l l=some true:=by
 have key:∀ (r:List apiFact) (k:Nat),(∃ p:List apiFact,p.length=k∧l=p++r)→qT l (fun y0 y1=>Yg y0 y1) jq r k=some true:=by
  intro r
  induction r with
  | nil=>intro k _;rw[qT];rfl
  | cons x r ih =>
   rintro k ⟨p,hp,h2⟩
   have hi:idx l (k:Int)=some x:=by
    unfold idx;rw[if_pos (by omega),Int.toNat_natCast,h2,List.getElem?_append_right (by omega),hp,Nat.sub_self];rfl
   rw[qT,hi];simp only[Option.bind_some];rw[qfN (h x (by rw[h2];simp))];simp only[Option.bind_some,Bool.not_true,cond_false];exact ih (k+1) ⟨p++[x],by simp[hp],by rw[h2];simp⟩
 unfold Vg QF;rw[bne_self_eq_false,cond_false,VC (qZ (by omega)),key l 0 ⟨[],rfl,rfl⟩];rfl
end Go.AM
namespace Go.AM
open Go.Proofs Go.Sort
open Classical
abbrev awR:List ruRule:=[(ruRule.mk (ql.mk 1 [0]) [(ruLit.mk false (ql.mk 0 [0]))])]
abbrev awF:List apiFact:=[(apiFact.mk 0 [3])]
theorem qdP (n:Nat):YO (n+30) awR awF=some true:=by rfl
theorem qdQ (n:Nat):YP (n+30) awR awF=some ([(⟨0,3,0⟩,true),(⟨1,3,0⟩,true)],true):=by rfl
theorem qfa:sortF (apis [((⟨0,3,0⟩:rufact),true),(⟨1,3,0⟩,true)])=[⟨0,[3]⟩,⟨1,[3]⟩]:=by
 show sortF [⟨0,[3]⟩,⟨1,[3]⟩]=_;unfold sortF;refine List.mergeSort_of_pairwise ?_;simp only[List.pairwise_cons,List.mem_cons,List.not_mem_nil,or_false,forall_eq,false_implies,implies_true,List.Pairwise.nil,and_true,Bool.not_eq_true'];rw[ltFf]
 decide
theorem qfb:QH [((⟨0,3,0⟩:rufact),true),(⟨1,3,0⟩,true)]=some [⟨0,[3]⟩,⟨1,[3]⟩]:=by
 unfold QH;rw[VC (by rfl),qfa]
theorem qgy (n:Nat):Zh (n+30)=some true:=by
 unfold Zh ZZ;rw[qdP];simp only[Option.bind_some,Bool.not_true,cond_false];rw[qdQ];simp only[Option.bind_some,Bool.not_true,cond_false];rw[qfb];simp only[Option.bind_some];rw[show ((0:Int) == 0)=true from rfl,cond_true,DA (by simp) (by simp)];rfl
theorem Hg {fuel:Nat} (hf:400≤fuel) {l:List rf3Rule} {facts:List apiFact} (hl:okRules l) (hfa:okFacts facts):XW fuel l facts=some true:=by
 obtain⟨n,rfl⟩:∃ n,fuel=n+30:=⟨fuel - 30,by omega⟩;have haw:=qgy n;unfold XW;rw[qik hl.1 (fun r hr=>(hl.2 r hr).2.1),qgr hfa.1];simp only[Option.bind_some];unfold ZZ;rw[qec (by omega) hl,qcn hl hfa];simp only[Option.bind_some]
 by_cases hv:VR l facts
 ·rw[decide_eq_true hv];simp only[Bool.not_true,cond_false]
  have e1:(l.take 12).map cvR=l.map toR:=by
   rw[List.take_of_length_le (by have:=hv.1;omega)]
   exact List.map_congr_left fun r hr=>qhv (hv.2.2.2.1 r hr)
  have e2:(facts.take 26).map cvF=facts:=by
   rw[List.take_of_length_le (by have:=hv.2.1;omega)]
   conv=>rhs;rw[← List.map_id facts]
   exact List.map_congr_left fun f h=>qeW (hv.2.2.1 f h)
  rw[e1,e2]
  rcases qeF (by omega:300≤n+30) hv.1 hv.okL (by have:=hv.2.1;omega) hv.2.2.1 hv.facts_ar with ⟨out,S,a1,a2,a3⟩ | ⟨a1,a2⟩
  ·obtain⟨m,m1,m2,m3,m4⟩:=DT (by omega:300≤n+30) a3;rw[a1];simp only[Option.bind_some,Bool.not_true,cond_false];rw[m1];simp only[Option.bind_some];rw[a2];simp only[Option.bind_some];rw[VC (decide_eq_true ⟨a3.len,by simp⟩),VC (decide_eq_true a3.len),m2];simp only[Option.bind_some];rw[DA (by omega) (fun f h=>by have:=m4 f h;omega)];simp only[Option.bind_some,cond_true];rw[show ((0:Int) == 0)=true from rfl,cond_true,haw];rfl
  ·have h0:StR (fun _=>1) [] (List.replicate 252 false):=⟨NT.empty,fun g hg=>by simp at hg,by simp,fun g=>by
    constructor
    ·intro h;simp at h
    ·intro h;have:=h.2;rw[List.getD_eq_getElem?_getD,List.getElem?_replicate]at this
     split at this <;> simp at this⟩
   obtain⟨m,m1,m2,m3,m4⟩:=DT (by omega:300≤n+30) h0
   have hm:m=[]:=by
    have:QH []=some []:=by
     unfold QH;rw[VC (by rfl)];unfold sortF
     simp
    rw[this]at m1;cases m1;rfl
   rw[a1];simp only[Option.bind_some,Bool.not_false,cond_true];rw[a2];simp only[Option.bind_some];rw[VC (decide_eq_true ⟨by simp,by simp⟩),VC (decide_eq_true (by simp)),m2,hm];simp only[Option.bind_some];rw[DA (by simp) (by simp)];simp only[Option.bind_some,cond_true];rw[show ((8:Int) == 8)=true from rfl,cond_true,haw];rfl
 ·rw[decide_eq_false hv];simp only[Bool.not_false,cond_true,Option.bind_some];rw[show ((([]:List apiFact).length:Int) == 0)=true from rfl,cond_true,show ((2:Int) == 2)=true from rfl,cond_true,haw];rfl
end Go.AM
namespace Go.AM
open Go.Proofs
theorem Hj {l:List Int} (h:wA l):okArgs l:=⟨Ut h.1,h.2⟩
theorem qeB {l:List rf3Rule} (h:l.length≤maxLen∧∀ r,r∈l→wRu r):okRules l :=
 ⟨Ut h.1,fun r hr=>⟨⟨(h.2 r hr).1.1,Hj (h.2 r hr).1.2⟩,Ut (h.2 r hr).2.1,fun b hb=>⟨((h.2 r hr).2.2 b hb).1,Hj ((h.2 r hr).2.2 b hb).2⟩⟩⟩
theorem qeC {l:List apiFact} (h:l.length≤maxLen∧∀ f,f∈l→wFa f):okFacts l :=
 ⟨Ut h.1,fun f hf=>⟨(h.2 f hf).1,Hj (h.2 f hf).2⟩⟩
def bigFuel:Nat:=500
theorem big400:400≤bigFuel:=by decide
end Go.AM
