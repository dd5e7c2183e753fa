/- s -/
import Derived.Test.YtdghpfejmlpjhaaRDT
import Derived.Test.YtdghpfejmlpjhaaRD1
set_option maxRecDepth 100000
set_option linter.unusedVariables false
set_option linter.unusedSimpArgs false
namespace Go.AM
open Go.Proofs Go.Sort
open Classical
theorem qaf {g:apiFact→Option Bool} {p:apiFact→Bool}:∀ (l:List apiFact) (k:Nat),(∀ x,x∈l→g x=some (p x))→qF g qU l k=some (match l.findIdx? p with | some i=>((k+i:Nat):Int) | none => -1)
 | [],k,_=>by rw[qF];rfl
 | x::l,k,h=>by
  rw[qF,h x (List.mem_cons_self ..),qaf l (k+1) fun y hy=>h y (List.mem_cons_of_mem _ hy)];simp only[Option.bind_some,List.findIdx?_cons]
  cases hp:p x with
  | true=>simp
  | false =>
   rw[cond_false]
   cases hf:l.findIdx? p with
   | none=>rfl
   | some i =>
    refine congrArg some ?_;show ((k+1+i:Nat):Int)=((k+(i+1):Nat):Int)
    congr 1
    omega
theorem qha {l:List apiFact} {i:Nat} {x:apiFact} (h:i<l.length):upd l i x=some (l.set i x):=by
 unfold upd;rw[if_pos h]
theorem qdE {d:List apiFact} (hd:d.length≤1000) {g:apiFact→Option Bool} {p:apiFact→Bool} (hg:∀ x,x∈d→g x=some (p x)) (K:List apiFact→Int→Option (Nat×List apiFact)):∀ (r m k i:Nat) (v:List apiFact),k+r=d.length→r+1≤m→i<k→v.length=d.length→v.drop k=d.drop k→v.take i=(d.take k).filter (fun x=>!p x) →
  ∃ v' i',qt d.length g K m v (i:Int) (k:Int)=K v' ((i':Nat):Int)∧i'≤d.length∧v'.length=d.length∧v'.take i'=d.filter (fun x=>!p x)
 | r,0,k,i,v,_,hm,_,_,_,_=>by omega
 | 0,m+1,k,i,v,hk,hm,hi,hv,h1,h2=>by
  refine⟨v,i,?_,by omega,hv,?_⟩
  ·rw[qt,decide_eq_false (by omega),cond_false]
  ·rw[h2,List.take_of_length_le (by omega)]
 | r+1,m+1,k,i,v,hk,hm,hi,hv,h1,h2=>by
  have hkd:k<d.length:=by omega
  have hkv:k<v.length:=by omega
  have hvk:v[k]? = some d[k]:=by
   have e1:(v.drop k)[0]? = (d.drop k)[0]?:=by rw[h1]
   rw[List.getElem?_drop,List.getElem?_drop,Nat.add_zero]at e1;rw[e1,List.getElem?_eq_getElem hkd]
  have hmem:d[k]∈d:=List.getElem_mem hkd
  have hdrop:v.drop (k+1)=d.drop (k+1):=by rw[← List.drop_drop,← List.drop_drop,h1]
  have htk:d.take (k+1)=d.take k++[d[k]]:=by rw[List.take_add_one,List.getElem?_eq_getElem hkd];rfl
  rw[qt,decide_eq_true (by omega),cond_true,ZJ (decide_eq_true ⟨by omega,by omega⟩),Nat.zero_add,Int.toNat_natCast,hvk];simp only[Option.bind_some];rw[hg _ hmem];simp only[Option.bind_some];unfold jj
  have hw:∀ n:Nat,n≤2000→IntKind.wrap .i64 ((n:Int)+1)=((n+1:Nat):Int):=fun n hn=>by rw[wrap64 (by omega) (by omega)];omega
  cases hp:p d[k] with
  | true =>
   rw[Bool.not_true,cond_false,hw k (by omega)];refine qdE hd hg K r m (k+1) i v (by omega) (by omega) (by omega) hv hdrop ?_;rw[h2,htk,List.filter_append]
   simp[hp]
  | false =>
   rw[Bool.not_false,cond_true,ZJ (decide_eq_true ⟨by omega,by omega⟩),Nat.zero_add,Int.toNat_natCast,qha (by omega)];simp only[Option.bind_some];rw[hw i (by omega),hw k (by omega)];refine qdE hd hg K r m (k+1) (i+1) (v.set i d[k]) (by omega) (by omega) (by omega) (by rw[List.length_set];exact hv) ?_ ?_
   ·rw[List.drop_set_of_lt (by omega)];exact hdrop
   ·have hiv:i<v.length:=by omega
    rw[List.take_add_one,List.getElem?_set_self hiv,htk,List.filter_append];simp only[Option.toList_some];rw[show (v.set i d[k]).take i=v.take i from List.take_set_of_le (Nat.le_refl i),h2]
    simp[hp]
theorem De {fuel:Nat} {d:List apiFact} (hd:d.length≤252) (hf:300≤fuel) {g:apiFact→Option Bool} {p:apiFact→Bool} (hg:∀ x,x∈d→g x=some (p x)):∃ n d',jJ fuel d d.length g=some (n,d')∧snap 0 n d'=d.filter (fun x=>!p x):=by
 have hsn:snap 0 d.length d=d:=by unfold snap;simp
 have hix:Jw (snap 0 d.length d) g=some (match d.findIdx? p with | some i=>((i:Nat):Int) | none => -1):=by
  rw[hsn];unfold Jw;rw[ZJ (qN (by omega)),qaf d 0 hg];cases d.findIdx? p <;> simp
 unfold jJ;rw[hix];simp only[Option.bind_some]
 cases hfi:d.findIdx? p with
 | none =>
  refine⟨d.length,d,rfl,?_⟩;rw[hsn];rw[List.findIdx?_eq_none_iff]at hfi;exact (List.filter_eq_self.2 fun x hx=>by rw[hfi x hx];rfl).symm
 | some i =>
  simp only
  obtain⟨hi,hpi,hbef⟩:=List.findIdx?_eq_some_iff_getElem.1 hfi;rw[show (((i:Nat):Int) == -1)=false by simp,cond_false,wrap64 (by omega) (by omega)]
  have htk:(d.take (i+1)).filter (fun x=>!p x)=d.take i:=by
   rw[List.take_add_one,List.getElem?_eq_getElem hi,List.filter_append];simp only[Option.toList_some];rw[List.filter_eq_self.2 (fun x hx=>?_)]
   ·simp[hpi]
   ·obtain⟨j,hj,he⟩:=List.getElem_of_mem hx;rw[List.length_take]at hj;rw[List.getElem_take]at he;have:=hbef j (by omega);rw[← he]
    simpa using this
  obtain⟨v',i',a1,a2,a3,a4⟩:=qdE (p:=p) (by omega:d.length≤1000) hg (qz d.length) (d.length - (i+1)) fuel (i+1) i d (by omega) (by omega) (by omega) rfl rfl htk.symm;rw[show ((i:Nat):Int)+1=((i+1:Nat):Int) by omega,a1];unfold qz;rw[ZJ (decide_eq_true ⟨by omega,by omega,by omega⟩),ZJ (decide_eq_true ⟨by omega,by omega,by omega⟩)];refine⟨_,_,rfl,?_⟩
  have e0:Int.toNat ((i':Nat):Int) - Int.toNat 0=i':=by omega
  rw[e0,Nat.zero_add,Int.toNat_natCast];unfold snap;rw[List.drop_zero,List.append_assoc,List.take_append_of_le_length (by rw[List.length_take];omega),List.take_take,Nat.min_self];exact a4
theorem Uw (p:apiFact→Bool) (l:List apiFact):(sortF l).filter p=sortF (l.filter p):=by
 have h1:∀ l:List apiFact,(sortF l).Pairwise fun a b=>(!ltOf cfF b a)=true:=fun l=>List.pairwise_mergeSort (le:=fun a b=>!ltOf cfF b a) (by
  intro a b c h1 h2;simp only[Bool.not_eq_true']at *
  exact swoF.ntrans _ _ _ h2 h1) (by
  intro a b;simp only[Bool.or_eq_true,Bool.not_eq_true']
  cases hh:ltOf cfF b a with
  | false=>exact .inl rfl
  | true =>
   right
   rw[ltF]at hh;rw[ltFf];have:=VI a b
   omega) l
 refine List.Perm.eq_of_pairwise (le:=fun a b=>(!ltOf cfF b a)=true) (fun a b _ _ x y=>?_) ((h1 l).filter p) (h1 (l.filter p)) ?_
 ·simp only[Bool.not_eq_true']at x y;exact totF a b y x
 ·exact ((List.mergeSort_perm l _).filter p).trans (List.mergeSort_perm (l.filter p) _).symm
theorem qaZ {l L:List rf3Rule} {D:Nat→Prop} (hD:ClosedN l D) (hL:∀ r,r∈L↔r∈l∧D r.qc.qb.toNat) {G X:rufact→Prop} (hX:LeastR (l.map toR) X G X) :
  LeastR (L.map toR) (fun g=>(D g.ql.toNat∧X g)∨G g) G (fun g=>(D g.ql.toNat∧X g)∨G g):=by
 have hZX:∀ g,((D g.ql.toNat∧X g)∨G g)→X g:=fun g h=>h.elim (fun h=>h.2) (hX.sub g)
 have hup:∀ r,r∈L.map toR→r∈l.map toR∧D r.qc.qb.toNat∧∀ x,x∈r.qd→D x.qe.qb.toNat:=fun r hr=>by
  obtain⟨q,hq,rfl⟩:=List.mem_map.1 hr;obtain⟨h1,h2⟩:=(hL q).1 hq;refine⟨List.mem_map.2 ⟨q,h1,rfl⟩,h2,fun x hx=>?_⟩;obtain⟨b,hb,rfl⟩:=List.mem_map.1 hx;exact hD q h1 h2 b hb
 refine⟨fun g h=>.inr h,fun r hr w hi hf=>?_,fun Q q1 q2=>?_⟩
 ·obtain⟨h1,h2,h3⟩:=hup r hr;exact .inl ⟨h2,hX.closed r h1 w (ZI hZX hi) fun x hx hn hy=>hf x hx hn (.inl ⟨h3 x hx,hy⟩)⟩
 ·have key:=hX.least (fun g=>D g.ql.toNat→Q g) (fun g hg _=>q1 g hg) fun r hr w hi hf hd=>by
   obtain⟨q,hq,rfl⟩:=List.mem_map.1 hr;have hqL:q∈L:=(hL q).2 ⟨hq,hd⟩;have hr':toR q∈L.map toR:=List.mem_map.2 ⟨q,hqL,rfl⟩;obtain⟨h1,h2,h3⟩:=hup _ hr'
   exact q2 _ hr' w (Yc (fun x hx hn g hg hrel=>hg (by rw[hrel];exact h3 x hx)) hi) fun x hx hn hy=>hf x hx hn (hZX _ hy)
  exact fun g hg=>hg.elim (fun h=>key g h.2 h.1) (q1 g)
theorem mown {fuel:Nat} (hf:300≤fuel) {l:List rf3Rule} (ho:okRules l) (facts:List apiFact) :
  (¬ VR l facts∧jv fuel ((l.take 12).map cvR) ((facts.take 26).map cvF)=some ([],2)) ∨
  (VR l facts∧∃ v out,in6 v 5∧Strat (levV v) (l.map toR)∧preE (edgesR l) (fun i=>v.getD i 0)∧jv fuel ((l.take 12).map cvR) ((facts.take 26).map cvF)=some (sortF (apis out),0)∧NT out∧arW (arVR l facts) (memO out)∧LeastR (l.map toR) (memO out) (fun g=>g∈facts.map toF) (memO out)) ∨
  (VR l facts∧XM l=some ([],8)∧jv fuel ((l.take 12).map cvR) ((facts.take 26).map cvF)=some ([],8)):=by
 by_cases hv:VR l facts
 ·have h20:=hv.2.1
  have hvalid:Qo fuel (l.map toR) facts=some true:=by
   rw[mvalid (by omega) ho hv.1 hv.2.2.2.1 (by omega) (fun f hf=>by have:=(hv.2.2.1 f hf).2.1.2;omega),decide_eq_true hv]
  rw[ZV hv,qgb hv]
  rcases qdh hf hv.1 hv.okL (by omega) hv.2.2.1 hv.facts_ar with ⟨v,out,v1,v2,v3,m1,m2,m3,m4⟩ | ⟨m0,m1⟩
  ·refine .inr (.inl ⟨hv,v,out,v1,v3,?_,?_,m2,m3,m4⟩)
   ·rcases ZQ (by omega:100≤fuel) hv.1 (by rw[List.length_map];exact hv.1) (Zh hv.okL) (Hy hv.okL) (Dd l) with ⟨v',hv',hpre,s1,s2⟩ | ⟨s1,s2⟩
    ·rw[v2]at s2;cases s2;exact hpre
    ·rw[v2]at s2;cases s2
   ·unfold jv;rw[hvalid];simp only[Option.bind_some,Bool.not_true,cond_false];rw[m1];simp only[Option.bind_some,Bool.not_true,cond_false];rw[show Xi out=Qg out from rfl,qaP m2 fun g hg=>(m3 g hg).1];rfl
  ·refine .inr (.inr ⟨hv,?_,?_⟩)
   ·rcases ZQ (by omega:100≤fuel) hv.1 (by rw[List.length_map];exact hv.1) (Zh hv.okL) (Hy hv.okL) (Dd l) with ⟨v',hv',hpre,s1,s2⟩ | ⟨s1,s2⟩
    ·rw[m0]at s2;cases s2
    ·exact s1
   ·unfold jv;rw[hvalid];simp only[Option.bind_some,Bool.not_true,cond_false];rw[m1];rfl
 ·refine .inl ⟨hv,?_⟩;unfold jv;rw[Zu (by omega) ho,decide_eq_false hv];rfl
theorem qcL {l L:List rf3Rule} (hl:L.length≤10) (hr:relsR L) (hs:∀ r,r∈L→r∈l) {v:List Int} (hv:in6 v 5) (hp:preE (edgesR l) fun i=>v.getD i 0):XM L≠some ([],8):=by
 have hp2:preE (edgesR L) fun i=>v.getD i 0:=fun e he=>hp e (by
  obtain⟨r,hr,he⟩:=List.mem_flatMap.1 he
  exact List.mem_flatMap.2 ⟨r,hs r hr,he⟩)
 rw[VQ hl hr,if_neg]
 ·simp
 ·rintro⟨i,hi,hg⟩
  have h0:∀ i,(List.replicate 6 (0:Int)).getD i 0≤v.getD i 0:=fun i=>by
   have e:(List.replicate 6 (0:Int)).getD i 0=0:=by
    rw[List.getD_eq_getElem?_getD,List.getElem?_replicate]
    split <;> rfl
   rw[e];exact (hv.2 i).1
  have h6:=HK (Nz hr) hp2 (by simp) h0 60 i;have h5:=(hv.2 i).2;have h7:(iterE (edgesR L) (List.replicate 6 0) 60).getD i 0≤v.getD i 0:=h6;omega
theorem mod6 (a:Int):rel6 (IntKind.wrap .i64 ((IntKind.wrap .u64 a).tmod 6)):=by
 have h0:0≤IntKind.wrap .u64 a:=by
  show 0≤a.emod (2 ^ 64);exact Int.emod_nonneg _ (by decide)
 have h1:0≤(IntKind.wrap .u64 a).tmod 6:=Int.tmod_nonneg _ h0;have h2:(IntKind.wrap .u64 a).tmod 6<6:=Int.tmod_lt_of_pos _ (by decide);rw[wrap64 (by omega) (by omega)];exact⟨h1,by omega⟩
theorem qbU {l L:List rf3Rule} (h:okRules l) (hl:L.length≤100) (hs:∀ r,r∈L→r∈l):okRules L:=⟨qN (by omega),fun r hr=>h.2 r (hs r hr)⟩
theorem qcH {l L:List rf3Rule} {facts:List apiFact} (hv:VR l facts) (h:L.Sublist l):VR L facts:=by
 refine⟨Nat.le_trans h.length_le hv.1,hv.2.1,hv.2.2.1,fun r hr=>hv.2.2.2.1 r (h.subset hr),fun x hx y hy=>hv.2.2.2.2 x ?_ y ?_⟩
 ·rcases List.mem_append.1 hx with h1 | h1
  ·exact List.mem_append_left _ h1
  ·obtain⟨r,hr,hx⟩:=List.mem_flatMap.1 h1;exact List.mem_append_right _ (List.mem_flatMap.2 ⟨r,h.subset hr,hx⟩)
 ·rcases List.mem_append.1 hy with h1 | h1
  ·exact List.mem_append_left _ h1
  ·obtain⟨r,hr,hx⟩:=List.mem_flatMap.1 h1;exact List.mem_append_right _ (List.mem_flatMap.2 ⟨r,h.subset hr,hx⟩)
theorem Nk {fuel:Nat} (hf:400≤fuel) {l:List rf3Rule} {facts:List apiFact} {a:Int} (hl:okRules l) (hfa:okFacts facts):Xj fuel l facts a=some true:=by
 obtain⟨n,rfl⟩:∃ n,fuel=n+30:=⟨fuel - 30,by omega⟩;have haw:=qff n;have hof:=qhc hl.1 (fun r hr=>(hl.2 r hr).2.1);have hrel:=mod6 a;obtain⟨rel,erel⟩:∃ rel,rel=IntKind.wrap .i64 ((IntKind.wrap .u64 a).tmod 6):=⟨_,rfl⟩;rw[← erel]at hrel
 have j17:∀ (w8:List ruRule×Int) (w12 w15:List apiFact×Int),w8.2=2∨(w12.2=2∨w12.2=8)→js (n+30) l a w8 w12 w15 true=some true:=by
  rintro⟨q8,c8⟩ ⟨q12,c12⟩ w15 h
  have h:c8=2∨(c12=2∨c12=8):=h;unfold js;rw[cond_true]
  by_cases h8:c8=2
  ·subst h8;rw[show ((2:Int) == 2)=true from rfl,cond_true,haw];rfl
  ·rw[show (c8 == 2)=false by simpa using h8,cond_false]
   rcases h with h | h | h
   ·exact absurd h h8
   ·subst h;rw[show ((2:Int) == 2)=true from rfl,cond_true,haw];rfl
   ·subst h;rw[show ((8:Int) == 2)=false from rfl,cond_false,show ((8:Int) == 8)=true from rfl,cond_true,haw];rfl
 unfold Xj;rw[hof];simp only[Option.bind_some];rw[← erel]
 by_cases hv0:VR l []
 ·obtain⟨L,h1,h2,h3,D,h4,h5⟩:=qbV (by omega:20≤n+30) hl hv0 hv0 hrel;have hLl:L.length≤10:=Nat.le_trans h1.length_le hv0.1
  have hoL:okRules L:=qbU hl (by omega) fun r hr=>h1.subset hr
  have hvL0:=qcH hv0 h1;rw[ZV hv0,h2];simp only[Option.bind_some];rw[qas hfa.1];simp only[Option.bind_some];have hmL:=mown (by omega:300≤n+30) hoL facts;rw[ZV hvL0]at hmL;have hml:=mown (by omega:300≤n+30) hl facts;rw[ZV hv0]at hml
  rcases hml with ⟨hv,m1⟩ | ⟨hv,v,out,v1,v2,v3,m1,m2,m3,m4⟩ | ⟨hv,s1,m1⟩
  ·rw[m1];simp only[Option.bind_some]
   obtain⟨w15,hw⟩:∃ w15,jv (n+30) (L.map toR) ((facts.take 26).map cvF)=some w15:=by
    rcases hmL with ⟨_,e⟩ | ⟨_,_,_,_,_,_,e,_⟩ | ⟨_,_,e⟩ <;> exact⟨_,e⟩
   rw[hw];simp only[Option.bind_some];rw[show ((0:Int) != 0)=false from rfl,cond_false,show ((2:Int) != 0)=true from rfl];exact j17 _ _ _ (.inr (.inl rfl))
  ·rw[m1];simp only[Option.bind_some];have hvL:=qcH hv h1
   rcases hmL with ⟨hn,_⟩ | ⟨_,u,out2,u1,u2,u3,k1,k2,k3,k4⟩ | ⟨_,s1,_⟩
   ·exact absurd hvL hn
   ·rw[k1];simp only[Option.bind_some];rw[show ((0:Int) != 0)=false from rfl,cond_false];unfold js;rw[cond_false,show ((0:Int) != 0)=false from rfl,cond_false,List.length_map,decide_eq_false (by have:=h1.length_le;omega)];unfold Jf;rw[cond_false,← erel]
    have s1:out.length≤252:=by have:=Ys m2.n fun x hx=>(m3 x hx).1;rw[List.length_map]at this;exact this
    have s2:out2.length≤252:=by have:=Ys k2.n fun x hx=>(k3 x hx).1;rw[List.length_map]at this;exact this
    obtain⟨n1,d1,a1,a2⟩:=De (fuel:=n+30) (d:=sortF (apis out)) (by rw[QK,List.length_map];exact s1) (by omega) (g:=fun y0=>jI y0 rel) (p:=fun x=>x.qb != rel) (fun x _=>rfl);obtain⟨n2,d2,b1,b2⟩:=De (fuel:=n+30) (d:=sortF (apis out2)) (by rw[QK,List.length_map];exact s2) (by omega) (g:=fun y0=>jI y0 rel) (p:=fun x=>x.qb != rel) (fun x _=>rfl);rw[a1];simp only[Option.bind_some];rw[b1];simp only[Option.bind_some];rw[a2,b2];have hz:=qfm u2 (qaZ h4.closed h5 m4) k4
    have hsame:∀ f:apiFact,f∈(apis out).filter (fun x=>!(x.qb != rel))↔f∈(apis out2).filter (fun x=>!(x.qb != rel)):=fun f=>by
     have hap:∀ (o:List (rufact×Bool)),f∈apis o↔∃ g,memO o g∧apiF g=f:=fun o=>by
      unfold apis;rw[List.mem_map]
      constructor
      ·rintro⟨p,hp,rfl⟩;exact⟨p.1,List.mem_map.2 ⟨p,hp,rfl⟩,rfl⟩
      ·rintro⟨g,hg,rfl⟩
       obtain⟨p,hp,rfl⟩:=List.mem_map.1 hg;exact⟨p,hp,rfl⟩
     rw[List.mem_filter,List.mem_filter,hap,hap]
     refine and_congr_left fun hr=>?_
     have hr:f.qb=rel:=by simpa[bne] using hr
     have hg:∀ g:rufact,apiF g=f→(memO out g↔memO out2 g):=fun g he=>by
      have hgr:g.ql=rel:=by rw[← hr,← he,NG]
      rw[← hz]
      constructor
      ·intro h;exact .inl ⟨by rw[hgr];exact h4.at',h⟩
      ·rintro (h | h)
       ·exact h.2
       ·exact m4.sub g h
     exact⟨fun ⟨g,q1,q2⟩=>⟨g,(hg g q2).1 q1,q2⟩,fun ⟨g,q1,q2⟩=>⟨g,(hg g q2).2 q1,q2⟩⟩
    have hnd:∀ {o:List (rufact×Bool)},NT o→(apis o).Nodup:=fun {o} h=>by
     have e:apis o=(o.map Prod.fst).map apiF:=by simp[apis,List.map_map,Function.comp_def]
     rw[e];exact List.Pairwise.map apiF (fun a b h e=>h (Do e)) h.n
    have hperm:((apis out).filter (fun x=>!(x.qb != rel))).Perm ((apis out2).filter (fun x=>!(x.qb != rel))):=(List.perm_ext_iff_of_nodup ((hnd m2).filter _) ((hnd k2).filter _)).2 hsame;rw[Uw,Uw,Ua hperm,qbC]
    ·simp only[Option.bind_some,cond_true];rw[haw];rfl
    ·rw[QK];have:=List.length_filter_le (fun x:apiFact=>!(x.qb != rel)) (apis out2);rw[List.length_map]at this;omega
    ·intro f hf
     have:f∈sortF (apis out2):=by
      have h:=(List.mergeSort_perm ((apis out2).filter (fun x=>!(x.qb != rel))) _).mem_iff.1 hf;exact (List.mergeSort_perm _ _).mem_iff.2 (List.mem_filter.1 h).1
     exact qcP (fun g hg=>(k3 g hg).1) f this
   ·exact absurd s1 (qcL hLl (Zh hvL.okL) (fun r hr=>h1.subset hr) v1 v3)
  ·rw[m1];simp only[Option.bind_some]
   obtain⟨w15,hw⟩:∃ w15,jv (n+30) (L.map toR) ((facts.take 26).map cvF)=some w15:=by
    rcases hmL with ⟨_,e⟩ | ⟨_,_,_,_,_,_,e,_⟩ | ⟨_,_,e⟩ <;> exact⟨_,e⟩
   rw[hw];simp only[Option.bind_some];rw[show ((0:Int) != 0)=false from rfl,cond_false,show ((8:Int) != 0)=true from rfl];exact j17 _ _ _ (.inr (.inr rfl))
 ·rw[qdo (by omega:20≤n+30) hl (fun h=>hv0 h.1)];simp only[Option.bind_some];rw[qas hfa.1];simp only[Option.bind_some]
  obtain⟨w12,hw⟩:∃ w,jv (n+30) ((l.take 12).map cvR) ((facts.take 26).map cvF)=some w:=by
   rcases mown (by omega:300≤n+30) hl facts with ⟨_,e⟩ | ⟨_,_,_,_,_,_,e,_⟩ | ⟨_,_,e⟩ <;> exact⟨_,e⟩
  rw[hw];simp only[Option.bind_some];have hnil:okRules []:=⟨by decide,fun r hr=>by simp at hr⟩
  obtain⟨w15,hw⟩:∃ w,jv (n+30) [] ((facts.take 26).map cvF)=some w:=by
   have:=mown (by omega:300≤n+30) hnil facts;rw[show (([]:List rf3Rule).take 12).map cvR=[] from rfl]at this
   rcases this with ⟨_,e⟩ | ⟨_,_,_,_,_,_,e,_⟩ | ⟨_,_,e⟩ <;> exact⟨_,e⟩
  rw[hw];simp only[Option.bind_some];rw[show ((2:Int) != 0)=true from rfl,cond_true];exact j17 _ _ _ (.inl rfl)
end Go.AM
