/- s -/
import Derived.Test.YtdghpfejmlpjhaaRL18
import Derived.Test.YtdghpfejmlpjhaaRN1
set_option maxRecDepth 100000
set_option linter.unusedVariables false
set_option linter.unusedSimpArgs false
namespace Go.AM
open Go.Proofs Go.Sort
open Classical
def plainP (l:List rf3Rule):Prop:=∀ r,r∈l→∀ b,b∈r.qd→b.qn=false
theorem plain_l2 (K:Option Bool):∀ (body:List rf3Lit) (k:Nat),Jj K body k=if ∀ b,b∈body→b.qn=false then K else some false
 | [],k=>by simp[Jj]
 | b::body,k=>by
  rw[Jj,plain_l2 K body (k+1)];cases hb:b.qn <;> simp[hb]
theorem plain_l1:∀ (l:List rf3Rule) (k:Nat),(∀ r,r∈l→r.qd.length≤3)→jc jr l k=some (decide (plainP l))
 | [],k,_=>by
  rw[jc,decide_eq_true (show plainP [] from fun r hr=>by simp at hr)];rfl
 | r::l,k,h=>by
  have ih:=plain_l1 l (k+1) fun q hq=>h q (List.mem_cons_of_mem _ hq)
  rw[jc,chk_t (qC (by have:=h r (List.mem_cons_self ..);omega)),plain_l2];unfold JO;rw[ih]
  have hc:plainP (r::l)↔(∀ b,b∈r.qd→b.qn=false)∧plainP l:=by
   unfold plainP;simp only[List.mem_cons,forall_eq_or_imp]
  by_cases h1:∀ b,b∈r.qd→b.qn=false
  ·rw[if_pos h1]
   congr 1
   exact decide_eq_decide.2 ⟨fun q=>hc.2 ⟨h1,q⟩,fun q=>(hc.1 q).2⟩
  ·rw[if_neg h1,decide_eq_false (fun q=>h1 (hc.1 q).1)]
theorem plain_val {l:List rf3Rule} (hl:l.length≤10) (h:∀ r,r∈l→r.qd.length≤3):Zj l=some (decide (plainP l)):=by
 unfold Zj;rw[chk_t (qC (by omega))];exact plain_l1 l 0 h
abbrev z6:List Int:=List.replicate 6 0
theorem rnd_zero {E:List Edge} (h:∀ e,e∈E→e.d=0):rndE E z6=z6:=by
 induction E with
 | nil=>rfl
 | cons e E ih =>
  have h0:∀ i,z6.getD i 0=0:=fun i=>by
   rw[List.getD_eq_getElem?_getD,List.getElem?_replicate]
   split <;> rfl
  have hs:stepE z6 e=z6:=by
   unfold stepE;rw[h0,h0,h e (List.mem_cons_self ..),if_neg (by omega)];exact set8 (h0 e.h)
  show rndE E (stepE z6 e)=z6;rw[hs]
  exact ih fun f hf=>h f (List.mem_cons_of_mem _ hf)
theorem strata_plain {fuel:Nat} (hf:100≤fuel) {l:List rf3Rule} (hl:l.length≤10) (hu:relsU (l.map toR)) (hp:plainP l):QH fuel (l.map toR)=some (z6,true):=by
 obtain⟨m,rfl⟩:∃ m,fuel=m+1:=⟨fuel - 1,by omega⟩
 have h0:in6 z6 0:=⟨by simp,fun i=>by
  rw[List.getD_eq_getElem?_getD,List.getElem?_replicate]
  split <;> simp⟩
 have hz:rndE (edgesU (l.map toR)) z6=z6:=rnd_zero fun e he=>by
  rw[edges_to]at he;obtain⟨r,hr,he⟩:=List.mem_flatMap.1 he;obtain⟨b,hb,rfl⟩:=List.mem_map.1 he;unfold edgeOf;rw[hp r hr b hb];rfl
 obtain⟨c,h1,h2⟩:=ru_l2 (qB (m+1) 0 (qr (m+1) (l.map toR) m)) (l.map toR) 0 z6 false 0 hu h0 (by omega) (by rw[List.length_map];omega)
 have hc:c=false:=by
  cases c with
  | false=>rfl
  | true =>
   rcases h2.1 rfl with h | h
   ·cases h
   ·exact absurd hz h
 unfold QH;rw[chk_t (by decide),qr,chk_t (qC (by rw[List.length_map];omega))];rw[show (List.replicate (Int.toNat 6) (0:Int))=z6 from rfl,h1,hc,hz];unfold qB;rw[snap6 (by simp)];rfl
theorem freeP_plain {N:rufact→Prop} {l:List rf3Rule} (hp:plainP l) {r:ruRule} (hr:r∈l.map toR) (w:List Int):FreeP N w r.qd:=by
 intro x hx hn;obtain⟨q,hq,rfl⟩:=List.mem_map.1 hr;obtain⟨b,hb,rfl⟩:=List.mem_map.1 hx;have:=hp q hq b hb;replace hn:b.qn=true:=hn;rw[this]at hn;cases hn
theorem model_plain {ar:Int→Nat} {fuel:Nat} (hf:300≤fuel) {l:List rf3Rule} (hl:l.length≤10) (hL:∀ r,r∈l→Go.AM.okL ar (toR r)) (hp:plainP l) {facts:List apiFact} (h2:facts.length≤100) (h3:∀ f,f∈facts→groundP f) (har:∀ f,f∈facts→f.qa.length=ar f.qb) :
  ∃ out,QR fuel (l.map toR) facts=some (out,true)∧NT out∧arW ar (fun g=>g∈out.map Prod.fst)∧∀ N,LeastR (l.map toR) N (fun g=>g∈facts.map toF) (fun g=>g∈out.map Prod.fst):=by
 obtain⟨a1,a2,a3,a4⟩:=NT.empty.add (fr:=facts.map toF)
 have hm:∀ g,g∈(addF [] (facts.map toF)).map Prod.fst↔g∈facts.map toF:=fun g=>by rw[a2];simp
 have hg:Yt facts=some (addF [] (facts.map toF)):=by
  unfold Yt;rw[chk_t (qC (by omega)),given_l1p _ facts 0 [] h3 NT.empty (by simp;omega)];rfl
 have hga:arW ar (fun g=>g∈(addF [] (facts.map toF)).map Prod.fst):=fun g hg=>by
  obtain⟨f,hf,rfl⟩:=List.mem_map.1 ((hm g).1 hg);obtain⟨q1,q2⟩:=toF_ok (h3 f hf);exact⟨q1,by rw[q2];exact har f hf⟩
 obtain⟨out,c1,c2,c3,c4⟩:=consP_val (L:=l.map toR) (fun r hr=>by
  obtain⟨q,hq,rfl⟩:=List.mem_map.1 hr
  exact hL q hq) (by rw[List.length_map];omega) a1 a1 hga (by omega:253≤fuel)
 refine⟨out,?_,c2,c3,fun N=>⟨fun g h=>c4.sub g ((hm g).2 h),fun r hr w hi _=>c4.closed r hr w hi (freeP_plain hp hr w),fun Q q1 q2=>c4.least Q (fun g h=>q1 g ((hm g).1 h)) (fun r hr w hi _=>q2 r hr w hi (freeP_plain hp hr w))⟩⟩
 have hpart:partS z6 0 l=l:=by
  unfold partS;rw[List.filter_eq_self];intro r hr;unfold inS;rw[List.getD_eq_getElem?_getD,List.getElem?_replicate]
  split <;> rfl
 obtain⟨M,m1,m2,m3⟩:=max6_val (by omega:10≤fuel) (l:=z6) (by simp);have hM:M=0:=List.eq_of_mem_replicate m2;subst hM;unfold QR;rw[strata_plain (by omega) hl (relsU_of hL) hp];simp only[Option.bind_some,Bool.not_true,cond_false];rw[hg];simp only[Option.bind_some];rw[m1];simp only[Option.bind_some];rw[show List.range (Int.toNat (IntKind.wrap .i64 (0+1)))=[0] from rfl,chk_t (by rfl),qR,chk_t (qC (by rw[List.length_map];omega)),ru_model2 (by simp) 0 _ l 0 [] (fun r hr=>QC (hL r hr).head.1) (by simp;omega),hpart];unfold jL Xd;rw[List.nil_append,c1];simp only[Option.bind_some];rw[qR];rfl
end Go.AM
namespace Go.AM
open Go.Proofs Go.Sort
open Classical
theorem apiF_ground {f:rufact} (h:okU1 f):groundP (apiF f)∧toF (apiF f)=f:=by
  have h16:=argsF_16 h
  have hl:1≤(argsF f).length∧(argsF f).length≤2:=by
    unfold argsF;split <;> simp
  rw[Xu];refine⟨⟨⟨h.r0,h.r5⟩,hl,h16⟩,?_⟩;unfold toF mkF argsF;obtain⟨r,a,b⟩:=f
  by_cases hb:b=0
  · subst hb;rfl
  · simp only
    rw[if_neg hb];rfl
theorem sort_toF {out:List (rufact×Bool)} (ho:∀ g,g∈out.map Prod.fst→okU1 g):(∀ f,f∈sortF (apis out)→groundP f)∧∀ g,g∈(sortF (apis out)).map toF↔g∈out.map Prod.fst:=by
  have hp:(sortF (apis out)).Perm (apis out):=List.mergeSort_perm ..
  have hm:∀ f,f∈sortF (apis out)↔∃ g,g∈out.map Prod.fst∧apiF g=f:=fun f=>by
    rw[hp.mem_iff];unfold apis;rw[List.mem_map]
    constructor
    · rintro⟨p,hp,rfl⟩;exact⟨p.1,List.mem_map.2 ⟨p,hp,rfl⟩,rfl⟩
    · rintro⟨g,hg,rfl⟩
      obtain⟨p,hp,rfl⟩:=List.mem_map.1 hg;exact⟨p,hp,rfl⟩
  refine⟨fun f hf=>?_,fun g=>?_⟩
  · obtain⟨g,hg,rfl⟩:=(hm f).1 hf
    exact (apiF_ground (ho g hg)).1
  · rw[List.mem_map]
    constructor
    · rintro⟨f,hf,rfl⟩
      obtain⟨g,hg,rfl⟩:=(hm f).1 hf;rw[(apiF_ground (ho g hg)).2];exact hg
    · intro hg
      exact⟨apiF g,(hm _).2 ⟨g,hg,rfl⟩,(apiF_ground (ho g hg)).2⟩
theorem set_list_val {out:List (rufact×Bool)} (hn:NT out) (ho:∀ g,g∈out.map Prod.fst→okU1 g):JM out=some (sortF (apis out)):=by
  have hsm:=Yq hn.n ho;rw[List.length_map]at hsm;unfold JM;rw[chk_t (by rw[Bool.and_eq_true,nodupF_of hn.n,decide_eq_true (by omega)];exact⟨rfl,rfl⟩)]
theorem size_ar {l:List rf3Rule} {facts:List apiFact} (hv:VR l facts):∀ s,s∈l.flatMap sizesR→s.f_1=((arVR l facts s.f_0:Nat):Int):=fun s hs=>by
  have h1:=arOf_mem hv.2.2.2.2 (s:=s) (List.mem_append_right _ hs);obtain⟨r,hr,hm⟩:=List.mem_flatMap.1 hs
  have h0:0≤s.f_1:=by
    rcases List.mem_cons.1 hm with rfl | hm
    · exact Int.natCast_nonneg _
    · obtain⟨b,_,rfl⟩:=List.mem_map.1 hm
      exact Int.natCast_nonneg _
  show s.f_1=((arOf _ s.f_0:Nat):Int);rw[h1];omega
theorem again_VR {l:List rf3Rule} {facts m:List apiFact} (hv:VR l facts) (hm:m.length≤20) (hg:∀ f,f∈m→groundP f) (har:∀ f,f∈m→f.qa.length=arVR l facts f.qb):VR l m:=by
  refine⟨hv.1,hm,hg,hv.2.2.2.1,?_⟩
  have key:∀ s,s∈m.map szF++l.flatMap sizesR→s.f_1=((arVR l facts s.f_0:Nat):Int):=fun s hs=>by
    rcases List.mem_append.1 hs with hs | hs
    · obtain⟨f,hf,rfl⟩:=List.mem_map.1 hs
      show ((f.qa.length:Nat):Int)=_;rw[har f hf];rfl
    · exact size_ar hv s hs
  intro x hx y hy h;rw[key x hx,key y hy,h]
theorem rulesAgain_true {fuel:Nat} (hf:400≤fuel) {l:List rf3Rule} {facts:List apiFact} (hl:okRules l) (hfa:okFacts facts):XB fuel l facts=some true:=by
  obtain⟨n,rfl⟩:∃ n,fuel=n+30:=⟨fuel - 30,by omega⟩;have haw:=awake_val n;have hof:=of_val hl.1 (fun r hr=>(hl.2 r hr).2.1)
  have j9t:∀ (w:List apiFact×Int),w.2=0∨w.2=2∨w.2=8→jk (n+30) l w true=some true:=by
    rintro⟨w,c⟩ h
    unfold jk;rw[cond_true,haw]
    rcases h with h | h | h <;> (replace h:c=_:=h;subst h;rfl)
  unfold XB;rw[hof,facts_val hfa.1];simp only[Option.bind_some]
  by_cases hv:VR l facts
  · have e1:(l.take 12).map cvR=l.map toR:=by
      rw[List.take_of_length_le (by have:=hv.1;omega)]
      exact List.map_congr_left fun r hr=>cvR_eq (hv.2.2.2.1 r hr)
    have e2:∀ m:List apiFact,m.length≤20→(∀ f,f∈m→groundP f)→(m.take 26).map cvF=m:=fun m h1 h2=>by
      rw[List.take_of_length_le (by omega)]
      conv=>rhs;rw[← List.map_id m]
      exact List.map_congr_left fun f h=>cvF_id (h2 f h)
    have hvalid:∀ m:List apiFact,VR l m→Xw (n+30) (l.map toR) m=some true:=fun m hm=>by
      have:=valid_same (fuel:=n+30) (by omega) (facts:=m) hl;rw[e1,e2 m hm.2.1 hm.2.2.1,decide_eq_true hm]at this;exact this
    rw[e1,e2 facts hv.2.1 hv.2.2.1]
    by_cases hp:plainP l
    · obtain⟨out,a1,a2,a3,a4⟩:=model_plain (by omega:300≤n+30) hv.1 hv.okL hp (by have:=hv.2.1;omega) hv.2.2.1 hv.facts_ar
      have ho:∀ g,g∈out.map Prod.fst→okU1 g:=fun g hg=>(a3 g hg).1
      obtain⟨s1,s2⟩:=sort_toF ho;have hsm:=Yq a2.n ho;rw[List.length_map]at hsm
      have hlen:(sortF (apis out)).length≤252:=by rw[Yi,List.length_map];exact hsm
      have hM:JN (n+30) (l.map toR) facts=some (sortF (apis out),0):=by
        unfold JN;rw[hvalid facts hv];simp only[Option.bind_some,Bool.not_true,cond_false];rw[a1];simp only[Option.bind_some,Bool.not_true,cond_false];rw[set_list_val a2 ho];rfl
      rw[hM];simp only[Option.bind_some,bne_self_eq_false,cond_false];rw[plain_val hv.1 (fun r hr=>(hv.2.2.2.1 r hr).2.1)];simp only[Option.bind_some];rw[decide_eq_true hp];simp only[Bool.not_true,cond_false]
      by_cases h20:((sortF (apis out)).length:Int) > 20
      · rw[decide_eq_true h20]
        exact j9t _ (.inl rfl)
      · rw[decide_eq_false h20]
        have h20:(sortF (apis out)).length≤20:=by omega
        have hma:∀ f,f∈sortF (apis out)→f.qa.length=arVR l facts f.qb:=fun f hf=>by
          have h1:=toF_ok (s1 f hf);have h2:=a3 (toF f) ((s2 _).1 (List.mem_map.2 ⟨f,hf,rfl⟩));have h3:=h2.2;rw[h1.2]at h3;exact h3
        have hvm:=again_VR hv h20 s1 hma;obtain⟨out2,b1,b2,b3,b4⟩:=model_plain (by omega:300≤n+30) hv.1 hv.okL hp (by omega) s1 hma
        have hself:LeastR (l.map toR) (fun _=>False) (fun g=>g∈(sortF (apis out)).map toF) (fun g=>g∈out.map Prod.fst) :=
          ⟨fun g h=>(s2 g).1 h,(a4 _).closed,fun Q h1 _ g hg=>h1 g ((s2 g).2 hg)⟩
        have hsame:=(b4 (fun _=>False)).same hself (fun _=>Iff.rfl) (fun _=>Iff.rfl);have hperm:(apis out2).Perm (apis out):=(NT.perm b2 a2 hsame).map _
        have hM2:JN (n+30) (l.map toR) (sortF (apis out))=some (sortF (apis out),0):=by
          unfold JN;rw[hvalid _ hvm];simp only[Option.bind_some,Bool.not_true,cond_false];rw[b1];simp only[Option.bind_some,Bool.not_true,cond_false];rw[set_list_val b2 (fun g hg=>(b3 g hg).1),sortF_perm hperm];rfl
        unfold jk;rw[cond_false,hof,e1];simp only[Option.bind_some];rw[hM2];simp only[Option.bind_some];rw[show ((0:Int) == 0)=true from rfl,cond_true,same_val (by omega) (fun f h=>by have:=(s1 f h).2.1.2;omega)];simp only[Option.bind_some,cond_true];rw[haw];rfl
    · have hfin:∃ w,JN (n+30) (l.map toR) facts=some w∧(w.2=0∨w.2=8):=by
        unfold JN;rw[hvalid facts hv];simp only[Option.bind_some,Bool.not_true,cond_false]
        rcases model_same (by omega:300≤n+30) hv.1 hv.okL (by have:=hv.2.1;omega) hv.2.2.1 hv.facts_ar with ⟨out,S,a1,a2,a3⟩ | ⟨a1,a2⟩
        · obtain⟨m,m1,m2,m3,m4⟩:=lists_same (by omega:300≤n+30) a3
          rw[a1];simp only[Option.bind_some,Bool.not_true,cond_false];rw[m1];exact⟨_,rfl,.inl rfl⟩
        · rw[a1]
          exact⟨_,rfl,.inr rfl⟩
      obtain⟨w,hw,hc⟩:=hfin;rw[hw];simp only[Option.bind_some];rw[plain_val hv.1 (fun r hr=>(hv.2.2.2.1 r hr).2.1),decide_eq_false hp];simp only[Option.bind_some,Bool.not_false,cond_true]
      rw[j9t w (by
       rcases hc with h | h
       · exact .inl h
       · exact .inr (.inr h))]
      cases w.2 != 0 <;> rfl
  · have hM:JN (n+30) ((l.take 12).map cvR) ((facts.take 26).map cvF)=some ([],2):=by
      unfold JN;rw[valid_same (by omega) hl,decide_eq_false hv];rfl
    rw[hM];simp only[Option.bind_some];rw[show ((2:Int) != 0)=true from rfl,cond_true];exact j9t _ (.inr (.inl rfl))
end Go.AM
