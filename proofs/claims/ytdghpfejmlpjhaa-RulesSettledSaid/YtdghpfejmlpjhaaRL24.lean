/- s -/
import Derived.Test.YtdghpfejmlpjhaaRL21
import Derived.Test.YtdghpfejmlpjhaaRF1
set_option maxRecDepth 100000
set_option linter.unusedVariables false
set_option linter.unusedSimpArgs false
namespace Go.AM
open Go.Proofs Go.Sort
open Classical
theorem LeastR.anti {L:List ruRule} {N N' G X X':rufact→Prop} (h:LeastR L N G X) (h':LeastR L N' G X') (hN:∀ g,N g→N' g):∀ g,X' g→X g :=
 h'.least X h.sub fun r hr w hi hf=>h.closed r hr w hi fun x hx hn hy=>hf x hx hn (hN _ hy)
theorem qgm {S T:List Bool} (hS:S.length=252) (hT:T.length=252) (h:∀ g,setB S g↔setB T g):S=T:=by
 refine List.ext_getElem (by rw[hS,hT]) fun n h1 h2=>?_
 have hn:n<252:=by omega
 have hg:=h (decF n);unfold setB at hg;rw[XH hn]at hg
 have e1:S.getD n false=S[n]:=by rw[List.getD_eq_getElem?_getD,List.getElem?_eq_getElem h1];rfl
 have e2:T.getD n false=T[n]:=by rw[List.getD_eq_getElem?_getD,List.getElem?_eq_getElem h2];rfl
 rw[e1,e2]at hg;have h3:S[n]=true↔T[n]=true:=⟨fun q=>(hg.1 ⟨Ua hn,q⟩).2,fun q=>(hg.2 ⟨Ua hn,q⟩).2⟩;cases hs:S[n] <;> cases ht:T[n] <;> simp_all
theorem dec252 {k:Nat} (h:k<252):decide ((0:Int)≤(k:Int)∧(k:Int)<((252:Nat):Int))=true:=decide_eq_true ⟨by omega,by omega⟩
theorem dec252a {k:Nat} (h:k<252):decide ((0:Int)≤(k:Int)∧(k:Int)<((252:Nat):Int)∧0<1)=true:=decide_eq_true ⟨by omega,by omega,by omega⟩
theorem qfC {S:List Bool} {k:Nat} (hk:k<S.length) (b:Bool) (i:Nat):(S.set k b).getD i false=if i=k then b else S.getD i false:=by
 rw[List.getD_eq_getElem?_getD,List.getD_eq_getElem?_getD,List.getElem?_set]
 by_cases h:k=i
 ·subst h;rw[if_pos rfl,if_pos hk,if_pos rfl];rfl
 ·rw[if_neg h,if_neg (Ne.symm h)]
theorem DH {t:List Bool} (ht:t.length=252) (K:List Bool→Option (List Bool×List Bool)):∀ (r:List Nat) (k:Nat) (u:List Bool),u.length=252→k+r.length=252→∃ u',JH t K r k u=K u'∧u'.length=252∧∀ i,u'.getD i false=if k≤i then (u.getD i false && !t.getD i false) else u.getD i false
 | [],k,u,hu,hk=>by
  refine⟨u,by rw[JH],hu,fun i=>?_⟩
  split
  ·rename_i h
   have hk:k=252:=by simpa using hk
   rw[List.getD_eq_getElem?_getD,List.getElem?_eq_none (by omega)];rfl
  ·rfl
 | x::r,k,u,hu,hk=>by
  rw[List.length_cons]at hk
  have hk2:k<252:=by omega
  have e1:t[Int.toNat (k:Int) * 1]? = some (t.getD k false):=by
   rw[Int.toNat_natCast,Nat.mul_one,List.getD_eq_getElem?_getD,List.getElem?_eq_getElem (by omega)];rfl
  have e2:u[0+Int.toNat (k:Int) * 1]? = some (u.getD k false):=by
   rw[Int.toNat_natCast,Nat.mul_one,Nat.zero_add,List.getD_eq_getElem?_getD,List.getElem?_eq_getElem (by omega)];rfl
  have e3:decide ((0+Int.toNat (k:Int) * 1)<u.length)=true:=decide_eq_true (by rw[Int.toNat_natCast];omega)
  have e4:0+Int.toNat (k:Int) * 1=k:=by rw[Int.toNat_natCast];omega
  obtain⟨u',a1,a2,a3⟩:=DH ht K r (k+1) (u.set k (u.getD k false && !t.getD k false)) (by rw[List.length_set];exact hu) (by omega);refine⟨u',?_,a2,fun i=>?_⟩
  ·rw[JH,ZU (dec252 hk2),e1];simp only[Option.bind_some];rw[ZU (dec252a hk2),e2];simp only[Option.bind_some]
   cases hb:u.getD k false with
   | true =>
    rw[cond_true,ZU (dec252a hk2),ZU e3,e4];rw[hb,Bool.true_and]at a1;exact a1
   | false =>
    rw[cond_false,ZU (dec252a hk2),ZU e3,e4];rw[hb,Bool.false_and]at a1;exact a1
  ·rw[a3 i,qfC (by omega)]
   by_cases h1:i=k
   ·subst h1;rw[if_neg (by omega),if_pos rfl,if_pos (Nat.le_refl _)]
   ·rw[if_neg h1]
    by_cases h2:k≤i
    ·rw[if_pos h2,if_pos (by omega)]
    ·rw[if_neg h2,if_neg (by omega)]
theorem qfK {ar:Int→Nat} {could next:List (rufact×Bool)} {u t u':List Bool} (hc:StR ar could u) (hn:StR ar next t) (hu:u'.length=252) (h:∀ i,u'.getD i false=(u.getD i false && !t.getD i false)):StR ar (dropF could next) u':=by
 obtain⟨d1,d2⟩:=NS (next:=next) hc.nt;refine⟨d1,fun g hg=>hc.ar g ((d2 g).1 hg).2,hu,fun g=>?_⟩;rw[d2,hc.same,hn.same];unfold setB;rw[h,Bool.and_eq_true,Bool.not_eq_true',← Bool.not_eq_true]
 constructor
 ·rintro⟨h1,h2,h3⟩
  exact⟨h2,h3,fun h4=>h1 ⟨h2,h4⟩⟩
 ·rintro⟨h1,h2,h3⟩
  exact⟨fun h4=>h3 h4.2,h1,h2⟩
theorem qhl {a b:List (rufact×Bool)} (ha:NT a) (hb:NT b) (h:∀ g,memO a g→memO b g):a.length≤b.length∧(a.length=b.length→∀ g,memO b g→memO a g):=by
 have hc:NT (b.filter fun p=>decide (memO a p.1)):=⟨fun p hp=>hb.t p (List.mem_filter.1 hp).1,(List.filter_sublist.map _).nodup hb.n⟩
 have hm:∀ g,memO a g↔memO (b.filter fun p=>decide (memO a p.1)) g:=fun g=>by
  constructor
  ·intro hg;obtain⟨p,hp,rfl⟩:=List.mem_map.1 (h g hg);exact List.mem_map.2 ⟨p,List.mem_filter.2 ⟨hp,decide_eq_true hg⟩,rfl⟩
  ·intro hg;obtain⟨p,hp,rfl⟩:=List.mem_map.1 hg;exact of_decide_eq_true (List.mem_filter.1 hp).2
 have hl:=(NT.perm ha hc hm).length_eq;refine⟨by rw[hl];exact List.length_filter_le ..,fun he g hg=>?_⟩;have e:(b.filter fun p=>decide (memO a p.1))=b:=List.filter_sublist.eq_of_length (by omega);rw[hm,e];exact hg
structure FoundP (L:List ruRule) (G:rufact→Prop) (yes open':rufact→Prop):Prop where
 ex:∃ could,LeastR L yes G could∧LeastR L could G yes∧∀ g,open' g↔¬ yes g∧could g
theorem Nf {ar:Int→Nat} {fuel:Nat} (hf:300≤fuel) {l:List rf3Rule} (hl:l.length≤12) (hL:∀ r,r∈l→okL ar (toR r)) {g:List (rufact×Bool)} {s:List Bool} (hg:StR ar g s) {v8 v9:List Bool} (h8:v8.length=252) (h9:v9.length=252):∀ (d n m:Nat) (sure:List (rufact×Bool)) (t:List Bool),StR ar sure t→253≤sure.length+d→d≤n→d≤m →
  (∀ could next,LeastR (l.map toR) (memO sure) (memO g) could→LeastR (l.map toR) could (memO g) next→∀ x,memO sure x→next x) →
  ∃ a b ya yb,foundR fuel (l.map toR) g n sure=some (a,b)∧JZ fuel l s m v8 v9 t=some (ya,yb)∧StR ar a ya∧StR ar b yb∧FoundP (l.map toR) (memO g) (memO a) (memO b)
 | 0,n,m,sure,t,h,hd,_,_,_=>by
  have:=QS h.nt.n fun x hx=>(h.ar x hx).1
  rw[List.length_map]at this;omega
 | d+1,0,m,sure,t,h,hd,hn,hm,hi=>by omega
 | d+1,n+1,0,sure,t,h,hd,hn,hm,hi=>by omega
 | d+1,n+1,m+1,sure,t,h,hd,hn,hm,hi=>by
  have hLU:∀ r,r∈l.map toR→okL ar r:=fun r hr=>by
   obtain⟨q,hq,rfl⟩:=List.mem_map.1 hr;exact hL q hq
  have hlU:(l.map toR).length≤12:=by rw[List.length_map];exact hl
  obtain⟨could,a1,a2,a3,a4⟩:=NV hLU hlU hg.nt h.nt hg.ar (by omega:253≤fuel);obtain⟨next,b1,b2,b3,b4⟩:=NV hLU hlU hg.nt a2 hg.ar (by omega:253≤fuel);obtain⟨u,c1,c2,c3,c4⟩:=qaD hf hl hL hg.len h.len hg.arB;obtain⟨t2,e1,e2,e3,e4⟩:=qaD hf hl hL hg.len c2 hg.arB;have hcu:StR ar could u:=⟨a2,a3,c2,a4.same c4 h.same hg.same⟩;have hnt:StR ar next t2:=⟨b2,b3,e2,b4.same e4 hcu.same hg.same⟩;have hsub:=hi _ _ a4 b4;obtain⟨hle,heq⟩:=qhl h.nt b2 hsub
  have hsm:=QS b2.n fun x hx=>(b3 x hx).1
  rw[List.length_map]at hsm
  have hprog:foundR fuel (l.map toR) g (n+1) sure=bif next.length == sure.length then some (next,dropF could next) else chk (decide (sure.length<next.length∧next.length≤100000)) (foundR fuel (l.map toR) g n next):=by
   rw[foundR,a1];simp only[Option.bind_some];rw[b1];rfl
  have href:JZ fuel l s (m+1) v8 v9 t=bif t2 == t then JH t (Xd v8 v9 t) (List.range (Int.toNat 252)) 0 u else JZ fuel l s m v8 v9 t2:=by
   rw[JZ,ZU (decide_eq_true hg.len),ZU (decide_eq_true h.len),c1];simp only[Option.bind_some];rw[ZU (decide_eq_true ⟨c2,by simp⟩),ZU (decide_eq_true hg.len),ZU (decide_eq_true c2),e1];simp only[Option.bind_some];rw[ZU (decide_eq_true ⟨e2,by simp⟩),ZU (decide_eq_true e2),ZU (decide_eq_true h.len),ZU (decide_eq_true ⟨e2,h.len⟩),ZU (decide_eq_true h.len),ZU (qG (by simp)),ZU (decide_eq_true e2),ZU (decide_eq_true ⟨e2,h.len⟩)]
  by_cases hq:next.length=sure.length
  ·have hse:∀ x,memO next x↔memO sure x:=fun x=>⟨heq hq.symm x,hsub x⟩
   have ht:t2=t:=qgm e2 h.len fun x=>by rw[← hnt.same,← h.same];exact hse x
   rw[show (next.length == sure.length)=true by simp[hq],cond_true]at hprog;rw[ht,show (t == t)=true from beq_self_eq_true t,cond_true]at href;obtain⟨u',f1,f2,f3⟩:=DH h.len (Xd v8 v9 t) (List.range (Int.toNat 252)) 0 u c2 (by simp)
   have hd2:StR ar (dropF could next) u':=qfK hcu (ht ▸ hnt) f2 fun i=>by rw[f3,if_pos (Nat.zero_le _)]
   refine⟨next,dropF could next,t,u',hprog,?_,ht ▸ hnt,hd2,⟨memO could,?_,b4,fun x=>(NS hcu.nt).2 x⟩⟩
   ·rw[href,f1];unfold Xd;rw[ZU (decide_eq_true h.len),ZU (decide_eq_true f2),ZU (decide_eq_true ⟨h.len,h8⟩),ZU (decide_eq_true ⟨f2,h9⟩),ZU (decide_eq_true h.len),ZU (decide_eq_true f2)]
   ·have:memO next=memO sure:=funext fun x=>propext (hse x)
    rw[this];exact a4
  ·have hne:t2≠t:=fun e=>hq (by
    have hse:∀ x,memO next x↔memO sure x:=fun x=>by
     show x∈_↔x∈_;rw[hnt.same,h.same,e]
    have:=(NT.perm b2 h.nt hse).length_eq
    exact this)
   rw[show (next.length == sure.length)=false by simpa using hq,cond_false,ZU (decide_eq_true ⟨by omega,by omega⟩)]at hprog;rw[show (t2 == t)=false by simpa using hne,cond_false]at href;rw[hprog,href]
   refine Nf hf hl hL hg h8 h9 d n m next t2 hnt (by omega) (by omega) (by omega) fun could' next' q1 q2=>?_
   have h1:=a4.anti q1 hsub
   exact fun x hx=>q2.anti b4 h1 x hx
end Go.AM
namespace Go.AM
open Go.Proofs Go.Sort
open Classical
theorem qfd {g:rufact}:¬ setB (List.replicate 252 false) g:=fun h=>by
 have:=h.2;rw[List.getD_eq_getElem?_getD,List.getElem?_replicate]at this
 split at this <;> simp at this
theorem StR.empty {ar:Int→Nat}:StR ar [] (List.replicate 252 false):=⟨NT.empty,fun g hg=>by simp at hg,by simp,fun g=>⟨fun h=>by simp at h,fun h=>absurd h qfd⟩⟩
theorem qbS {fuel:Nat} (hf:300≤fuel) {l:List rf3Rule} {facts:List apiFact} (ho:okRules l) (hv:VR l facts) :
  ∃ a b ya yb ma mb,XK fuel (l.map toR) facts=some (ma,mb,0)∧Hh fuel l facts=some (ya,yb)∧StR (arVR l facts) a ya∧StR (arVR l facts) b yb∧FoundP (l.map toR) (fun g=>g∈facts.map toF) (memO a) (memO b)∧ma=sortF (apis a)∧mb=sortF (apis b)∧Vl fuel ya=some ma∧Vl fuel yb=some mb:=by
 have h20:=hv.2.1;obtain⟨g,s,g1,g2,g3⟩:=DC (by omega:facts.length≤100) hv.2.2.1 hv.facts_ar
 have hgm:memO g=fun x=>x∈facts.map toF:=funext fun x=>propext (by
  obtain⟨a1,a2,a3,a4⟩:=NT.empty.add (fr:=facts.map toF)
  have:QT facts=some (addF [] (facts.map toF)):=by
   unfold QT;rw[ZU (qG (by omega)),VV _ facts 0 [] hv.2.2.1 NT.empty (by simp;omega)];rfl
  rw[g1]at this;cases this;show x∈_↔_
  rw[a2];simp)
 obtain⟨a,b,ya,yb,r1,r2,r3,r4,r5⟩:=Nf hf (by have:=hv.1;omega:l.length≤12) hv.okL g3 (v8:=List.replicate 252 false) (v9:=List.replicate 252 false) (by simp) (by simp) 253 fuel fuel [] _ StR.empty (by simp) (by omega) (by omega) (fun _ _ _ _ x hx=>by cases hx);obtain⟨ma,a1,a2,a3,a4⟩:=Dx hf r3;obtain⟨mb,b1,b2,b3,b4⟩:=Dx hf r4
 have ea:ma=sortF (apis a):=by
  rw[ZC r3.nt (fun g hg=>(r3.ar g hg).1)]at a1;exact (Option.some.inj a1).symm
 have eb:mb=sortF (apis b):=by
  rw[ZC r4.nt (fun g hg=>(r4.ar g hg).1)]at b1;exact (Option.some.inj b1).symm
 rw[hgm]at r5;refine⟨a,b,ya,yb,ma,mb,?_,?_,r3,r4,r5,ea,eb,a2,b2⟩
 ·unfold XK Vy;rw[mvalid (by omega) ho hv.1 hv.2.2.2.1 (by omega) (fun f hf=>by have:=(hv.2.2.1 f hf).2.1.2;omega),decide_eq_true hv];simp only[Option.bind_some,cond_true];rw[g1];simp only[Option.bind_some];rw[r1];simp only[Option.bind_some];rw[show listP a=Jp a from rfl,a1];simp only[Option.bind_some];rw[show listP b=Jp b from rfl,b1];rfl
 ·unfold Hh;rw[g2];simp only[Option.bind_some];rw[ZU (decide_eq_true ⟨g3.len,by simp⟩)];exact r2
theorem qcQ {fuel:Nat} (hf:300≤fuel) {l:List rf3Rule} {facts:List apiFact} (ho:okRules l) (hv:¬ VR l facts):XK fuel ((l.take 12).map cvR) ((facts.take 26).map cvF)=some ([],[],2):=by
 unfold XK Vy;rw[Up (by omega) ho,decide_eq_false hv];rfl
theorem qgQ {l:List rf3Rule} {facts:List apiFact} (hv:VR l facts):(facts.take 26).map cvF=facts:=qcV (by have:=hv.2.1;omega) fun f hf=>by have:=(hv.2.2.1 f hf).2.1.2;omega
theorem qgo {l:List rf3Rule} {facts:List apiFact} (hv:VR l facts):(l.take 12).map cvR=l.map toR:=qcs hv.1 hv.2.2.2.1
theorem Db {out:List (rufact×Bool)} (ho:∀ g,g∈out.map Prod.fst→okU1 g):∀ f,f∈sortF (apis out)→f.qa.length≤1000:=fun f hf=>by
 obtain⟨g,hg,rfl⟩:=qcc.1 hf;have:=(qdp (ho g hg)).1.2.1.2;omega
theorem StR.len252 {ar:Int→Nat} {out:List (rufact×Bool)} {S:List Bool} (h:StR ar out S):out.length≤252:=by
 have:=QS h.nt.n fun x hx=>(h.ar x hx).1
 rw[List.length_map]at this;exact this
theorem De {w:List apiFact×List apiFact×Int} {K:Option Bool} (hw:lenOk w.1=true):∀ (l:List apiFact) (k:Nat),(∀ x,x∈l→x ∉ w.1∧lenOk x.qa=true)→qK w K l k=K
 | [],k,_=>by rw[qK]
 | x::l,k,h=>by
  obtain⟨h1,h2⟩:=h x (List.mem_cons_self ..);rw[qK,qdv hw h2,decide_eq_false h1];simp only[Option.bind_some,cond_false]
  exact De hw l (k+1) fun y hy=>h y (List.mem_cons_of_mem _ hy)
theorem UR {fuel:Nat} (hf:400≤fuel) {l:List rf3Rule} {facts:List apiFact} (hl:okRules l) (hfa:okFacts facts):QO fuel l facts=some true:=by
 obtain⟨n,rfl⟩:∃ n,fuel=n+30:=⟨fuel - 30,by omega⟩;have haw:=qfR n;unfold QO;rw[qhM hl.1 (fun r hr=>(hl.2 r hr).2.1),qfI hfa.1];simp only[Option.bind_some]
 by_cases hv:VR l facts
 ·rw[qgQ hv,qgo hv];have h20:=hv.2.1;obtain⟨a,b,ya,yb,ma,mb,h1,h2,h3,h4,⟨could,c1,c2,c3⟩,rfl,rfl,h8,h9⟩:=qbS (by omega:300≤n+30) hl hv
  have hoa:∀ g,g∈a.map Prod.fst→okU1 g:=fun g hg=>(h3.ar g hg).1
  have hob:∀ g,g∈b.map Prod.fst→okU1 g:=fun g hg=>(h4.ar g hg).1
  have hvalid:Qx (n+30) (l.map toR) facts=some true:=by
   rw[mvalid (by omega) hl hv.1 hv.2.2.2.1 (by omega) (fun f hf=>by have:=(hv.2.2.1 f hf).2.1.2;omega),decide_eq_true hv]
  have hdis:∀ x,x∈sortF (apis b)→x ∉ sortF (apis a)∧lenOk x.qa=true:=fun x hx=>by
   refine⟨fun hxa=>?_,qG (by have:=Db hob x hx;omega)⟩;obtain⟨g,hg,rfl⟩:=qcc.1 hx;obtain⟨g2,hg2,he⟩:=qcc.1 hxa;have:=qdo he;subst this;exact ((c3 _).1 hg).1 hg2
  rcases qdR (by omega:300≤n+30) hv.1 hv.okL (by omega) hv.2.2.1 hv.facts_ar with ⟨v,out,v1,v2,v3,m1,m2,m3,m4⟩ | ⟨m0,m1⟩
  ·have hM:Qz (n+30) (l.map toR) facts=some (sortF (apis out),0):=by
    unfold Qz;rw[hvalid];simp only[Option.bind_some,Bool.not_true,cond_false];rw[m1];simp only[Option.bind_some,Bool.not_true,cond_false];rw[ZC m2 fun g hg=>(m3 g hg).1];rfl
   have heq:=qfX v3 c2 c1
   have hst:LeastR (l.map toR) (memO a) (fun g=>g∈facts.map toF) (memO a):=by
    have e:could=memO a:=funext fun g=>propext (heq g).symm
    rw[e]at c1;exact c1
   have hout:=qfY v3 hst m4
   have hb0:b=[]:=by
    cases b with
    | nil=>rfl
    | cons p b =>
     have:=(c3 p.1).1 (by simp[memO]);exact absurd ((heq _).2 this.2) this.1
   subst hb0;have hpm:sortF (apis a)=sortF (apis out):=Uq ((NT.perm h3.nt m2 hout).map _);rw[hM];simp only[Option.bind_some];rw[h1];simp only[Option.bind_some];rw[show ((0:Int) != 0)=false from rfl,cond_false]
   have hs0:sortF (apis [])=[]:=by unfold sortF;simp
   rw[hs0,ZU (by rfl),qK];unfold qV;rw[show ((0:Int) == 8)=false from rfl,cond_false,show ((0:Int) == 0)=true from rfl,cond_true,hpm,qco (by rw[XI,List.length_map];have:=QS m2.n fun x hx=>(m3 x hx).1;rw[List.length_map]at this;omega) (Db fun g hg=>(m3 g hg).1)];simp only[Option.bind_some,cond_true];rw[show ((([]:List apiFact).length:Int) == 0)=true from rfl,cond_true,haw];rfl
  ·have hM:Qz (n+30) (l.map toR) facts=some ([],8):=by
    unfold Qz;rw[hvalid];simp only[Option.bind_some,Bool.not_true,cond_false];rw[m1];rfl
   rw[hM];simp only[Option.bind_some];rw[h1];simp only[Option.bind_some];rw[show ((0:Int) != 0)=false from rfl,cond_false,ZU (Ha h4.len252),De (Ha h3.len252) _ _ hdis];unfold qV;rw[show ((8:Int) == 8)=true from rfl,cond_true,haw];rfl
 ·have hM:Qz (n+30) ((l.take 12).map cvR) ((facts.take 26).map cvF)=some ([],2):=by
   unfold Qz;rw[Up (by omega) hl,decide_eq_false hv];rfl
  rw[hM];simp only[Option.bind_some];rw[qcQ (by omega) hl hv];simp only[Option.bind_some];rw[show ((2:Int) != 0)=true from rfl,cond_true,show ((2:Int) == 2)=true from rfl,cond_true,cond_true,haw];rfl
end Go.AM
