/- s -/
import Derived.Test.YtdghpfejmlpjhaaRL27
set_option maxRecDepth 100000
set_option linter.unusedVariables false
set_option linter.unusedSimpArgs false
namespace Go.AM
open Go.Proofs Go.Sort
open Classical
theorem qcH (K:ruRule→Option ruRule) (hr:Int) (ha:List Int):∀ (body:List ruLit) (k:Nat) (acc:List ruLit),(∀ b,b∈body→b.qc.qa.length≤1000)→acc.length+body.length≤1000→jO K body k hr ha acc=K ⟨⟨hr,ha⟩,acc++body⟩
  | [],k,acc,_,_=>by rw[jO,List.append_nil]
  | b::body,k,acc,hb,hl=>by
    rw[List.length_cons]at hl;rw[jO,NO (hb b (List.mem_cons_self ..))];simp only[Option.bind_some];rw[Vj (Xb (by omega) (by simp;omega)),qcH K hr ha body (k+1) _ (fun x hx=>hb x (List.mem_cons_of_mem _ hx)) (by simp;omega),List.append_assoc];rfl
theorem qdn {r:rf3Rule} (h:okR r):XK (toR r)=some (toR r):=by
  have h1:=h.1.2.1.2;have h2:=h.2.1
  have hx:∀ b,b∈(toR r).qe→b.qc.qa.length≤1000:=fun b hb=>by
    obtain⟨x,hx,rfl⟩:=List.mem_map.1 hb;have:=(h.2.2.1 x hx).2.1.2;show x.qc.qa.length≤1000;omega
  unfold XK;rw[NO (show (toR r).qd.qa.length≤1000 from by show r.qd.qa.length≤1000;omega)];simp only[Option.bind_some];rw[Vj (jh (by simp[toR];omega)),qcH _ _ _ _ 0 [] hx (by simp[toR];omega)];rfl
theorem qfK (K:rf3Rule→Option (List rf3Rule)) (hr:Int) (ha:List Int):∀ (body:List rf3Lit) (k:Nat) (acc:List rf3Lit),acc.length+body.length≤1000→QH K (body.map toL) k hr ha acc=K ⟨⟨hr,ha⟩,acc++body⟩
  | [],k,acc,_=>by rw[List.map_nil,QH,List.append_nil]
  | b::body,k,acc,hl=>by
    rw[List.length_cons]at hl;rw[List.map_cons,QH,Vj (Xb (by omega) (by simp;omega)),qfK K hr ha body (k+1) _ (by simp;omega),List.append_assoc];rfl
theorem qfL (K:List rf3Rule→Option (List rf3Rule)):∀ (l:List rf3Rule) (k:Nat) (acc:List rf3Rule),(∀ r,r∈l→r.qe.length≤3)→acc.length+l.length≤1000→Jp K (l.map toR) k acc=K (acc++l)
  | [],k,acc,_,_=>by rw[List.map_nil,Jp,List.append_nil]
  | r::l,k,acc,hb,hl=>by
    rw[List.length_cons]at hl;have h3:=hb r (List.mem_cons_self ..);have e2:(toR r).qe=r.qe.map toL:=rfl;rw[List.map_cons,Jp,e2,Vj (jh (by rw[List.length_map];omega)),qfK _ _ _ _ 0 [] (by simp;omega)];unfold QO;rw[List.nil_append,Vj (Xb (by omega) (by simp;omega)),qfL K l (k+1) _ (fun x hx=>hb x (List.mem_cons_of_mem _ hx)) (by simp;omega),List.append_assoc];rfl
theorem qgF {l:List rf3Rule} (hl:l.length≤100) (hb:∀ r,r∈l→r.qe.length≤3):UT (l.map toR)=some l:=by
  unfold UT;rw[Vj (jh (by rw[List.length_map];omega)),qfL _ l 0 [] hb (by simp;omega)];rfl
theorem qeo {α:Type} {p r:List α} {x:α}:idx (p++x::r) (p.length:Int)=some x:=by
  unfold idx;rw[if_pos (by omega),Int.toNat_natCast,List.getElem?_append_right (Nat.le_refl _),Nat.sub_self];rfl
theorem DE {a:rf2Atom} (h:a.qa.length≤1000):YT a a=some true:=by
  unfold YT;rw[beq_self_eq_true,cond_true,qaH (jh (by omega)),decide_eq_true rfl];rfl
theorem qcE {a2:List rf3Lit} {g:rf3Lit→rf3Lit→Option Bool} (K:Option Bool):∀ (r p:List rf3Lit),a2=p++r→(∀ x,x∈r→g x x=some true)→qN a2 g K r p.length=K
  | [],p,_,_=>by rw[qN]
  | x::r,p,h,hg=>by
    have hi:idx a2 (p.length:Int)=some x:=by rw[h];exact qeo
    rw[qN,hi];simp only[Option.bind_some];rw[hg x (List.mem_cons_self ..)];simp only[Option.bind_some,Bool.not_true,cond_false]
    have:=qcE (a2:=a2) (g:=g) K r (p++[x]) (by rw[h,List.append_assoc];rfl) fun y hy=>hg y (List.mem_cons_of_mem _ hy)
    rw[List.length_append]at this;exact this
theorem qaI {a2:List rf3Rule} {g:rf3Rule→rf3Rule→Option Bool} (K:Option Bool):∀ (r p:List rf3Rule),a2=p++r→(∀ x,x∈r→g x x=some true)→qH a2 g K r p.length=K
  | [],p,_,_=>by rw[qH]
  | x::r,p,h,hg=>by
    have hi:idx a2 (p.length:Int)=some x:=by rw[h];exact qeo
    rw[qH,hi];simp only[Option.bind_some];rw[hg x (List.mem_cons_self ..)];simp only[Option.bind_some,Bool.not_true,cond_false]
    have:=qaI (a2:=a2) (g:=g) K r (p++[x]) (by rw[h,List.append_assoc];rfl) fun y hy=>hg y (List.mem_cons_of_mem _ hy)
    rw[List.length_append]at this;exact this
theorem qeC {l:List rf3Rule} (hl:l.length≤100) (h:∀ r,r∈l→okR r):VB l l=some true:=by
  have h1:∀ x,x∈l→XX x x=some true:=fun x hx=>by
    have hx:=h x hx;have h2:=hx.2.1;unfold XX;rw[DE (by have:=hx.1.2.1.2;omega)];simp only[Option.bind_some,cond_true];unfold QI
    have:=qcE (a2:=x.qe) (g:=fun y0 y1=>XD y0 y1) js x.qe [] rfl (fun b hb=>by
      unfold XD;rw[beq_self_eq_true,cond_true,DE (by have:=(hx.2.2.1 b hb).2.1.2;omega)]
      rfl)
    rw[show ((x.qe.length:Int) != (x.qe.length:Int))=false by simp,cond_false,Vj (jh (by omega))];rw[List.length_nil]at this;rw[this];rfl
  unfold VB Qz;have:=qaI (a2:=l) (g:=fun y0 y1=>XX y0 y1) jj l [] rfl h1;rw[show ((l.length:Int) != (l.length:Int))=false by simp,cond_false,Vj (jh (by omega))];rw[List.length_nil]at this;rw[this];rfl
theorem qeg (v:Int) (K:List ruRule→Option (List ruRule×Int)):∀ (l:List rf3Rule) (k:Nat) (acc:List ruRule),(∀ r,r∈l→okR r)→acc.length+l.length≤1000→jZ v K (l.map toR) k acc=K (acc++(l.filter fun r=>bitS v r.qd.qb.toNat).map toR)
  | [],k,acc,_,_=>by rw[List.map_nil,jZ];simp
  | r::l,k,acc,h,hl=>by
    rw[List.length_cons]at hl;have hr:=h r (List.mem_cons_self ..);have h6:rel6 r.qd.qb:=hr.1.1;have e:(toR r).qd.qb=r.qd.qb:=rfl;rw[List.map_cons,jZ,e,Vj (decide_eq_true h6.1),test1 h6,List.filter_cons];unfold Xf
    have ih:=fun a (ha:a.length+l.length≤1000)=>qeg v K l (k+1) a (fun x hx=>h x (List.mem_cons_of_mem _ hx)) ha
    cases bitS v r.qd.qb.toNat with
    | true =>
      rw[cond_true,qdn hr];simp only[Option.bind_some];rw[Vj (Xb (by omega) (by simp;omega)),ih _ (by simp;omega)]
      simp
    | false =>
      rw[cond_false,ih _ (by omega)]
      simp
theorem qbZ (v:List Bool) (hv:v.length=6) (K:List rf3Rule→Option (List rf3Rule)):∀ (l:List rf3Rule) (k:Nat) (acc:List rf3Rule),(∀ r,r∈l→okR r)→acc.length+l.length≤1000→jQ v K l k acc=K (acc++l.filter fun r=>v.getD r.qd.qb.toNat false)
  | [],k,acc,_,_=>by rw[jQ];simp
  | r::l,k,acc,h,hl=>by
    rw[List.length_cons]at hl;have hr:=h r (List.mem_cons_self ..);have h6:rel6 r.qd.qb:=hr.1.1;rw[jQ,Vj (dec6b h6),get6b hv h6,List.filter_cons];simp only[Option.bind_some];unfold QL
    have ih:=fun a (ha:a.length+l.length≤1000)=>qbZ v hv K l (k+1) a (fun x hx=>h x (List.mem_cons_of_mem _ hx)) ha
    cases v.getD r.qd.qb.toNat false with
    | true =>
      rw[cond_true,Vj (Xb (by omega) (by simp;omega)),ih _ (by simp;omega)]
      simp
    | false =>
      rw[cond_false,ih _ (by omega)]
      simp
theorem qcn {fuel:Nat} (hf:20≤fuel) {l:List rf3Rule} (ho:okRules l) {facts:List apiFact} (hv:VR l facts) (hv0:VR l []) {rel:Int} (hr:rel6 rel) :
    ∃ L,L.Sublist l∧Yv fuel (l.map toR) rel=some (L.map toR,0)∧Zb l rel=some L∧∃ D,NeedN l rel.toNat D∧∀ r,r∈L↔r∈l∧D r.qd.qb.toNat:=by
  have hl10:=hv.1;have hrels:=qcf hv.okL;have hokR:=hv.2.2.2.1;have hlt:=Vv hr
  have hs1:wf64 (iShl .i64 1 rel):=by
   rw[Hw hr];unfold wf64;have:(2:Nat) ^ rel.toNat≤2 ^ 6:=Nat.pow_le_pow_right (by omega) (by omega);have e:(2:Nat) ^ 6=64:=by decide
   generalize 2 ^ rel.toNat=m at this;omega
  have hb1:∀ i,bitsP (iShl .i64 1 rel) i↔i=rel.toNat:=fun i=>by
    unfold bitsP
    constructor
    · rintro⟨h1,h2⟩
      rw[qbC hs1 (by omega),Hw hr,qgs (by omega),decide_eq_true_eq]at h2;exact h2
    · intro h
      exact⟨by omega,by rw[qbC hs1 (by omega),Hw hr,qgs (by omega),decide_eq_true h]⟩
  obtain⟨v,a1,a2,a3⟩:=qeh (by omega:l.length≤100) hrels (qP (l.map toR)) (rel:=rel.toNat) 8 fuel (iShl .i64 1 rel) true hs1 (by rw[if_pos rfl];omega) (by omega) ((hb1 _).2 rfl) (fun Q q1 q2 i hi=>by rw[(hb1 i).1 hi];exact q1) (fun h=>by cases h)
  have hv0l:((List.replicate 6 false).set rel.toNat true).length=6:=by simp
  have hn1:∀ i,setN ((List.replicate 6 false).set rel.toNat true) i↔i=rel.toNat:=fun i=>by
    unfold setN;rw[qaA (by simp;omega)]
    by_cases h:i=rel.toNat
    · rw[if_pos h];exact⟨fun _=>h,fun _=>rfl⟩
    · rw[if_neg h,List.getD_eq_getElem?_getD,List.getElem?_replicate]
      constructor
      · intro q;split at q <;> simp at q
      · intro q;exact absurd q h
  have hc1:1≤cntB6 ((List.replicate 6 false).set rel.toNat true):=List.countP_pos_iff.2 ⟨rel.toNat,List.mem_range.2 hlt,(hn1 _).2 rfl⟩;obtain⟨u,b1,b2,b3⟩:=qcc (by omega:l.length≤100) hrels (qA l) (rel:=rel.toNat) (List.range (Int.toNat 6)) 0 ((List.replicate 6 false).set rel.toNat true) hv0l ((hn1 _).2 rfl) (fun Q q1 q2 i hi=>by rw[(hn1 i).1 hi];exact q1) (.inr (by simp at hc1 ⊢;omega))
  have hsame:=fun i=>a3.same b3 i
  have hfil:(l.filter fun r=>bitS v r.qd.qb.toNat)=l.filter fun r=>u.getD r.qd.qb.toNat false:=by
    refine List.filter_congr fun r hrm=>?_
    have h6:rel6 r.qd.qb:=(hokR r hrm).1.1;rw[Bool.eq_iff_iff];have:=hsame r.qd.qb.toNat;exact⟨fun h=>this.1 ⟨Vv h6,h⟩,fun h=>(this.2 h).2⟩
  refine⟨l.filter fun r=>u.getD r.qd.qb.toNat false,List.filter_sublist,?_,?_,setN u,b3,fun r=>List.mem_filter⟩
  · unfold Yv
    have hval:=Uq (fuel:=fuel) (by omega) (facts:=[]) ho;rw[HZ hv0,show (([]:List apiFact).take 26).map cvF=[] from rfl,decide_eq_true hv0]at hval;rw[hval];simp only[Option.bind_some,Bool.not_true,cond_false];rw[decide_eq_false (by have:=hr.1;omega:¬ rel<0),cond_false,decide_eq_false (by have:=hr.2;omega:¬ rel ≥ 6)];unfold QU;rw[cond_false,Vj (decide_eq_true hr.1),a1];unfold qP;rw[Vj (jh (by rw[List.length_map];omega)),qeg v _ l 0 [] hokR (by simp;omega),hfil];rfl
  · unfold Zb
    have e4:0+Int.toNat rel * 1=rel.toNat:=by omega
    rw[Vj (dec6b hr),e4,Vj (decide_eq_true (by simp;omega)),Vj (jh (by simp)),b1];unfold qA;rw[Vj (jh (by omega)),qbZ u b2 _ l 0 [] hokR (by simp;omega)];rfl
theorem Dh {fuel:Nat} (hf:20≤fuel) {l:List rf3Rule} (ho:okRules l) {rel:Int} (h:¬ (VR l []∧rel6 rel)):Yv fuel ((l.take 12).map cvR) rel=some ([],2):=by
  have hval:=Uq (fuel:=fuel) (by omega) (facts:=[]) ho;rw[show (([]:List apiFact).take 26).map cvF=[] from rfl]at hval;unfold Yv;rw[hval];simp only[Option.bind_some]
  by_cases hv:VR l []
  · rw[decide_eq_true hv,Bool.not_true,cond_false]
    by_cases h0:rel<0
    · rw[decide_eq_true h0,cond_true];rfl
    · rw[decide_eq_false h0,cond_false,decide_eq_true (Classical.byContradiction fun q=>h ⟨hv,by unfold rel6;omega⟩:rel ≥ 6)]
      rfl
  · rw[decide_eq_false hv];rfl
theorem NW:okFacts []:=⟨by decide,fun f hf=>by simp at hf⟩
theorem ND {fuel:Nat} (hf:400≤fuel) {l:List rf3Rule} {rel:Int} (hl:okRules l):XS fuel l rel=some true:=by
  obtain⟨n,rfl⟩:∃ n,fuel=n+30:=⟨fuel - 30,by omega⟩;have haw:=qfh n;have hof:=qgY hl.1 (fun r hr=>(hl.2 r hr).2.1);have hval:=Uq (fuel:=n+30) (by omega) (facts:=[]) hl;rw[show (([]:List apiFact).take 26).map cvF=[] from rfl]at hval;unfold XS VQ;rw[hof];simp only[Option.bind_some];rw[hval];simp only[Option.bind_some]
  by_cases hv:VR l []
  · have hS:∃ s c,(((Xz (n+30) (l.map toR)).bind fun w8=>(bif (!w8.2) then (some (([]:(List Int)),8)) else (some (w8.1,0))))=some (s,c))∧QV l=some (s,c)∧s.length≤6:=by
      rcases qbR (by omega:100≤n+30) hv.1 (by rw[List.length_map];exact hv.1) (qcf hv.okL) (qfG hv.okL) (qgd l) with ⟨v,hv5,_,s1,s2⟩ | ⟨s1,s2⟩
      · exact⟨v,0,by rw[s2];rfl,s1,by rw[hv5.1];omega⟩
      · exact⟨[],8,by rw[s2];rfl,s1,by simp⟩
    obtain⟨s,c,s1,s2,s3⟩:=hS
    have hfin:∀ w9:List ruRule×Int,((Yw l ([]:List apiFact)).bind fun w12=>(bif (!w12) then (bif ((IntKind.wrap .i64 ((s.length:Int)+(w9.1.length:Int))) == 0) then (bif (c == 2) then (bif (w9.2 == 2) then ((Yf (n+30)).bind fun w14=>((qV) w14)) else ((qV) false)) else ((qV) false)) else ((qV) false)) else ((QV l).bind fun w17=>((Qg s w17.1).bind fun w20=>(bif (!w20) then ((jn (n+30) l rel w9) true) else ((jn (n+30) l rel w9) (c != w17.2)))))))=jn (n+30) l rel w9 false:=fun w9=>by
      rw[UP hl NW,decide_eq_true hv];simp only[Option.bind_some,Bool.not_true,cond_false];rw[s2];simp only[Option.bind_some];rw[qaH (jh (by omega)),decide_eq_true rfl];simp only[Option.bind_some,Bool.not_true,cond_false,bne_self_eq_false]
    rw[decide_eq_true hv];simp only[Bool.not_true,cond_false];rw[HZ hv,s1];simp only[Option.bind_some]
    by_cases hr:rel6 rel
    · obtain⟨L,h1,h2,h3,D,h4,h5⟩:=qcn (by omega:20≤n+30) hl hv hv hr
      rw[h2];simp only[Option.bind_some];refine (hfin (L.map toR,0)).trans ?_;unfold jn;rw[cond_false,decide_eq_false (by have:=hr.1;omega:¬ rel<0),cond_false,decide_eq_false (by have:=hr.2;omega:¬ rel > 5)];unfold jT
      have hLl:L.length≤100:=by have:=h1.length_le;have:=hv.1;omega
      rw[cond_false,qgF hLl (fun r hr=>(hv.2.2.2.1 r (h1.subset hr)).2.1),h3];simp only[Option.bind_some];rw[qeC hLl fun r hr=>hv.2.2.2.1 r (h1.subset hr)];simp only[Option.bind_some,cond_true];rw[show ((0:Int) == 0)=true from rfl,cond_true,haw];rfl
    · have hn:=Dh (by omega:20≤n+30) hl (rel:=rel) (fun h=>hr h.2)
      rw[HZ hv]at hn;rw[hn];simp only[Option.bind_some];refine (hfin ([],2)).trans ?_
      have j24:jT (n+30) l rel ([],2) true=some true:=by
        unfold jT;rw[cond_true,show ((([]:List ruRule).length:Int) == 0)=true from rfl,cond_true,show ((2:Int) == 2)=true from rfl,cond_true,haw];rfl
      unfold jn;rw[cond_false]
      by_cases h0:rel<0
      · rw[decide_eq_true h0,cond_true];exact j24
      · rw[decide_eq_false h0,cond_false,decide_eq_true (Classical.byContradiction fun q=>hr (by unfold rel6;omega):rel > 5)]
        exact j24
  · rw[decide_eq_false hv]
    simp only[Bool.not_false,cond_true,Option.bind_some];rw[Dh (by omega:20≤n+30) hl (fun h=>hv h.1)];simp only[Option.bind_some];rw[UP hl NW,decide_eq_false hv];simp only[Option.bind_some,Bool.not_false,cond_true];rw[show ((IntKind.wrap .i64 ((([]:List Int).length:Int)+(([]:List ruRule).length:Int))) == 0)=true from rfl,cond_true,show ((2:Int) == 2)=true from rfl,cond_true,cond_true,haw];rfl
end Go.AM
