/- s -/
import Derived.Test.YtdghpfejmlpjhaaRL26
set_option maxRecDepth 100000
set_option linter.unusedVariables false
set_option linter.unusedSimpArgs false
namespace Go.AM
open Go.Proofs Go.Sort
open Classical
theorem qea {r:Int} (h:rel6 r):r=((r.toNat:Nat):Int):=by have:=h.1;omega
theorem Ve {r:Int} (h:rel6 r):r.toNat<6:=by have:=h.1;have:=h.2;omega
theorem qfl (x:Int):((iAnd .i64 x 1) == 0)=!((iAnd .i64 x 1) == 1):=by
 rw[Bool.eq_iff_iff,beq_iff_eq,Bool.not_eq_true',← Bool.not_eq_true,beq_iff_eq]
 constructor
 ·intro h h1;rw[h]at h1;cases h1
 ·intro h
  have hz:V (iAnd .i64 x 1)=V 0:=by
   rw[qgt]
   refine BitVec.eq_of_getLsbD_eq fun i hi=>?_
   rw[BitVec.getLsbD_and]
   have e0:(V 0).getLsbD i=false:=by
    show (0#64).getLsbD i=false
    simp
   rw[e0]
   by_cases hi0:i=0
   ·subst hi0
    cases hb:(V x).getLsbD 0 with
    | false=>rfl
    | true =>
     exfalso;refine h (qgs (qcI _ _) (by unfold wf64;omega) ?_);rw[qgt]
     refine BitVec.eq_of_getLsbD_eq fun j hj=>?_
     rw[BitVec.getLsbD_and]
     by_cases hj0:j=0
     ·subst hj0;rw[hb];rfl
     ·have:(V 1).getLsbD j=false:=by
       show (1#64).getLsbD j=false;rw[BitVec.getLsbD_one]
       simp[hj0]
      rw[this,Bool.and_false]
   ·have:(V 1).getLsbD i=false:=by
     show (1#64).getLsbD i=false;rw[BitVec.getLsbD_one]
     simp[hi0]
    rw[this,Bool.and_false]
  exact qgs (qcI _ _) (by unfold wf64;omega) hz
theorem test1 {v r:Int} (hr:rel6 r):((iAnd .i64 (iShr .i64 v r) 1) == 1)=bitS v r.toNat:=by
 unfold bitS;rw[← qea hr]
theorem test0 {v r:Int} (hr:rel6 r):((iAnd .i64 (iShr .i64 v r) 1) == 0)=!bitS v r.toNat:=by
 rw[qfl,test1 hr]
theorem qgr {n:Nat} (hn:n<62) (i:Nat):(V ((2 ^ n:Nat):Int)).getLsbD i=decide (i=n):=by
 unfold V;rw[BitVec.ofInt_natCast,BitVec.getLsbD_ofNat,Nat.testBit_two_pow];rw[Bool.eq_iff_iff];simp only[Bool.and_eq_true,decide_eq_true_eq];omega
theorem Hj {r:Int} (hr:rel6 r):iShl .i64 1 r=((2 ^ r.toNat:Nat):Int):=by
 have h:=qgD (n:=r.toNat) (by have:=Ve hr;omega);rw[← qea hr]at h;exact h
theorem qdI {v r:Int} (hv:wf64 v) (hr:rel6 r) {i:Nat} (hi:i<64):bitS (iOr .i64 v (iShl .i64 1 r)) i=(bitS v i || decide (i=r.toNat)):=by
 rw[qbn (qgR _ _) hi,qbn hv hi,V_or,BitVec.getLsbD_or,Hj hr,qgr (by have:=Ve hr;omega)]
def ClosedN (l:List rf3Rule) (D:Nat→Prop):Prop:=∀ r,r∈l→D r.qc.qb.toNat→∀ b,b∈r.qd→D b.qe.qb.toNat
structure NeedN (l:List rf3Rule) (rel:Nat) (D:Nat→Prop):Prop where
 at':D rel
 closed:ClosedN l D
 least:∀ Q:Nat→Prop,Q rel→ClosedN l Q→∀ i,D i→Q i
 lt:∀ i,D i→i<6
theorem NeedN.same {l:List rf3Rule} {rel:Nat} {D E:Nat→Prop} (h:NeedN l rel D) (k:NeedN l rel E) (i:Nat):D i↔E i:=⟨h.least E k.at' k.closed i,k.least D h.at' h.closed i⟩
def bitsP (v:Int):Nat→Prop:=fun i=>i<6∧bitS v i=true
theorem qba (K:Int→Bool→Option (List ruRule×Int)):∀ (body:List rf3Lit) (k:Nat) (v:Int) (c:Bool),wf64 v→(∀ b,b∈body→rel6 b.qe.qb) →
  ∃ v' c',jD K (body.map toL) k v c=K v' c'∧wf64 v'∧(∀ i,bitsP v' i↔bitsP v i∨∃ b,b∈body∧i=b.qe.qb.toNat)∧(c'=true↔c=true∨∃ b,b∈body∧¬ bitsP v b.qe.qb.toNat)
 | [],k,v,c,hv,_=>⟨v,c,by rw[List.map_nil,jD],hv,fun i=>by simp,by simp⟩
 | b::body,k,v,c,hv,hb=>by
  have h6:=hb b (List.mem_cons_self ..);have hlt:=Ve h6
  have hb':=fun x (hx:x∈body)=>hb x (List.mem_cons_of_mem _ hx)
  have e:(toL b).qe.qb=b.qe.qb:=rfl;rw[List.map_cons,jD,e,ZJ (decide_eq_true h6.1),test0 h6];unfold Qv
  cases hq:bitS v b.qe.qb.toNat with
  | true =>
   rw[Bool.not_true,cond_false];obtain⟨v',c',a1,a2,a3,a4⟩:=qba K body (k+1) v c hv hb';refine⟨v',c',a1,a2,fun i=>?_,?_⟩
   ·rw[a3]
    constructor
    ·rintro (h | ⟨x,hx,he⟩)
     ·exact .inl h
     ·exact .inr ⟨x,List.mem_cons_of_mem _ hx,he⟩
    ·rintro (h | ⟨x,hx,he⟩)
     ·exact .inl h
     ·rcases List.mem_cons.1 hx with rfl | hx
      ·exact .inl ⟨by omega,he ▸ hq⟩
      ·exact .inr ⟨x,hx,he⟩
   ·rw[a4]
    constructor
    ·rintro (h | ⟨x,hx,he⟩)
     ·exact .inl h
     ·exact .inr ⟨x,List.mem_cons_of_mem _ hx,he⟩
    ·rintro (h | ⟨x,hx,he⟩)
     ·exact .inl h
     ·rcases List.mem_cons.1 hx with rfl | hx
      ·exact absurd ⟨hlt,hq⟩ he
      ·exact .inr ⟨x,hx,he⟩
  | false =>
   rw[Bool.not_false,cond_true,ZJ (decide_eq_true h6.1)]
   have hor:∀ i,bitsP (iOr .i64 v (iShl .i64 1 b.qe.qb)) i↔bitsP v i∨i=b.qe.qb.toNat:=fun i=>by
    unfold bitsP
    constructor
    ·rintro⟨h1,h2⟩
     rw[qdI hv h6 (by omega),Bool.or_eq_true,decide_eq_true_eq]at h2;exact h2.imp (fun h=>⟨h1,h⟩) id
    ·rintro (⟨h1,h2⟩ | h)
     ·exact⟨h1,by rw[qdI hv h6 (by omega),h2,Bool.true_or]⟩
     ·exact⟨by omega,by rw[qdI hv h6 (by omega),decide_eq_true h,Bool.or_true]⟩
   obtain⟨v',c',a1,a2,a3,a4⟩:=qba K body (k+1) _ true (qgR _ _) hb';refine⟨v',c',a1,a2,fun i=>?_,?_⟩
   ·rw[a3,hor]
    constructor
    ·rintro ((h | h) | ⟨x,hx,he⟩)
     ·exact .inl h
     ·exact .inr ⟨b,List.mem_cons_self ..,h⟩
     ·exact .inr ⟨x,List.mem_cons_of_mem _ hx,he⟩
    ·rintro (h | ⟨x,hx,he⟩)
     ·exact .inl (.inl h)
     ·rcases List.mem_cons.1 hx with rfl | hx
      ·exact .inl (.inr he)
      ·exact .inr ⟨x,hx,he⟩
   ·rw[a4];exact⟨fun _=>.inr ⟨b,List.mem_cons_self ..,fun h=>by rw[h.2]at hq;cases hq⟩,fun _=>.inl rfl⟩
theorem qbb (N1:Int→Bool→Option (List ruRule×Int)):∀ (l:List rf3Rule) (k:Nat) (v:Int) (c:Bool),wf64 v→relsR l →
  ∃ v' c',qO N1 (l.map toR) k v c=N1 v' c'∧wf64 v'∧(∀ i,bitsP v i→bitsP v' i)∧(∀ Q:Nat→Prop,(∀ i,bitsP v i→Q i)→ClosedN l Q→∀ i,bitsP v' i→Q i)∧(c'=true→c=true∨∃ i,bitsP v' i∧¬ bitsP v i)∧(c'=false→(∀ i,bitsP v' i→bitsP v i)∧ClosedN l (bitsP v))∧(c=true→c'=true)
 | [],k,v,c,hv,_=>⟨v,c,by rw[List.map_nil,qO],hv,fun _ h=>h,fun Q h _=>h,fun h=>.inl h,fun _=>⟨fun _ h=>h,fun r hr=>by simp at hr⟩,id⟩
 | r::l,k,v,c,hv,hr=>by
  obtain⟨h6,h3,hb⟩:=hr r (List.mem_cons_self ..)
  have hr':relsR l:=fun x hx=>hr x (List.mem_cons_of_mem _ hx)
  have e:(toR r).qc.qb=r.qc.qb:=rfl;have e2:(toR r).qd=r.qd.map toL:=rfl;rw[List.map_cons,qO,e,ZJ (decide_eq_true h6.1),test0 h6,e2];unfold jM
  cases hq:bitS v r.qc.qb.toNat with
  | false =>
   rw[Bool.not_false,cond_true];obtain⟨v',c',a1,a2,a3,a4,a5,a6,a7⟩:=qbb N1 l (k+1) v c hv hr';refine⟨v',c',a1,a2,a3,fun Q q1 q2=>a4 Q q1 fun x hx=>q2 x (List.mem_cons_of_mem _ hx),a5,fun hc=>⟨(a6 hc).1,fun x hx hh=>?_⟩,a7⟩
   rcases List.mem_cons.1 hx with rfl | hx
   ·rw[hh.2]at hq;cases hq
   ·exact (a6 hc).2 x hx hh
  | true =>
   rw[Bool.not_true,cond_false,ZJ (qN (by rw[List.length_map];omega))];obtain⟨v1,c1,b1,b2,b3,b4⟩:=qba (fun v37 v38=>qO N1 (l.map toR) (k+1) v37 v38) r.qd 0 v c hv hb;obtain⟨v',c',a1,a2,a3,a4,a5,a6,a7⟩:=qbb N1 l (k+1) v1 c1 b2 hr'
   have hsub:∀ i,bitsP v i→bitsP v1 i:=fun i h=>(b3 i).2 (.inl h)
   refine⟨v',c',b1.trans a1,a2,fun i h=>a3 i (hsub i h),fun Q q1 q2=>a4 Q (fun i hi=>?_) fun x hx=>q2 x (List.mem_cons_of_mem _ hx),fun hc=>?_,fun hc=>?_,fun hc=>a7 (b4.2 (.inl hc))⟩
   ·rcases (b3 i).1 hi with h | ⟨b,hbm,rfl⟩
    ·exact q1 i h
    ·exact q2 r (List.mem_cons_self ..) (q1 _ ⟨Ve h6,hq⟩) b hbm
   ·rcases a5 hc with h | ⟨i,h1,h2⟩
    ·rcases b4.1 h with h | ⟨b,hbm,hn⟩
     ·exact .inl h
     ·exact .inr ⟨_,a3 _ ((b3 _).2 (.inr ⟨b,hbm,rfl⟩)),hn⟩
    ·exact .inr ⟨i,h1,fun h=>h2 (hsub i h)⟩
   ·obtain⟨g1,g2⟩:=a6 hc
    have hc1:c1=false:=by
     cases hcc:c1 with
     | false=>rfl
     | true=>rw[a7 hcc]at hc;cases hc
    have hno:∀ b,b∈r.qd→bitsP v b.qe.qb.toNat:=fun b hbm=>Classical.byContradiction fun hn=>by
     have:=b4.2 (.inr ⟨b,hbm,hn⟩);rw[hc1]at this;cases this
    have hback:∀ i,bitsP v1 i→bitsP v i:=fun i hi=>by
     rcases (b3 i).1 hi with h | ⟨b,hbm,rfl⟩
     ·exact h
     ·exact hno b hbm
    refine⟨fun i hi=>hback i (g1 i hi),fun x hx hh b hbm=>?_⟩
    rcases List.mem_cons.1 hx with rfl | hx
    ·exact hno b hbm
    ·exact hback _ (g2 x hx (hsub _ hh) b hbm)
def cnt6 (v:Int):Nat:=(List.range 6).countP fun i=>bitS v i
theorem qgP {v v':Int} (h:∀ i,bitsP v i→bitsP v' i) {i:Nat} (h1:bitsP v' i) (h2:¬ bitsP v i):cnt6 v<cnt6 v':=by
 refine Zq (x:=i) (fun y hy hq=>(h y ⟨List.mem_range.1 hy,hq⟩).2) (List.mem_range.2 h1.1) h1.2 ?_
 cases hb:bitS v i with
 | false=>rfl
 | true=>exact absurd ⟨h1.1,hb⟩ h2
theorem qem (v:Int):cnt6 v≤6:=by
 have:=List.countP_le_length (p:=fun i=>bitS v i) (l:=List.range 6)
 simpa[cnt6] using this
theorem qee {l:List rf3Rule} (hl:l.length≤100) (hr:relsR l) (K:Int→Option (List ruRule×Int)) {rel:Nat}:∀ (d m:Nat) (v:Int) (c:Bool),wf64 v→(if c=true then 8≤cnt6 v+d else 1≤d)→d≤m→bitsP v rel→(∀ Q:Nat→Prop,Q rel→ClosedN l Q→∀ i,bitsP v i→Q i)→(c=false→ClosedN l (bitsP v)) →
  ∃ v',qL (l.map toR) K m v c=K v'∧wf64 v'∧NeedN l rel (bitsP v')
 | 0,m,v,c,hv,hd,hm,hb,hQ,hc=>by
  cases c with
  | true=>have:=qem v;rw[if_pos rfl]at hd;omega
  | false=>rw[if_neg (by simp)]at hd;omega
 | d+1,0,v,c,hv,hd,hm,hb,hQ,hc=>by omega
 | d+1,m+1,v,c,hv,hd,hm,hb,hQ,hc=>by
  rw[qL]
  cases c with
  | false =>
   rw[cond_false];exact⟨v,rfl,hv,hb,hc rfl,hQ,fun i h=>h.1⟩
  | true =>
   rw[if_pos rfl]at hd;rw[cond_true,ZJ (qN (by rw[List.length_map];omega))];obtain⟨v',c',a1,a2,a3,a4,a5,a6,a7⟩:=qbb (qL (l.map toR) K m) l 0 v false hv hr
   obtain⟨v2,b1,b2,b3⟩:=qee hl hr K d m v' c' a2 (by
    cases hcc:c' with
    | true =>
     rw[if_pos rfl]
     rcases a5 hcc with h | ⟨i,h1,h2⟩
     ·cases h
     ·have:=qgP a3 h1 h2;omega
    | false=>rw[if_neg (by simp)];have:=qem v;omega) (by omega) (a3 _ hb) (fun Q q1 q2=>a4 Q (fun i hi=>hQ Q q1 q2 i hi) q2) (fun hcc=>by
    obtain⟨g1,g2⟩:=a6 hcc
    exact fun r hr hh b hbm=>a3 _ (g2 r hr (g1 _ hh) b hbm))
   exact⟨v2,a1.trans b1,b2,b3⟩
def setN (v:List Bool):Nat→Prop:=fun i=>v.getD i false=true
theorem qdT {v:List Bool} (hv:v.length=6) {i:Nat} (h:setN v i):i<6:=by
 refine Classical.byContradiction fun hn=>?_
 unfold setN at h;rw[List.getD_eq_getElem?_getD,List.getElem?_eq_none (by omega)]at h;cases h
theorem get6b {v:List Bool} (hv:v.length=6) {r:Int} (hr:rel6 r):v[0+Int.toNat r * 1]? = some (v.getD r.toNat false):=by
 have:=Ve hr;rw[Nat.zero_add,Nat.mul_one,List.getD_eq_getElem?_getD,List.getElem?_eq_getElem (by omega)];rfl
theorem dec6b {r:Int} (hr:rel6 r):decide ((0:Int)≤r∧r<((6:Nat):Int)∧0<1)=true:=decide_eq_true ⟨hr.1,by have:=hr.2;omega,by omega⟩
theorem qbI (x:rf3Rule) (hx:rel6 x.qc.qb) (K:List Bool→Option (List rf3Rule)):∀ (body:List rf3Lit) (k:Nat) (v:List Bool),v.length=6→(∀ b,b∈body→rel6 b.qe.qb) →
  ∃ v',Qd x K body k v=K v'∧v'.length=6∧∀ i,setN v' i↔setN v i∨(setN v x.qc.qb.toNat∧∃ b,b∈body∧i=b.qe.qb.toNat)
 | [],k,v,hv,_=>⟨v,by rw[Qd],hv,fun i=>by simp⟩
 | b::body,k,v,hv,hb=>by
  have h6:=hb b (List.mem_cons_self ..);have hlt:=Ve h6
  have hb':=fun x (hx:x∈body)=>hb x (List.mem_cons_of_mem _ hx)
  have e3:decide ((0+Int.toNat b.qe.qb * 1)<v.length)=true:=decide_eq_true (by omega)
  have e4:0+Int.toNat b.qe.qb * 1=b.qe.qb.toNat:=by omega
  have key:∀ u:Bool,(u=true↔setN v b.qe.qb.toNat∨setN v x.qc.qb.toNat)→∃ v',Qd x K body (k+1) (v.set b.qe.qb.toNat u)=K v'∧v'.length=6∧∀ i,setN v' i↔setN v i∨(setN v x.qc.qb.toNat∧∃ b',b'∈b::body∧i=b'.qe.qb.toNat):=fun u hu=>by
   obtain⟨v',a1,a2,a3⟩:=qbI x hx K body (k+1) (v.set b.qe.qb.toNat u) (by rw[List.length_set];exact hv) hb'
   have hs:∀ i,setN (v.set b.qe.qb.toNat u) i↔setN v i∨(setN v x.qc.qb.toNat∧i=b.qe.qb.toNat):=fun i=>by
    unfold setN;rw[qak (by omega)]
    by_cases hi:i=b.qe.qb.toNat
    ·rw[if_pos hi,hu,hi];exact⟨fun h=>h.imp id fun h=>⟨h,rfl⟩,fun h=>h.imp id fun h=>h.1⟩
    ·rw[if_neg hi];exact⟨.inl,fun h=>h.elim id fun h=>absurd h.2 hi⟩
   refine⟨v',a1,a2,fun i=>?_⟩;rw[a3,hs,hs]
   constructor
   ·rintro ((h | ⟨h1,h2⟩) | ⟨h1,y,hy,he⟩)
    ·exact .inl h
    ·exact .inr ⟨h1,b,List.mem_cons_self ..,h2⟩
    ·exact .inr ⟨h1.elim id fun h=>h.1,y,List.mem_cons_of_mem _ hy,he⟩
   ·rintro (h | ⟨h1,y,hy,he⟩)
    ·exact .inl (.inl h)
    ·rcases List.mem_cons.1 hy with rfl | hy
     ·exact .inl (.inr ⟨h1,he⟩)
     ·exact .inr ⟨.inl h1,y,hy,he⟩
  rw[Qd,ZJ (dec6b h6),get6b hv h6];simp only[Option.bind_some];unfold Yw
  cases hq:v.getD b.qe.qb.toNat false with
  | true =>
   rw[cond_true,ZJ (dec6b h6),ZJ e3,e4];exact key true ⟨fun _=>.inl hq,fun _=>rfl⟩
  | false =>
   rw[cond_false,ZJ (dec6b hx),get6b hv hx];simp only[Option.bind_some];rw[ZJ (dec6b h6),ZJ e3,e4];refine key _ ⟨fun h=>.inr h,fun h=>h.elim (fun h=>?_) id⟩;unfold setN at h;rw[hq]at h;cases h
theorem qbJ (K:List Bool→Option (List rf3Rule)):∀ (l:List rf3Rule) (k:Nat) (v:List Bool),v.length=6→relsR l →
  ∃ v',Qx K l k v=K v'∧v'.length=6∧(∀ i,setN v i→setN v' i)∧(∀ Q:Nat→Prop,(∀ i,setN v i→Q i)→ClosedN l Q→∀ i,setN v' i→Q i)∧((∀ i,setN v' i→setN v i)→ClosedN l (setN v))
 | [],k,v,hv,_=>⟨v,by rw[Qx],hv,fun _ h=>h,fun Q h _=>h,fun _ r hr=>by simp at hr⟩
 | r::l,k,v,hv,hr=>by
  obtain⟨h6,h3,hb⟩:=hr r (List.mem_cons_self ..)
  have hr':relsR l:=fun x hx=>hr x (List.mem_cons_of_mem _ hx)
  obtain⟨v1,b1,b2,b3⟩:=qbI r h6 (Va (Qx K l (k+1))) r.qd 0 v hv hb;obtain⟨v',a1,a2,a3,a4,a5⟩:=qbJ K l (k+1) v1 b2 hr'
  have hsub:∀ i,setN v i→setN v1 i:=fun i h=>(b3 i).2 (.inl h)
  refine⟨v',?_,a2,fun i h=>a3 i (hsub i h),fun Q q1 q2=>a4 Q (fun i hi=>?_) fun x hx=>q2 x (List.mem_cons_of_mem _ hx),fun hs x hx hh b hbm=>?_⟩
  ·rw[Qx,ZJ (qN (by omega)),b1];exact a1
  ·rcases (b3 i).1 hi with h | ⟨h1,b,hbm,rfl⟩
   ·exact q1 i h
   ·exact q2 r (List.mem_cons_self ..) (q1 _ h1) b hbm
  ·rcases List.mem_cons.1 hx with rfl | hx
   ·exact hs _ (a3 _ ((b3 _).2 (.inr ⟨hh,b,hbm,rfl⟩)))
   ·exact hs _ (a3 _ (a5 (fun i hi=>hsub i (hs i hi)) x hx (hsub _ hh) b hbm))
def cntB6 (v:List Bool):Nat:=(List.range 6).countP fun i=>v.getD i false
theorem qgj {v v':List Bool} (hv':v'.length=6) (h:∀ i,setN v i→setN v' i) {i:Nat} (h1:setN v' i) (h2:¬ setN v i):cntB6 v<cntB6 v':=by
 refine Zq (x:=i) (fun y hy hq=>h y hq) (List.mem_range.2 (qdT hv' h1)) h1 ?_
 cases hb:v.getD i false with
 | false=>rfl
 | true=>exact absurd hb h2
theorem qgk (v:List Bool):cntB6 v≤6:=by
 have:=List.countP_le_length (p:=fun i=>v.getD i false) (l:=List.range 6)
 simpa[cntB6] using this
theorem qbK {l:List rf3Rule} (hl:l.length≤100) (hr:relsR l) (K:List Bool→Option (List rf3Rule)) {rel:Nat}:∀ (L:List Nat) (k:Nat) (v:List Bool),v.length=6→setN v rel→(∀ Q:Nat→Prop,Q rel→ClosedN l Q→∀ i,setN v i→Q i)→(ClosedN l (setN v)∨7≤cntB6 v+L.length) →
  ∃ v',Qy l K L k v=K v'∧v'.length=6∧NeedN l rel (setN v')
 | [],k,v,hv,hb,hQ,hc=>by
  refine⟨v,by rw[Qy],hv,hb,?_,hQ,fun i h=>qdT hv h⟩
  rcases hc with h | h
  ·exact h
  ·have:=qgk v;simp at h;omega
 | x::L,k,v,hv,hb,hQ,hc=>by
  obtain⟨v',a1,a2,a3,a4,a5⟩:=qbJ (Vb (Qy l K L (k+1))) l 0 v hv hr
  have hstay:(∀ i,setN v' i→setN v i)→ClosedN l (setN v'):=fun hs r hr hh b hbm=>a3 _ (a5 hs r hr (hs _ hh) b hbm)
  obtain⟨v2,b1,b2,b3⟩:=qbK hl hr K L (k+1) v' a2 (a3 _ hb) (fun Q q1 q2=>a4 Q (fun i hi=>hQ Q q1 q2 i hi) q2) (by
   by_cases hs:∀ i,setN v' i→setN v i
   ·exact .inl (hstay hs)
   ·right
    have:∃ i,setN v' i∧¬ setN v i:=Classical.byContradiction fun hn=>hs fun i hi=>Classical.byContradiction fun h2=>hn ⟨i,hi,h2⟩
    obtain⟨i,h1,h2⟩:=this;have hlt:=qgj a2 a3 h1 h2
    rcases hc with h | h
    ·exact absurd (a4 (setN v) (fun _ h=>h) h i h1) h2
    ·rw[List.length_cons]at h;omega)
  refine⟨v2,?_,b2,b3⟩;rw[Qy,ZJ (qN (by omega)),a1];exact b1
end Go.AM
