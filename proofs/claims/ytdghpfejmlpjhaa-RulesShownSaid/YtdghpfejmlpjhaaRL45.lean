import Derived.Test.YtdghpfejmlpjhaaRL31
set_option linter.all false
set_option maxRecDepth 100000
open Option renaming bind_some→A0
open List renaming mem_cons_of_mem→A1, mem_cons_self→A2, length_map→A3, map_cons→A4, filter_cons→A5, length_cons→A8, replicate→A9, getElem?_eq_getElem→B1, getD_eq_getElem?_getD→D0, map→D3, drop_zero→D4, map_map→D5, mem_of_getElem?→D6, mem_cons→D7, drop_of_length_le→D8, getElem_mem→E0, length_set→E8, drop_eq_getElem_cons→E9, eq_nil_of_length_eq_zero→F6, getElem?_replicate→F7, length_filter_le→F8
open Bool renaming not_false→A6, not_true→A7, eq_iff_iff→D9
open Nat renaming le_refl→C0, zero_add→E7
open Int renaming toNat_natCast→C7, le_refl→D1, toNat→D2
namespace Go.AM
open Go.Proofs Go.Sort
open Classical
variable {L:LH} {G X:rufact->Prop} {n:Nat} {p:ruProof}
def HoldsN (L:LH) (G X:rufact->Prop):Nat->ruProof->Prop
 | 0,_=>False
 | n+1,p=>groundP p.qd/\((p.ql = -1/\p.qj=[]/\G (toF p.qd))\/(0<=p.ql/\∃ r,L[p.ql.toNat]? = some r/\(∀ s,s∈p.qj->HoldsN L G X n s)/\MatchP X r p.qd (p.qj.map ruProof.qd)))
theorem HoldsN.ground:∀ {n:Nat} {p:ruProof},HoldsN L G X n p->groundP p.qd
 | n+1,p,h=>h.1
theorem Nx (h:p.ql = -1):HoldsN L G X (n+1) p↔groundP p.qd/\p.qj=[]/\G (toF p.qd):=by
 rw[HoldsN];constructor
 .rintro⟨a,b | b⟩
  .exact⟨a,b.2⟩
  have:=b.1;omega
 rintro⟨a,b⟩
 exact⟨a,.inl ⟨h,b⟩⟩
theorem qad {r:ruRule} (h0:0<=p.ql) (h:L[p.ql.toNat]? = some r):HoldsN L G X (n+1) p↔groundP p.qd/\(∀ s,s∈p.qj->HoldsN L G X n s)/\MatchP X r p.qd (p.qj.map ruProof.qd):=by
 rw[HoldsN];constructor
 .rintro⟨a,b | ⟨b,q,b1,b2⟩⟩
  .have:=b.1;omega
  rw[h]at b1;cases b1;exact⟨a,b2⟩
 rintro⟨a,b⟩
 exact⟨a,.inr ⟨h0,r,h,b⟩⟩
theorem qeD (h1:p.ql ≠ -1) (h:p.ql<0\/(L.length:Int)<=p.ql):¬ HoldsN L G X (n+1) p:=by
 rw[HoldsN]
 rintro⟨a,b | ⟨b,q,b1,b2⟩⟩
 .exact h1 b.1
 have:=(List.getElem?_eq_some_iff.1 b1).1;omega
theorem Hq {g:ruProof->LD} {p:ruProof->Bool}:∀ (l:LU) (k:Nat),(∀ x,x∈l->g x=some (p x))->∃ i,qV g Jg l k=some i/\(decide (i >= 0)=l.any p)
 | [],k,_=>⟨-1,by rw[qV];rfl,by simp⟩
 | x::l,k,h=>by
  obtain⟨i,h1,h2⟩:=Hq l (k+1) fun y hy=>h y (A1 _ hy)
  rw[qV,h x (A2 ..)];simp only[A0]
  cases hp:p x with
  | true=>exact⟨k,rfl,by simp[hp]⟩
  | false=>exact⟨i,by rw[cN];exact h1,by rw[h2,List.any_cons,hp,Bool.false_or]⟩
theorem qdq {l:LU} {g:ruProof->LD} {p:ruProof->Bool} (hl:lenOk l=true) (h:∀ x,x∈l->g x=some (p x)):Jj l g=some (l.any p):=by
 obtain⟨i,h1,h2⟩:=Hq l 0 h;unfold Jj QD;rw[NH hl,h1];simp only[A0];rw[h2]
theorem qfA {α:Type} {p q:Prop} [Decidable p] [Decidable q] {a b:α} (h:p↔q):(if p then a else b)=(if q then a else b):=by
 by_cases hp:p
 .rw[if_pos hp,if_pos (h.1 hp)]
 rw[if_neg hp,if_neg (fun q=>hp (h.2 q))]
theorem wfF3 {f:rufact} (h:wfF f=true):(wfI .i64 f.qn && wfI .i64 f.f_a && wfI .i64 f.f_b)=true:=h
theorem qgN {no:LB} (hno:NT no) {w:LA} (hw:V8 w) (K:LD):∀ (body:LQ) (k:Nat),(∀ x,x∈body->fitP x.qg.qc x.qg.qa)->jg no w K body k=if FreeP (memO no) w body then K else some false
 | [],k,_=>by rw[jg,if_pos (show FreeP _ _ _ from fun x hx=>by simp at hx)]
 | x::body,k,h=>by
  have ih:=qgN hno hw K body (k+1) fun y hy=>h y (A1 _ hy)
  have hx:=h x (A2 ..)
  have hc:FreeP (memO no) w (x::body)↔(x.qw=true->groundF w x.qg ∉ no.map Prod.fst)/\FreeP (memO no) w body:=by
   unfold FreeP;simp only[D7,forall_eq_or_imp]
  rw[jg];unfold Qs
  cases hn:x.qw with
  | false =>
   rw[cN,cN,ih];refine qfA ?_;rw[hc];exact⟨fun q=>⟨fun h=>(by rw[hn]at h;cases h),q⟩,fun q=>q.2⟩
  | true =>
   rw[cT,NH (dT hw.1),XQ hw.1 (qI hx) hx.2.1.2];simp only[A0];rw[NH (wfF3 (Zr hw hx))];by_cases hm:groundF w x.qg∈no.map Prod.fst
   .rw[(NT.mget hno.t _).2 hm,cT,if_neg (fun q=>(hc.1 q).1 hn hm)]
   rw[show mget qf false (groundF w x.qg) no=false by
    rw[<- Bool.not_eq_true];exact fun q=>hm ((NT.mget hno.t _).1 q),cN,ih]
   refine qfA ?_;rw[hc];exact⟨fun q=>⟨fun _=>hm,q⟩,fun q=>q.2⟩
theorem Dp {fuel:Nat} {p:ruProof} {K:LA->Bool->Int->LD} (hK:∀ v n,K v false n=some false):∀ (body:LQ) (k:Nat) (v:LA) (n:Int),qC fuel p K body k v false n=some false
 | [],k,v,n=>by rw[qC,hK]
 | x::body,k,v,n=>by
  rw[qC];unfold JH jk
  cases x.qw with
  | true=>rw[cT,cT];exact Dp hK body (k+1) v n
  | false=>rw[cN,A6,cT];exact Dp hK body (k+1) v n
theorem qcX {fuel:Nat} (hf:4<=fuel) {p:ruProof} (hp:p.qj.length<=6) {K:LA->Bool->Int->LD} (hK:∀ v n,K v false n=some false):∀ (body:LQ) (k n:Nat) (v:LA),(∀ x,x∈body->fitP x.qg.qc x.qg.qa)->v.length=8->n<=p.qj.length ->
  qC fuel p K body k v true (n:Int)=match chainV body v ((p.qj.map ruProof.qd).drop n) with
   | some u=>K u true ((n+(posB body).length:Nat):Int)
   | none=>some false
 | [],k,n,v,_,_,_=>by
  rw[qC,chainV];rfl
 | x::body,k,n,v,hx,hv,hn=>by
  have hfx:=hx x (A2 ..)
  have hx':=fun y (hy:y∈body)=>hx y (A1 _ hy)
  rw[qC];unfold JH jk Qt;by_cases hnot:x.qw=true
  .have e:posB (x::body)=posB body:=by unfold posB;rw[A5,if_neg (by simp[hnot])]
   rw[hnot,cT,cT,qal hnot,e];exact qcX hf hp hK body (k+1) n v hx' hv hn
  have hnot':x.qw=false:=by simpa using hnot
  have e:posB (x::body)=x::posB body:=by unfold posB;rw[A5,if_pos (by simp[hnot])]
  rw[hnot',cN,A7,cN,e,A8];by_cases hlt:n<p.qj.length
  .have hd:(p.qj.map ruProof.qd).drop n=(p.qj[n]).qd::(p.qj.map ruProof.qd).drop (n+1):=by
    rw[E9 (by rw[A3];exact hlt),List.getElem_map]
   have hi:idx p.qj (n:Int)=some p.qj[n]:=by
    unfold idx;rw[if_pos (by omega),C7,B1 hlt]
   rw[show ((n:Int) == (p.qj.length:Int))=false from beq_eq_false_iff_ne.2 (by omega),cN,hi,hd,Hw hnot];simp only[A0];rw[VP hf];simp only[A0];by_cases hg:groundP p.qj[n].qd
   .rw[dT hg,A7,cN,NH (dT hv)];obtain⟨q,q1,q2,q3,q4⟩:=qjc hv (qI hfx) hfx.2.1.2 hg;rw[q1];simp only[A0];rw[NH (dT ⟨q2,hv⟩),wrap64 (by omega) (by omega)]
    cases hq:q.2 with
    | false =>
     rw[Dp hK]
     have:¬ (x.qg.qc=p.qj[n].qd.qc/\x.qg.qa.length=p.qj[n].qd.qa.length/\(fitA v x.qg.qa p.qj[n].qd.qa).isSome=true):=fun c=>by
      rw[q3.2 c]at hq;cases hq
     have e0:(if groundP p.qj[n].qd/\x.qg.qc=p.qj[n].qd.qc/\x.qg.qa.length=p.qj[n].qd.qa.length then (fitA v x.qg.qa p.qj[n].qd.qa).bind fun u=>chainV body u (List.drop (n+1) (D3 ruProof.qd p.qj)) else none)=none:=by
      split
      .rename_i c
       cases hfa:fitA v x.qg.qa p.qj[n].qd.qa with
       | some u=>exact absurd ⟨c.2.1,c.2.2,by rw[hfa];rfl⟩ this
       | none=>rfl
      rfl
     rw[e0]
    | true =>
     have c:=q3.1 hq;rw[if_pos ⟨hg,c.1,c.2.1⟩,q4 hq,A0];have ih:=qcX hf hp hK body (k+1) (n+1) q.1 hx' q2 oM;rw[show (n:Int)+1=((n+1:Nat):Int) by omega,ih,show n+1+(posB body).length=n+((posB body).length+1) by omega]
   rw[dF hg,A6,cT,if_neg (fun c=>hg c.1)]
  have hd:(p.qj.map ruProof.qd).drop n=[]:=D8 (by rw[A3];omega);rw[show ((n:Int) == (p.qj.length:Int))=true from beq_iff_eq.2 (by omega),cT,cT,hd,qdv hnot]
theorem qcP {L:LH} (hL:∀ r,r∈L->okU r) {gv no:LB} (hgv:NT gv) (hno:NT no):∀ (n fuel:Nat) (p:ruProof),hT p<=n->n+4<=fuel->okT p->qz fuel p L gv no=some (decide (HoldsN L (memO gv) (memO no) n p))
 | 0,fuel,p,hn,_,_=>by have:=qbw p;omega
 | n+1,0,p,_,hf,_=>by omega
 | n+1,fuel+1,p,hn,hf,ho=>by
  obtain⟨o1,o2,o3⟩:=(Nr p).1 ho;have h1:=qaM p;rw[qz,VP (by omega)];simp only[A0];by_cases hg:groundP p.qd
  .rw[dT hg,A7,cN];by_cases hr:p.ql = -1
   .rw[hr,beq_self_eq_true,cT];unfold Qu;by_cases hs:p.qj=[]
    .rw[hs,show ((([]:LU).length:Int) == 0)=true from rfl,cT,qcm hg];simp only[A0];rw[NH (wfF3 (Xz hg).1.wf)]
     congr 1
     rw[D9,NT.mget hgv.t,decide_eq_true_iff,Nx hr];exact⟨fun q=>⟨hg,hs,q⟩,fun q=>q.2.2⟩
    rw[show ((p.qj.length:Int) == 0)=false by rw[beq_eq_false_iff_ne];intro h;exact hs (F6 (by omega)),cN]
    congr 1
    exact (dF fun q=>hs ((Nx hr).1 q).2.1).symm
   rw[show (p.ql == -1)=false from beq_eq_false_iff_ne.2 hr,cN];by_cases ho:p.ql<0\/(L.length:Int)<=p.ql
   .rw[dF (qeD hr ho)];unfold JI;by_cases h0:p.ql<0
    .rw[dT h0,cT,cT]
    rw[dF h0,cN,dT (by omega),cT]
   have h0:0<=p.ql:=by omega
   have hlt:p.ql.toNat<L.length:=by omega
   have hi:L[p.ql.toNat]? = some L[p.ql.toNat]:=B1 hlt;have hrU:=hL _ (E0 hlt);generalize L[p.ql.toNat]=r at hi hrU;have hat:∀ a,a∈atomsU r->fitP a.qc a.qa:=hrU.2.2;have hhd:=hat r.qi (A2 ..)
   have hbd:∀ x,x∈r.qe->fitP x.qg.qc x.qg.qa:=fun x hx=>hat _ (A1 _ (List.mem_map.2 ⟨x,hx,rfl⟩))
   rw[dF (by omega),cN,dF (by omega)];unfold JI;rw[cN,show idx L p.ql=some r by unfold idx;rw[if_pos h0,hi]];simp only[A0];obtain⟨q,q1,q2,q3,q4⟩:=qjc (v:=v0) (by simp) (qI hhd) hhd.2.1.2 hg;rw[show DU (A9 8 0) r.qi p.qd=some q from q1];simp only[A0]
   have hK:∀ v m,qF p L gv no r (qz fuel) v false m=some false:=fun v m=>by
    unfold qF JG;rw[A6,cT,cT]
   rw[NH (dT ⟨q2,by simp⟩),NH (qy (by have:=hrU.1;omega))]
   have hsub:∀ s,s∈p.qj->qz fuel s L gv no=some (decide (HoldsN L (memO gv) (memO no) n s)):=fun s hs=>qcP hL hgv hno n fuel s (by have:=Uj hs;omega) oM (VK o3 hs)
   have hall:Jb p L gv no (qz fuel)=some (decide (∀ s,s∈p.qj->HoldsN L (memO gv) (memO no) n s)):=by
    unfold Jb
    rw[qdq (p:=fun s=>!decide (HoldsN L (memO gv) (memO no) n s)) (qy (by omega)) fun s hs=>by
     unfold QV;rw[hsub s hs]
     rfl]
    simp only[A0]
    congr 1
    rw[D9,decide_eq_true_iff];simp
   have hsg:(∀ s,s∈p.qj->HoldsN L (memO gv) (memO no) n s)->∀ s,s∈p.qj.map ruProof.qd->groundP s:=fun h s hs=>by
    obtain⟨t,ht,rfl⟩:=List.mem_map.1 hs;exact (h t ht).ground
   cases hq:q.2 with
   | false =>
    rw[show (0:Int)=((0:Nat):Int) from rfl,Dp hK]
    congr 1
    refine (dF fun c=>?_).symm;obtain⟨c1,c2,c3⟩:=(qad h0 hi).1 c;obtain⟨d1,d2,v1,u,d3,_⟩:=(Hh hrU hg (hsg c2)).1 c3;rw[q3.2 ⟨d1,d2,by rw[d3];rfl⟩]at hq;cases hq
   | true =>
    obtain⟨e1,e2,e3⟩:=q3.1 hq;have e4:=q4 hq;obtain⟨a1,a2,a3⟩:=QB e4 V8_0 (qI hhd) hg.2.2;rw[show (0:Int)=((0:Nat):Int) from rfl,qcX (by omega) o2 hK r.qe 0 0 q.1 hbd q2 (by omega),D4]
    have hiff:HoldsN L (memO gv) (memO no) (n+1) p↔(∀ s,s∈p.qj->HoldsN L (memO gv) (memO no) n s)/\∃ u,chainV r.qe q.1 (p.qj.map ruProof.qd)=some u/\(posB r.qe).length=p.qj.length/\FreeP (memO no) u r.qe:=by
     rw[qad h0 hi];constructor
     .rintro⟨c1,c2,c3⟩
      obtain⟨d1,d2,v1,u,d3,d4,d5,d6⟩:=(Hh hrU hg (hsg c2)).1 c3;rw[e4]at d3;cases d3;exact⟨c2,u,d4,by rw[d5,A3],d6⟩
     rintro⟨c2,u,d4,d5,d6⟩
     exact⟨hg,c2,(Hh hrU hg (hsg c2)).2 ⟨e1,e2,q.1,u,e4,d4,by rw[d5,A3],d6⟩⟩
    cases hch:chainV r.qe q.1 (p.qj.map ruProof.qd) with
    | none =>
     simp only
     congr 1
     refine (dF fun c=>?_).symm;obtain⟨_,u,d,_⟩:=hiff.1 c;rw[hch]at d;cases d
    | some u =>
     simp only;unfold qF JG;rw[A7,cN];by_cases hlen:(posB r.qe).length=p.qj.length
     .obtain⟨b1,_⟩:=ZT r.qe q.1 u _ hbd a1 hch (by rw[hlen,A3]);rw[show (((0+(posB r.qe).length:Nat):Int) != (p.qj.length:Int))=false by simp[hlen],cN,NH (qy (by have:=hrU.1;omega)),qgN hno b1 _ r.qe 0 hbd,hall];by_cases hfr:FreeP (memO no) u r.qe
      .rw[if_pos hfr]
       congr 1
       refine decide_eq_decide.2 ?_;rw[hiff];exact⟨fun c=>⟨c,u,hch,hlen,hfr⟩,fun c=>c.1⟩
      rw[if_neg hfr]
      congr 1
      refine (dF fun c=>?_).symm;obtain⟨_,u',d1,_,d3⟩:=hiff.1 c;rw[hch]at d1;cases d1;exact hfr d3
     rw[show (((0+(posB r.qe).length:Nat):Int) != (p.qj.length:Int))=true by simp;omega,cT]
     congr 1
     refine (dF fun c=>?_).symm;obtain⟨_,u',_,d2,_⟩:=hiff.1 c;exact hlen d2
  rw[dF hg,A6,cT]
  congr 1
  exact (dF fun q=>hg q.ground).symm
theorem UU {f:apiFact} (h:groundP f):QW f.qc f.qa=some (codeF (toF f):Int):=by
 obtain⟨h1,h2⟩:=Xz h;have hc:=qdr h1;rw[h2]at hc;exact hc
theorem qiB {w:LA} (hw:V8 w) {p:ruProof} (hs:∀ s,s∈p.qj->groundP s.qd) (hp:p.qj.length<=6) (N2:LD):∀ (body:Lq) (k n:Nat) (good:Bool),(∀ x,x∈body->fitP x.qg.qc x.qg.qa/\bnd w x.qg.qa)->n+body.length<=1000 ->
  Xf w (ownT p) (Nj (ownT p) N2) body k good (n:Int)=if good=true/\n<=p.qj.length/\(posB (body.map toL)).map (fun x=>groundF w x.qg)=(p.qj.map fun s=>toF s.qd).drop n then some true else N2
 | [],k,n,good,_,_=>by
  rw[Xf];unfold Nj Ni;rw[Dg,A3]
  cases good with
  | false=>rw[cN,cN,if_neg (fun h=>by cases h.1)]
  | true =>
   rw[cT];by_cases hn:n=p.qj.length
   .rw[show ((n:Int) == (p.qj.length:Int))=true from beq_iff_eq.2 (by omega),cT,if_pos ⟨rfl,by omega,by rw[D8 (by rw[A3];omega)];rfl⟩]
   rw[show ((n:Int) == (p.qj.length:Int))=false from beq_eq_false_iff_ne.2 (by omega),cN,if_neg ?_]
   rintro⟨_,h1,h2⟩
   have:=congrArg List.length h2;simp[posB]at this;omega
 | x::body,k,n,good,h,hl=>by
  rw[A8]at hl;have hx:=h x (A2 ..)
  have ih:=fun n' hn' good'=>qiB hw hs hp N2 body (k+1) n' good' (fun y hy=>h y (A1 _ hy)) hn'
  rw[Xf];unfold Vd YV;rw[Dg,A3];by_cases hnot:x.qw=true
  .have e:posB ((x::body).map toL)=posB (body.map toL):=by
    rw[A4];unfold posB;rw[A5,if_neg (by simp[toL,hnot])]
   rw[hnot,A7,cN,e];exact ih n oM good
  have hnot':x.qw=false:=by simpa using hnot
  have e:posB ((x::body).map toL)=toL x::posB (body.map toL):=by
   rw[A4];unfold posB;rw[A5,if_pos (by simp[toL,hnot])]
  rw[hnot',A6,cT,e,wrap64 (by omega) (by omega),show (n:Int)+1=((n+1:Nat):Int) by omega]
  cases good with
  | false =>
   rw[cN,ih (n+1) (by omega) false,if_neg (fun h=>by cases h.1),if_neg (fun h=>by cases h.1)]
  | true =>
   rw[cT];by_cases hlt:n<p.qj.length
   .have hd:(p.qj.map fun s=>toF s.qd).drop n=toF p.qj[n].qd::(p.qj.map fun s=>toF s.qd).drop (n+1):=by
     rw[E9 (by rw[A3];exact hlt),List.getElem_map]
    have hi:idx (p.qj.map ownT) (n:Int)=some (ownT p.qj[n]):=by
     unfold idx;rw[if_pos (by omega),C7,List.getElem?_map,B1 hlt];rfl
    have hg:=hs _ (E0 hlt);rw[dT (by omega),cT,NH (dT hw.1),Vw hw hx.1 hx.2,hi];simp only[A0];rw[qaC,UU hg];simp only[A0];obtain⟨o1,o2,o3⟩:=Jw (a:=toA x.qg) hw hx.1 hx.2;rw[ih (n+1) (by omega),hd,A4];refine qfA ?_;rw[beq_iff_eq];constructor
    .rintro⟨a,b,c⟩
     refine⟨trivial,by omega,?_⟩;rw[c]
     congr 1
     exact UV o1 (Xz hg).1 (Int.ofNat_inj.1 a)
    rintro⟨a,b,c⟩
    rw[List.cons.injEq]at c;exact⟨by rw[<- c.1];rfl,by omega,c.2⟩
   rw[dF (by omega),cN,ih (n+1) (by omega) false,if_neg (fun h=>by cases h.1),if_neg ?_]
   rintro⟨_,b,c⟩
   rw[D8 (by rw[A3];omega),A4]at c;cases c
theorem qiC {ar:Int->Nat} {r:rf3Rule} (hr:okL ar (toR r)) {N:LM} (hN:N.length=252) {p:ruProof} (hg:groundP p.qd) (hs:∀ s,s∈p.qj->groundP s.qd) (hp:p.qj.length<=6):∀ (ws:Li) (k:Nat),(∀ w,w∈ws->V8 w/\∀ a,a∈atomsU (toR r)->bnd w a.qa) ->
  Xg N (ownT p) r Vf ws k=some (decide (∃ w,w∈ws/\FreeP (setB N) w (toR r).qe/\groundF w (toR r).qi=toF p.qd/\(posB (toR r).qe).map (fun x=>groundF w x.qg)=p.qj.map fun s=>toF s.qd))
 | [],k,_=>by
  rw[Xg,dF (by simp)];rfl
 | w::ws,k,h=>by
  obtain⟨hw,hb⟩:=h w (A2 ..)
  have ih:=qiC hr hN hg hs hp ws (k+1) fun u hu=>h u (A1 _ hu)
  have hbl:r.qe.length<=3:=by have:=hr.1.1;simpa[toR] using this
  have hbd:∀ x,x∈r.qe->fitP x.qg.qc x.qg.qa/\bnd w x.qg.qa:=fun x hx =>
   ⟨(hr.body (toL x) (List.mem_map.2 ⟨x,hx,rfl⟩)).1,hb (toA x.qg) (A1 _ (List.mem_map.2 ⟨toL x,List.mem_map.2 ⟨x,hx,rfl⟩,rfl⟩))⟩
  have hhd:fitP r.qi.qc r.qi.qa/\bnd w r.qi.qa:=⟨hr.head.1,hb _ (A2 ..)⟩
  have go:∀ good,Ve w (ownT p) r (Xg N (ownT p) r Vf ws (k+1)) good=if good=true/\(posB (toR r).qe).map (fun x=>groundF w x.qg)=p.qj.map (fun s=>toF s.qd) then some true else Xg N (ownT p) r Vf ws (k+1):=fun good=>by
   unfold Ve;rw[NH (qy (by omega)),show (0:Int)=((0:Nat):Int) from rfl,qiB hw hs hp _ r.qe 0 0 good hbd (by omega),D4];exact qfA ⟨fun h=>⟨h.1,h.2.2⟩,fun h=>⟨h.1,by omega,h.2⟩⟩
  rw[Xg,NH (dT hw.1),NH (dT ⟨hw.1,by simp⟩),NH (dT hw.1),NH (dT hN),qdf hw hN hbl fun x hx _=>hbd x hx];simp only[A0];by_cases hfr:FreeP (setB N) w (toR r).qe
  .rw[dT hfr,cT,NH (dT hw.1),Vw hw hhd.1 hhd.2];simp only[A0];rw[qaC,UU hg];simp only[A0];rw[go];obtain⟨o1,o2,o3⟩:=Jw (a:=toA r.qi) hw hhd.1 hhd.2;by_cases hc:((codeF (groundF w (toA r.qi)):Int) == (codeF (toF p.qd):Int))=true/\(posB (toR r).qe).map (fun x=>groundF w x.qg)=p.qj.map (fun s=>toF s.qd)
   .rw[if_pos hc];have hc1:=beq_iff_eq.1 hc.1;rw[dT ⟨w,A2 ..,hfr,UV o1 (Xz hg).1 (Int.ofNat_inj.1 hc1),hc.2⟩]
   rw[if_neg hc,ih]
   congr 1
   refine decide_eq_decide.2 ?_;constructor
   .rintro⟨u,u1,u2⟩
    exact⟨u,A1 _ u1,u2⟩
   rintro⟨u,u1,u2,u3,u4⟩
   rcases List.mem_cons.1 u1 with rfl | u1
   .refine absurd ⟨?_,u4⟩ hc;rw[show groundF u (toA r.qi)=toF p.qd from u3];exact beq_self_eq_true _
   exact⟨u,u1,u2,u3,u4⟩
  rw[dF hfr,cN,go,if_neg (fun h=>by cases h.1),ih]
  congr 1
  refine decide_eq_decide.2 ?_;constructor
  .rintro⟨u,u1,u2⟩
   exact⟨u,A1 _ u1,u2⟩
  rintro⟨u,u1,u2,u3,u4⟩
  rcases List.mem_cons.1 u1 with rfl | u1
  .exact absurd u2 hfr
  exact⟨u,u1,u2,u3,u4⟩
theorem qiD {l:LN} {G X:LM} (hG:G.length=252) (hX:X.length=252) {K0:LN->LM->LM->qr->LD} {H:ruProof->Prop} (hH:∀ s,H s->groundP s.qd) (K:LM->LD):∀ (ss:LU) (k:Nat) (S:LM),S.length=252->(∀ s,s∈ss->K0 l G X (ownT s)=some (decide (H s))) ->
  ((∀ s,s∈ss->H s)/\∃ S',YI l G X K0 K (ss.map ownT) k S=K S'/\S'.length=252/\∀ g,setB S' g↔setB S g\/g∈ss.map fun s=>toF s.qd)\/(¬ (∀ s,s∈ss->H s)/\YI l G X K0 K (ss.map ownT) k S=some false)
 | [],k,S,hS,_=>.inl ⟨fun s hs=>by simp at hs,S,by rw[List.map_nil,YI],hS,fun g=>by simp⟩
 | x::ss,k,S,hS,h=>by
  rw[A4,YI,NH (dT hG),NH (dT hX),h x (A2 ..)];simp only[A0];by_cases hx:H x
  .have hg:=hH x hx;have hok:=(Xz hg).1;have hlt:=QM hok;rw[dT hx,A7,cN,qaC,UU hg];simp only[A0];rw[NH (dT ⟨by omega,by omega,by omega⟩),NH (dT (by omega)),E7,Nat.mul_one,C7]
   rcases qiD hG hX hH K ss (k+1) (S.set (codeF (toF x.qd)) true) (by rw[E8,hS]) (fun s hs=>h s (A1 _ hs)) with ⟨a,S',b,c,d⟩ | ⟨a,b⟩
   .left;refine⟨fun s hs=>?_,S',b,c,fun g=>?_⟩
    .rcases List.mem_cons.1 hs with rfl | hs
     .exact hx
     exact a s hs
    rw[d,qcD hS hok,A4,D7];constructor
    .rintro ((h | h) | h)
     .exact .inl h
     .exact .inr (.inl h)
     exact .inr (.inr h)
    rintro (h | h | h)
    .exact .inl (.inl h)
    .exact .inl (.inr h)
    exact .inr h
   right;exact⟨fun c=>a fun s hs=>c s (A1 _ hs),b⟩
  right;rw[dF hx,A6,cT];exact⟨fun c=>hx (c x (A2 ..)),rfl⟩
theorem qfS {ar:Int->Nat} {l:LN} (hL:∀ r,r∈l->okL ar (toR r)) {G X:LM} (hG:G.length=252) (hX:X.length=252):∀ (n fuel:Nat) (p:ruProof),hT p<=n->n+6<=fuel->okT p->UJ fuel l G X (ownT p)=some (decide (HoldsN (l.map toR) (setB G) (setB X) n p))
 | 0,fuel,p,hn,_,_=>by have:=qbw p;omega
 | n+1,0,p,_,hf,_=>by omega
 | n+1,fuel+1,p,hn,hf,ho=>by
  obtain⟨o1,o2,o3⟩:=(Nr p).1 ho;have h1:=qaM p;rw[UJ,NH (by cases G <;> simp_all),NH (by cases X <;> simp_all),qaC,qgq,Dg,qih (qy (by omega)),A3];simp only[A0];by_cases hg:groundP p.qd
  .have hok:=(Xz hg).1;have hlt:=QM hok;rw[dT hg,A7,cN];by_cases hr:p.ql = -1
   .rw[hr,beq_self_eq_true,cT];unfold Nl;by_cases hs:p.qj=[]
    .rw[hs,show ((([]:LU).length:Int) == 0)=true from rfl,cT,UU hg];simp only[A0];rw[NH (dT ⟨by omega,by omega,by omega⟩),E7,Nat.mul_one,C7,B1 (by omega)];simp only[A0]
     congr 1
     rw[D9,decide_eq_true_iff,Nx hr];unfold setB;rw[D0,B1 (by omega)];exact⟨fun q=>⟨hg,hs,hok,q⟩,fun q=>q.2.2.2⟩
    rw[show ((p.qj.length:Int) == 0)=false by rw[beq_eq_false_iff_ne];intro h;exact hs (F6 (by omega)),cN]
    congr 1
    exact (dF fun q=>hs ((Nx hr).1 q).2.1).symm
   rw[show (p.ql == -1)=false from beq_eq_false_iff_ne.2 hr,cN];by_cases hout:p.ql<0\/(l.length:Int)<=p.ql
   .rw[dF (qeD (L:=l.map toR) hr (by rw[A3];exact hout))];unfold Vg;by_cases h0:p.ql<0
    .rw[dT h0,cT,cT]
    rw[dF h0,cN,dT (by omega),cT]
   have h0:0<=p.ql:=by omega
   have hlt':p.ql.toNat<l.length:=by omega
   have hi:l[p.ql.toNat]? = some l[p.ql.toNat]:=B1 hlt';have hrU:=hL _ (E0 hlt');generalize l[p.ql.toNat]=r at hi hrU
   have hi':(l.map toR)[p.ql.toNat]? = some (toR r):=by rw[List.getElem?_map,hi];rfl
   have hbl:r.qe.length<=3:=by have:=hrU.1.1;simpa[toR] using this
   rw[dF (by omega),cN,dF (by omega)];unfold Vg;rw[cN,qgq,Dg,show idx l p.ql=some r by unfold idx;rw[if_pos h0,hi]];simp only[A0];rw[NH (qy (by rw[A3];omega))];have hiff:=qad (G:=setB G) (X:=setB X) (n:=n) h0 hi'
   rcases qiD (l:=l) hG hX (K0:=UJ fuel) (H:=HoldsN (l.map toR) (setB G) (setB X) n) (fun s hs=>hs.ground) (Nk fuel X (ownT p) r) p.qj 0 (A9 252 false) (by simp) (fun s hs=>qfS hL hG hX n fuel s (by have:=Uj hs;omega) oM (VK o3 hs)) with ⟨a,S',b,c,d⟩ | ⟨a,b⟩
   .rw[b];unfold Nk
    have hiv:=Yt (r:=r) hbl (fun x hx=>by
     have:=(hrU.body (toL x) (List.mem_map.2 ⟨x,hx,rfl⟩)).1
     exact⟨qI this,this.2.1.2⟩) c r.qe.length fuel 0 v0 oM oM (by simp)
    rw[D4]at hiv;replace hiv:jV fuel r S' 0 (A9 8 0)=some (instR S' (r.qe.map toL) v0):=hiv
    have hmem:∀ w,w∈instR S' (r.qe.map toL) v0↔InstP (setB S') (toR r).qe v0 w:=fun w=>Vu _ _ _
    have hlen:(instR S' (r.qe.map toL) v0).length<=16003008:=by
     have h1:=Vv S' (r.qe.map toL) v0;rw[A3]at h1;have h2:252 ^ r.qe.length<=252 ^ 3:=Nat.pow_le_pow_right oM hbl
     have:252 ^ 3=16003008:=by decide
     omega
    have hsg:∀ s,s∈p.qj->groundP s.qd:=fun s hs=>(a s hs).ground
    have hset:setB S'=fun g=>g∈(p.qj.map ruProof.qd).map toF:=by
     funext g
     refine propext ((d g).trans ?_);rw[D5]
     exact⟨fun h=>h.elim (fun h=>absurd h (fun h=>by
      have:=h.2;rw[D0,F7]at this
      split at this <;> simp at this)) id,.inr⟩
    rw[NH (dT c),hiv];simp only[A0];rw[NH (qy (by omega)),qiC hrU hX hg hsg o2 _ 0 fun w hw=>hrU.inst (HX S') ((hmem w).1 hw)]
    congr 1
    refine decide_eq_decide.2 ?_
    rw[hiff,qid hrU (fun s hs=>by
     obtain⟨t,ht,rfl⟩:=List.mem_map.1 hs
     exact hsg t ht)]
    rw[<- hset,D5];constructor
    .rintro⟨w,w1,w2,w3,w4⟩
     exact⟨hg,a,w,(hmem w).1 w1,w2,w3,w4⟩
    rintro⟨_,_,w,w1,w2,w3,w4⟩
    exact⟨w,(hmem w).2 w1,w2,w3,w4⟩
   rw[b]
   congr 1
   exact (dF fun q=>a (hiff.1 q).2.1).symm
  rw[dF hg,A6,cT]
  congr 1
  exact (dF fun q=>hg q.ground).symm
end Go.AM
namespace Go.AM
open Go.Proofs Go.Proofs.Ytdghpfejmlpjhaa Go.ChangeShapes Go.WideShapes Go.ChangeAt Go.RowKit
theorem qiP:∀ {l:List qr},(∀ x,x∈l->okQ x)->okQs l
 | [],_=>by rw[okQs];trivial
 | y::l,h=>by rw[okQs];exact⟨h y (A2 ..),qiP fun x hx=>h x (A1 _ hx)⟩
theorem qgZ (a:qr):jv a=.agg (jv a).cells:=by
 rw[Qm];rfl
theorem qbM:∀ N,ReadsN N Try.prog 85 jv okQ
 | 0=>fun H enc w fuel cs x hN h=>by
  obtain rfl:fuel=0:=by omega
  cases h
 | N+1 =>
  DH (P := Try.prog) (size := 4) (fs := #[Field.mk "Rule" 3 0 false "" "" 0, Field.mk "Fact" 41 1 false "" "" 8, Field.mk "Sub" 83 3 false "" "" 40]) (fun b : Int × apiFact × List qr × Unit => qr.mk b.1 b.2.1 b.2.2.1) kR kR
   (ZJ (f:=AV.int .i64) (ok:=fun n=>wfI .i64 n=true) (n:=1) (off':=1) rfl kR rfl (qaA.toN N) (ZJ (f:=qH) (ok:=wFa) (n:=2) (off':=3) rfl kR rfl (qek.toN N) (ZJ (f:=encL 85 4 jv) (ok:=fun l=>l.length<=maxLen/\∀ x,x∈l->okQ x) (n:=1) (off':=4) rfl kR rfl ((qaz kR kR (by decide) (qbM N) (fun x=>by rw[Qm];rfl) (fun x=>by rw[Qm];rfl)).mono (Nat.le_succ N)) (qaR rfl))))
   (fun b=>by rw[Qm];rfl) (fun b h=>(qkS _).2 ⟨UO h.2.2.1.1,qiP h.2.2.1.2⟩)
theorem qhK:Reads Try.prog 85 jv okQ:=ReadsN.all qbM
end Go.AM
namespace Go.AM
open Go.Proofs Go.Sort
open Classical
variable {L:LH} {G X:rufact->Prop} {d n:Nat} {K:rufact->Int->Prop} {now v:LA} {g:rufact} {ar:Int->Nat} {S:LM} {l:LN} {facts:LG} {p:ruProof}
def CostsL (C:rufact->Nat->Prop):LI->Nat->Prop
 | [],s=>s=0
 | g::gs,s=>∃ m t,C g m/\CostsL C gs t/\s=m+t
def Cost (L:LH) (G X:rufact->Prop):Nat->rufact->Nat->Prop
 | 0,_,_=>False
 | d+1,f,n=>(G f/\n=1)\/∃ r,r∈L/\∃ w,V8 w/\(∀ a,a∈atomsU r->bnd w a.qa)/\groundF w r.qi=f/\FreeP X w r.qe/\∃ s,CostsL (Cost L G X d) ((posB r.qe).map fun x=>groundF w x.qg) s/\n=1+s
theorem CostsL.mono {C D:rufact->Nat->Prop} (h:∀ g m,C g m->D g m):∀ {gs:LI} {s:Nat},CostsL C gs s->CostsL D gs s
 | [],s,k=>k
 | g::gs,s,⟨m,t,a,b,c⟩=>⟨m,t,h g m a,b.mono h,c⟩
theorem Cost.succ {L:LH} {G X:rufact->Prop}:∀ {d:Nat} {f:rufact} {n:Nat},Cost L G X d f n->Cost L G X (d+1) f n
 | 0,f,n,h=>h.elim
 | d+1,f,n,h=>by
  rw[Cost]at h ⊢
  rcases h with h | ⟨r,hr,w,h1,h2,h3,h4,s,h5,h6⟩
  .exact .inl h
  exact .inr ⟨r,hr,w,h1,h2,h3,h4,s,h5.mono fun g m hm=>hm.succ,h6⟩
theorem Cost.le {e:Nat} (h:d<=e) {f:rufact} (k:Cost L G X d f n):Cost L G X e f n:=by
 induction h with
 | refl=>exact k
 | step _ ih=>exact ih.succ
theorem Cost.pos {f:rufact} (h:Cost L G X d f n):1<=n:=by
 cases d with
 | zero=>exact h.elim
 | succ d =>
  rw[Cost]at h
  rcases h with ⟨_,h⟩ | ⟨r,hr,w,h1,h2,h3,h4,s,h5,h6⟩ <;> omega
structure TabN (C:rufact->Nat->Prop) (now:LA):Prop where
 len:now.length=252
 rng:∀ i,0<=now.getD i 0/\now.getD i 0<=500
 none:∀ f,okU1 f->now.getD (codeF f) 0=0->∀ n,C f n->500<n
 some:∀ f,okU1 f->now.getD (codeF f) 0≠0->C f (now.getD (codeF f) 0).toNat/\∀ n,C f n->(now.getD (codeF f) 0).toNat<=n
theorem TabN.zero:TabN (Cost L G X 0) (A9 252 0):=by
 have h0:∀ i,(A9 252 (0:Int)).getD i 0=0:=fun i=>by
  rw[D0,F7];split <;> rfl
 exact⟨by simp,fun i=>by rw[h0];omega,fun f _ _ n h=>h.elim,fun f _ h=>absurd (h0 _) h⟩
def sumT (now:LA):LI->Int
 | []=>0
 | g::gs=>now.getD (codeF g) 0+sumT now gs
theorem DP {C:rufact->Nat->Prop} {now:LA} (h:TabN C now):∀ {gs:LI},(∀ g,g∈gs->okU1 g/\now.getD (codeF g) 0≠0)->CostsL C gs (sumT now gs).toNat/\0<=sumT now gs/\sumT now gs<=500 * gs.length
 | [],_=>⟨rfl,D1 _,by simp[sumT]⟩
 | g::gs,hg=>by
  obtain⟨a,b⟩:=hg g (A2 ..)
  obtain⟨c,d,e⟩:=DP h fun x hx=>hg x (A1 _ hx)
  have r:=h.rng (codeF g);unfold sumT;rw[A8];refine⟨⟨_,_,(h.some g a b).1,c,by omega⟩,by omega,by omega⟩
theorem DO {C:rufact->Nat->Prop} {now:LA} (h:TabN C now):∀ {gs:LI} {s:Nat},(∀ g,g∈gs->okU1 g)->CostsL C gs s->s<=500->(∀ g,g∈gs->now.getD (codeF g) 0≠0)/\sumT now gs<=s
 | [],s,_,hs,_=>⟨fun g hg=>by simp at hg,by unfold sumT;omega⟩
 | g::gs,s,hg,⟨m,t,a,b,c⟩,h5=>by
  have ho:=hg g (A2 ..);obtain⟨e1,e2⟩:=DO h (fun x hx=>hg x (A1 _ hx)) b oM
  have hne:now.getD (codeF g) 0≠0:=fun e=>by have:=h.none g ho e m a;omega
  have:=(h.some g ho hne).2 m a;have r:=h.rng (codeF g);unfold sumT;refine⟨fun x hx=>?_,by omega⟩
  rcases List.mem_cons.1 hx with rfl | hx
  .exact hne
  exact e1 x hx
def BestF (K:rufact->Int->Prop) (v:LA):Prop:=v.length=252/\(∀ i,0<=v.getD i 0/\v.getD i 0<=500)/\∀ f,okU1 f->(v.getD (codeF f) 0=0->∀ n,¬ K f n)/\(v.getD (codeF f) 0≠0->K f (v.getD (codeF f) 0)/\∀ n,K f n->v.getD (codeF f) 0<=n)
theorem BestF.same {K':rufact->Int->Prop} (h:BestF K v) (e:∀ f n,okU1 f->(K f n↔K' f n)):BestF K' v :=
 ⟨h.1,h.2.1,fun f hf=>⟨fun a n k=>(h.2.2 f hf).1 a n ((e f n hf).2 k),fun a=>⟨(e f _ hf).1 ((h.2.2 f hf).2 a).1,fun n k=>((h.2.2 f hf).2 a).2 n ((e f n hf).2 k)⟩⟩⟩
theorem qlt {f:rufact} (hf:okU1 f) (hg:okU1 g) (h:f≠g):codeF f≠codeF g:=fun e=>h (UV hf hg e)
theorem BestF.put (h:BestF K v) (hg:okU1 g) {n:Int} (h1:1<=n) (h5:n<=500) (hb:v.getD (codeF g) 0=0\/n<=v.getD (codeF g) 0):BestF (fun f m=>K f m\/(f=g/\m=n)) (v.set (codeF g) n):=by
 have hlt:codeF g<v.length:=by rw[h.1];exact QM hg
 refine⟨by rw[E8];exact h.1,fun i=>?_,fun f hf=>?_⟩
 .rw[Va _ _ _ hlt];have:=h.2.1 i;split <;> omega
 rw[Va _ _ _ hlt];by_cases he:f=g
 .subst he;rw[if_pos rfl];refine⟨fun e=>by omega,fun _=>⟨.inr ⟨rfl,rfl⟩,fun m hm=>?_⟩⟩
  rcases hm with hm | ⟨_,rfl⟩
  .rcases hb with hb | hb
   .exact absurd hm ((h.2.2 f hf).1 hb m)
   by_cases e0:v.getD (codeF f) 0=0
   .exact absurd hm ((h.2.2 f hf).1 e0 m)
   have:=((h.2.2 f hf).2 e0).2 m hm;omega
  exact D1 _
 rw[if_neg (qlt hf hg he)];have:=h.2.2 f hf;refine⟨fun e m hm=>?_,fun e=>⟨.inl (this.2 e).1,fun m hm=>?_⟩⟩
 .rcases hm with hm | ⟨e2,_⟩
  .exact this.1 e m hm
  exact he e2
 rcases hm with hm | ⟨e2,_⟩
 .exact (this.2 e).2 m hm
 exact absurd e2 he
theorem BestF.keep (h:BestF K v) (hg:okU1 g) {n:Int} (hb:v.getD (codeF g) 0≠0/\v.getD (codeF g) 0<=n):BestF (fun f m=>K f m\/(f=g/\m=n)) v:=by
 refine⟨h.1,h.2.1,fun f hf=>?_⟩;have:=h.2.2 f hf;refine⟨fun e m hm=>?_,fun e=>⟨.inl (this.2 e).1,fun m hm=>?_⟩⟩
 .rcases hm with hm | ⟨rfl,rfl⟩
  .exact this.1 e m hm
  exact hb.1 e
 rcases hm with hm | ⟨rfl,rfl⟩
 .exact (this.2 e).2 m hm
 exact hb.2
theorem TabN.best {C:rufact->Nat->Prop} (h:TabN C now):BestF (fun f n=>now.getD (codeF f) 0≠0/\n=now.getD (codeF f) 0) now :=
 ⟨h.len,h.rng,fun f hf=>⟨fun e n k=>k.1 e,fun e=>⟨⟨e,rfl⟩,fun n k=>by rw[k.2];exact D1 _⟩⟩⟩
theorem gt252 (hv:v.length=252) (hn:n<252):v[0+D2 (n:Int) * 1]? = some (v.getD n 0):=by
 rw[E7,Nat.mul_one,C7,D0,B1 (by omega)];rfl
theorem ix252 (hn:n<252):decide ((0:Int)<=(n:Int)/\(n:Int)<((252:Nat):Int)/\0<1)=true:=dT ⟨by omega,by omega,by omega⟩
theorem bd252 (hv:v.length=252) (hn:n<252):decide ((0+D2 (n:Int) * 1)<v.length)=true:=dT oM
theorem st252 (n:Nat):0+D2 (n:Int) * 1=n:=by omega
theorem qgx {w:LA} (hw:V8 w) {now:LA} (hn:now.length=252) (hr:∀ i,0<=now.getD i 0/\now.getD i 0<=500) (K:Int->LS):∀ (body:Lq) (k:Nat) (v:Int),(∀ x,x∈body->fitP x.qg.qc x.qg.qa/\bnd w x.qg.qa)->0<=v->v+500 * body.length<=1000000 ->
  Yb w now K body k v=K (v+sumT now ((posB (body.map toL)).map fun x=>groundF w x.qg))
 | [],k,v,_,_,_=>by
  rw[Yb];show K v=K (v+0);rw[Int.add_zero]
 | x::body,k,v,h,h0,hl=>by
  rw[A8]at hl;have hx:=h x (A2 ..)
  have ih:=fun v' a b=>qgx hw hn hr K body (k+1) v' (fun y hy=>h y (A1 _ hy)) a b
  rw[Yb];unfold Ut;by_cases hnot:x.qw=true
  .have e:posB ((x::body).map toL)=posB (body.map toL):=by
    rw[A4];unfold posB;rw[A5,if_neg (by simp[toL,hnot])]
   rw[hnot,A7,cN,e];exact ih v h0 oM
  have hnot':x.qw=false:=by simpa using hnot
  have e:posB ((x::body).map toL)=toL x::posB (body.map toL):=by
   rw[A4];unfold posB;rw[A5,if_pos (by simp[toL,hnot])]
  obtain⟨o1,o2,o3⟩:=Jw (a:=toA x.qg) hw hx.1 hx.2;have hc:=QM o1;have hrc:=hr (codeF (groundF w (toA x.qg)));rw[hnot',A6,cT,e,NH (dT hw.1),Vw hw hx.1 hx.2];simp only[A0];rw[NH (ix252 hc),gt252 hn hc];simp only[A0];rw[wrap64 (by omega) (by omega),ih _ (by omega) (by omega),A4];show _=K (v+(now.getD (codeF (groundF w (toA x.qg))) 0+_));rw[Int.add_assoc]
def costW (now:LA) (r:ruRule) (w:LA):Int:=1+sumT now ((posB r.qe).map fun x=>groundF w x.qg)
theorem qbE {now:LA} (hr:∀ i,0<=now.getD i 0/\now.getD i 0<=500):∀ gs,0<=sumT now gs
 | []=>D1 _
 | g::gs=>by
  have:=hr (codeF g);have:=qbE hr gs;unfold sumT;omega
theorem qgy {ar:Int->Nat} {r:rf3Rule} (hrl:okL ar (toR r)) {N now:LM×LA} (hN:N.1.length=252) (hn:now.2.length=252) (hr:∀ i,0<=now.2.getD i 0/\now.2.getD i 0<=500) (K41:LA->LS):∀ (ws:Li) (k:Nat) (v:LA) (K:rufact->Int->Prop),BestF K v->(∀ w,w∈ws->V8 w/\∀ a,a∈atomsU (toR r)->bnd w a.qa) ->
  ∃ v',YY N.1 r now.2 K41 ws k v=K41 v'/\BestF (fun f m=>K f m\/∃ w,w∈ws/\FreeP (setB N.1) w (toR r).qe/\groundF w (toR r).qi=f/\m=costW now.2 (toR r) w/\m<=500) v'
 | [],k,v,K,hb,_=>⟨v,by rw[YY],hb.same fun f m _=>⟨.inl,fun h=>h.elim id (fun ⟨w,hw,_⟩=>by simp at hw)⟩⟩
 | w::ws,k,v,K,hb,h=>by
  obtain⟨hw,hbw⟩:=h w (A2 ..)
  have hbl:r.qe.length<=3:=by have:=hrl.1.1;simpa[toR] using this
  have hbd:∀ x,x∈r.qe->fitP x.qg.qc x.qg.qa/\bnd w x.qg.qa:=fun x hx =>
   ⟨(hrl.body (toL x) (List.mem_map.2 ⟨x,hx,rfl⟩)).1,hbw (toA x.qg) (A1 _ (List.mem_map.2 ⟨toL x,List.mem_map.2 ⟨x,hx,rfl⟩,rfl⟩))⟩
  have hhd:fitP r.qi.qc r.qi.qa/\bnd w r.qi.qa:=⟨hrl.head.1,hbw _ (A2 ..)⟩;obtain⟨o1,o2,o3⟩:=Jw (a:=toA r.qi) hw hhd.1 hhd.2;have hc:=QM o1;have hpos:=qbE hr ((posB (toR r).qe).map fun x=>groundF w x.qg)
  have step:∃ v1,(∀ K47,ZF N.1 r w v K47 (costW now.2 (toR r) w)=K47 v1)/\BestF (fun f m=>K f m\/(FreeP (setB N.1) w (toR r).qe/\groundF w (toR r).qi=f/\m=costW now.2 (toR r) w/\m<=500)) v1:=by
   have hopen:∀ K47,ZF N.1 r w v K47 (costW now.2 (toR r) w)=bif decide (FreeP (setB N.1) w (toR r).qe) then (bif decide (costW now.2 (toR r) w<=500) then (bif (v.getD (codeF (groundF w (toA r.qi))) 0 == 0) then K47 (v.set (codeF (groundF w (toA r.qi))) (costW now.2 (toR r) w)) else (bif decide (costW now.2 (toR r) w<v.getD (codeF (groundF w (toA r.qi))) 0) then K47 (v.set (codeF (groundF w (toA r.qi))) (costW now.2 (toR r) w)) else K47 v)) else K47 v) else K47 v:=fun K47=>by
    unfold ZF Yq;rw[NH (dT hw.1),Vw hw hhd.1 hhd.2];simp only[A0];rw[NH (dT hw.1),NH (dT hN),qdf hw hN hbl fun x hx _=>hbd x hx];simp only[A0];rw[NH (ix252 hc),gt252 hb.1 hc];simp only[A0,cT,cN];rw[NH (ix252 hc),NH (bd252 hb.1 hc),st252,NH (ix252 hc)]
   by_cases hfr:FreeP (setB N.1) w (toR r).qe
   .by_cases h5:costW now.2 (toR r) w<=500
    .have h1:1<=costW now.2 (toR r) w:=by unfold costW;omega
     by_cases hset:v.getD (codeF (groundF w (toA r.qi))) 0=0\/costW now.2 (toR r) w<v.getD (codeF (groundF w (toA r.qi))) 0
     .refine⟨v.set (codeF (groundF w (toA r.qi))) (costW now.2 (toR r) w),fun K47=>?_,(hb.put o1 h1 h5 oM).same fun f m _=>?_⟩
      .rw[hopen,dT hfr,cT,dT h5,cT]
       rcases hset with e | e
       .rw[e,show ((0:Int) == 0)=true from rfl,cT]
       rw[dT e,cT];cases v.getD (codeF (groundF w (toA r.qi))) 0 == 0 <;> rfl
      exact⟨fun h=>h.imp id fun ⟨a,b⟩=>⟨hfr,a.symm,b,by rw[b];exact h5⟩,fun h=>h.imp id fun ⟨_,a,b,_⟩=>⟨a.symm,b⟩⟩
     refine⟨v,fun K47=>?_,(hb.keep o1 (n:=costW now.2 (toR r) w) ⟨fun e=>hset (.inl e),by omega⟩).same fun f m _=>?_⟩
     .rw[hopen,dT hfr,cT,dT h5,cT,show (v.getD (codeF (groundF w (toA r.qi))) 0 == 0)=false from beq_eq_false_iff_ne.2 fun e=>hset (.inl e),cN,dF (fun e=>hset (.inr e)),cN]
     exact⟨fun h=>h.imp id fun ⟨a,b⟩=>⟨hfr,a.symm,b,by rw[b];exact h5⟩,fun h=>h.imp id fun ⟨_,a,b,_⟩=>⟨a.symm,b⟩⟩
    exact⟨v,fun K47=>by rw[hopen,dT hfr,cT,dF h5,cN],hb.same fun f m _=>⟨.inl,fun h=>h.elim id fun ⟨_,_,a,b⟩=>absurd (a ▸ b) h5⟩⟩
   exact⟨v,fun K47=>by rw[hopen,dF hfr,cN],hb.same fun f m _=>⟨.inl,fun h=>h.elim id fun ⟨a,_⟩=>absurd a hfr⟩⟩
  obtain⟨v1,s1,s2⟩:=step
  obtain⟨v2,t1,t2⟩:=qgy hrl (N:=N) (now:=now) hN hn hr K41 ws (k+1) v1 _ s2 fun u hu=>h u (A1 _ hu)
  refine⟨v2,?_,t2.same fun f m _=>?_⟩
  .rw[YY,NH (dT hw.1),NH (dT ⟨hw.1,by simp⟩),NH (qy (by omega)),qgx hw hn hr _ r.qe 0 1 hbd (by omega) (by omega)];rw[show (1:Int)+sumT now.2 ((posB (r.qe.map toL)).map fun x=>groundF w x.qg)=costW now.2 (toR r) w from rfl,s1];exact t1
  constructor
  .rintro ((a | a) | ⟨u,u1,u2⟩)
   .exact .inl a
   .exact .inr ⟨w,A2 ..,a⟩
   exact .inr ⟨u,A1 _ u1,u2⟩
  rintro (a | ⟨u,u1,u2⟩)
  .exact .inl (.inl a)
  rcases List.mem_cons.1 u1 with rfl | u1
  .exact .inl (.inr u2)
  exact .inr ⟨u,u1,u2⟩
theorem qgz {ar:Int->Nat} {fuel:Nat} (hf:5<=fuel) {N S:LM} {now:LA} (hN:N.length=252) (hS:S.length=252) (hn:now.length=252) (hr:∀ i,0<=now.getD i 0/\now.getD i 0<=500) (K38:LA->LS):∀ (L:LN) (k:Nat) (v:LA) (K:rufact->Int->Prop),(∀ r,r∈L->okL ar (toR r))->BestF K v ->
  ∃ v',Yc fuel N now S K38 L k v=K38 v'/\BestF (fun f m=>K f m\/∃ r,r∈L.map toR/\∃ w,InstP (setB S) r.qe v0 w/\FreeP (setB N) w r.qe/\groundF w r.qi=f/\m=costW now r w/\m<=500) v'
 | [],k,v,K,_,hb=>⟨v,by rw[Yc],hb.same fun f m _=>⟨.inl,fun h=>h.elim id (fun ⟨r,hr,_⟩=>by simp at hr)⟩⟩
 | r::L,k,v,K,hL,hb=>by
  have hrl:=hL r (A2 ..)
  have hbl:r.qe.length<=3:=by have:=hrl.1.1;simpa[toR] using this
  have hiv:=Yt (r:=r) hbl (fun x hx=>by
   have:=(hrl.body (toL x) (List.mem_map.2 ⟨x,hx,rfl⟩)).1
   exact⟨qI this,this.2.1.2⟩) hS r.qe.length fuel 0 v0 oM oM (by simp)
  rw[D4]at hiv;replace hiv:jV fuel r S 0 (A9 8 0)=some (instR S (r.qe.map toL) v0):=hiv
  have hmem:∀ w,w∈instR S (r.qe.map toL) v0↔InstP (setB S) (toR r).qe v0 w:=fun w=>Vu _ _ _
  have hlen:(instR S (r.qe.map toL) v0).length<=16003008:=by
   have h1:=Vv S (r.qe.map toL) v0;rw[A3]at h1;have h2:252 ^ r.qe.length<=252 ^ 3:=Nat.pow_le_pow_right oM hbl
   have:252 ^ 3=16003008:=by decide
   omega
  obtain⟨v1,a1,a2⟩:=qgy hrl (N:=(N,[])) (now:=([],now)) hN hn hr (DF (Yc fuel N now S K38 L (k+1))) (instR S (r.qe.map toL) v0) 0 v K hb fun w hw=>hrl.inst (HX S) ((hmem w).1 hw)
  obtain⟨v2,b1,b2⟩:=qgz hf hN hS hn hr K38 L (k+1) v1 _ (fun q hq=>hL q (A1 _ hq)) a2;refine⟨v2,?_,b2.same fun f m _=>?_⟩
  .rw[Yc,NH (dT hS),hiv];simp only[A0];rw[NH (qy (by omega))];exact a1.trans b1
  rw[A4];constructor
  .rintro ((a | ⟨w,w1,w2⟩) | ⟨q,q1,q2⟩)
   .exact .inl a
   .exact .inr ⟨toR r,A2 ..,w,(hmem w).1 w1,w2⟩
   exact .inr ⟨q,A1 _ q1,q2⟩
  rintro (a | ⟨q,q1,w,w1,w2⟩)
  .exact .inl (.inl a)
  rcases List.mem_cons.1 q1 with rfl | q1
  .exact .inl (.inr ⟨w,(hmem w).2 w1,w2⟩)
  exact .inr ⟨q,q1,w,w1,w2⟩
theorem qgA (K29:LA->LS):∀ (l:LG) (k:Nat) (v:LA) (K:rufact->Int->Prop),(∀ f,f∈l->groundP f)->BestF K v ->
  ∃ v',YZ K29 l k v=K29 v'/\BestF (fun f m=>K f m\/(f∈l.map toF/\m=1)) v'
 | [],k,v,K,_,hb=>⟨v,by rw[YZ],hb.same fun f m _=>⟨.inl,fun h=>h.elim id (fun h=>by simp at h)⟩⟩
 | x::l,k,v,K,h,hb=>by
  have hg:=h x (A2 ..);have hok:=(Xz hg).1;have hc:=QM hok;have hrc:=hb.2.1 (codeF (toF x));obtain⟨v2,b1,b2⟩:=qgA K29 l (k+1) _ _ (fun f hf=>h f (A1 _ hf)) (hb.put hok (n:=1) oM oM oM);refine⟨v2,?_,b2.same fun f m _=>?_⟩
  .rw[YZ,UU hg];simp only[A0];rw[NH (ix252 hc),NH (bd252 hb.1 hc),st252];exact b1
  rw[A4,D7];constructor
  .rintro ((a | ⟨a,b⟩) | ⟨a,b⟩)
   .exact .inl a
   .exact .inr ⟨.inl a,b⟩
   exact .inr ⟨.inr a,b⟩
  rintro (a | ⟨a | a,b⟩)
  .exact .inl (.inl a)
  .exact .inl (.inr ⟨a,b⟩)
  exact .inr ⟨a,b⟩
theorem qgB {now:LA} (hn:now.length=252) (K19:LM->LS):∀ (L:LP) (k:Nat) (S:LM),k+L.length=252->S.length=252->(∀ i,i<k->S.getD i false=decide (now.getD i 0 > 0)) ->
  ∃ S',Za now K19 L k S=K19 S'/\S'.length=252/\∀ i,i<252->S'.getD i false=decide (now.getD i 0 > 0)
 | [],k,S,hk,hS,h=>⟨S,by rw[Za],hS,fun i hi=>h i (by simp at hk;omega)⟩
 | x::L,k,S,hk,hS,h=>by
  rw[A8]at hk
  have hlt:k<252:=by omega
  obtain⟨S',a,b,c⟩:=qgB hn K19 L (k+1) (S.set k (decide (now.getD k 0 > 0))) oM (by rw[E8];exact hS) fun i hi=>by
   rw[D0,List.getElem?_set];by_cases e:k=i
   .subst e;rw[if_pos rfl,if_pos (by omega)];rfl
   rw[if_neg e,<- D0];exact h i oM
  refine⟨S',?_,b,c⟩;rw[Za,NH (ix252 hlt),gt252 hn hlt];simp only[A0];rw[NH (ix252 hlt),NH (dT (by omega)),st252];exact a
theorem qjo (hL:∀ r,r∈L->okL ar r) {S:LA} (h:TabN (Cost L G X d) now) {SB:LM} (hSB:∀ i,i<252->SB.getD i false=decide (now.getD i 0 > 0)) 
  (hb:BestF (fun f m=>((now.getD (codeF f) 0≠0/\m=now.getD (codeF f) 0)\/(G f/\m=1))\/∃ r,r∈L/\∃ w,InstP (setB SB) r.qe v0 w/\FreeP X w r.qe/\groundF w r.qi=f/\m=costW now r w/\m<=500) v):TabN (Cost L G X (d+1)) v:=by
 have hset:∀ g,setB SB g↔okU1 g/\now.getD (codeF g) 0≠0:=fun g=>by
  unfold setB
  refine and_congr_right fun ho=>?_
  rw[hSB _ (QM ho),decide_eq_true_iff];have:=h.rng (codeF g);omega
 have hmem:∀ {r:ruRule},r∈L->∀ {w:LA},V8 w->(∀ a,a∈atomsU r->bnd w a.qa)->∀ g,g∈(posB r.qe).map (fun x=>groundF w x.qg)->okU1 g:=fun hr w hw hbw g hg=>by
  obtain⟨x,hx,rfl⟩:=List.mem_map.1 hg;have hxb:=(List.mem_filter.1 hx).1;exact (Jw hw ((hL _ hr).body x hxb).1 (hbw _ (A1 _ (List.mem_map.2 ⟨x,hxb,rfl⟩)))).1
 have sound:∀ f m,okU1 f->((((now.getD (codeF f) 0≠0/\m=now.getD (codeF f) 0)\/(G f/\m=1))\/∃ r,r∈L/\∃ w,InstP (setB SB) r.qe v0 w/\FreeP X w r.qe/\groundF w r.qi=f/\m=costW now r w/\m<=500))->Cost L G X (d+1) f m.toNat:=fun f m ho hm=>by
  rcases hm with (⟨a,rfl⟩ | ⟨a,rfl⟩) | ⟨r,hr,w,w1,w2,w3,w4,w5⟩
  .exact (h.some f ho a).1.succ
  .rw[Cost];exact .inl ⟨a,rfl⟩
  obtain⟨c1,c2⟩:=(hL r hr).inst (HX SB) w1
  have hpos:∀ g,g∈(posB r.qe).map (fun x=>groundF w x.qg)->okU1 g/\now.getD (codeF g) 0≠0:=fun g hg=>by
   refine (hset g).1 ?_;obtain⟨x,hx,rfl⟩:=List.mem_map.1 hg
   have key:∀ (body:LQ) (v u:LA),InstP (setB SB) body v u->V8 v->(∀ x,x∈body->fitP x.qg.qc x.qg.qa)->Ext v u/\∀ x,x∈posB body->setB SB (groundF u x.qg):=by
    intro body
    induction body with
    | nil =>
     intro v u hi hv _;have:u=v:=hi;subst this;exact⟨Ext.refl _,fun x hx=>by simp[posB]at hx⟩
    | cons y body ih =>
     intro v u hi hv hb
     have hb':=fun z (hz:z∈body)=>hb z (A1 _ hz)
     rcases hi with ⟨hn,hi⟩ | ⟨hn,g,u1,k1,k2,k3,k4,k5⟩
     .have e:posB (y::body)=posB body:=by unfold posB;rw[A5,if_neg (by simp[hn])]
      rw[e];exact ih v u hi hv hb'
     have e:posB (y::body)=y::posB body:=by unfold posB;rw[A5,if_pos (by simp[hn])]
     have hfy:=hb y (A2 ..);obtain⟨p1,p2,p3⟩:=QB k4 hv (qI hfy) (ZV k1.1);obtain⟨q1,q2⟩:=Zv k4 hv (qI hfy) (ZV k1.1) k3.symm;obtain⟨i1,i2⟩:=ih u1 u k5 p1 hb';refine⟨q1.trans i1,fun x hx=>?_⟩;rw[e]at hx
     rcases List.mem_cons.1 hx with rfl | hx
     .rw[i1.groundF p3]
      have:groundF u1 x.qg=g:=by
       unfold groundF mkF;rw[q2,<- k2];have hg1:=k1.1;unfold argsF;split
       .rename_i e0;cases g;simp only at e0;subst e0;rfl
       rfl
      rw[this];exact k1
     exact i2 x hx
   exact (key r.qe v0 w w1 V8_0 fun x hx=>((hL r hr).body x hx).1).2 x hx
  obtain⟨e1,e2,e3⟩:=DP h hpos;rw[Cost];refine .inr ⟨r,hr,w,c1,c2,w3,w2,_,e1,?_⟩;rw[w4];unfold costW;omega
 have compl:∀ f n,okU1 f->Cost L G X (d+1) f n->n<=500->∃ m:Int,(((now.getD (codeF f) 0≠0/\m=now.getD (codeF f) 0)\/(G f/\m=1))\/∃ r,r∈L/\∃ w,InstP (setB SB) r.qe v0 w/\FreeP X w r.qe/\groundF w r.qi=f/\m=costW now r w/\m<=500)/\m<=n:=fun f n ho hc h5=>by
  rw[Cost]at hc
  rcases hc with ⟨a,rfl⟩ | ⟨r,hr,w,w1,w2,w3,w4,s,w5,w6⟩
  .exact⟨1,.inl (.inr ⟨a,rfl⟩),by omega⟩
  obtain⟨e1,e2⟩:=DO h (hmem hr w1 w2) w5 oM
  have hbw:∀ x,x∈r.qe->bnd w x.qg.qa:=fun x hx=>w2 _ (A1 _ (List.mem_map.2 ⟨x,hx,rfl⟩))
  obtain⟨u,u1,u2⟩:=Zq (P:=setB SB) r.qe v0 w (fun x hx=>((hL r hr).body x hx).1) V8_0 w1 (Ext.zero w) hbw fun x hx=>by
   have hgm:groundF w x.qg∈(posB r.qe).map fun x=>groundF w x.qg:=List.mem_map.2 ⟨x,hx,rfl⟩
   exact (hset _).2 ⟨hmem hr w1 w2 _ hgm,e1 _ hgm⟩
  obtain⟨c1,c2⟩:=(hL r hr).inst (HX SB) u1
  have hge:∀ a,a∈atomsU r->groundF u a=groundF w a:=fun a ha=>(u2.groundF (c2 a ha)).symm
  have hsum:costW now r u=costW now r w:=by
   unfold costW
   congr 2
   exact List.map_congr_left fun x hx=>hge _ (A1 _ (List.mem_map.2 ⟨x,(List.mem_filter.1 hx).1,rfl⟩))
  have hle:costW now r w<=n:=by unfold costW;omega
  refine⟨costW now r u,.inr ⟨r,hr,u,u1,fun x hx hn hy=>w4 x hx hn ?_,by rw[hge _ (A2 ..)];exact w3,rfl,by omega⟩,by omega⟩;rw[<- hge _ (A1 _ (List.mem_map.2 ⟨x,hx,rfl⟩))];exact hy
 refine⟨hb.1,hb.2.1,fun f ho e n hc=>?_,fun f ho e=>⟨sound f _ ho ((hb.2.2 f ho).2 e).1,fun n hc=>?_⟩⟩
 .by_cases h5:n<=500
  .obtain⟨m,m1,_⟩:=compl f n ho hc h5;exact absurd m1 ((hb.2.2 f ho).1 e m)
  omega
 have r:=hb.2.1 (codeF f);by_cases h5:n<=500
 .obtain⟨m,m1,m2⟩:=compl f n ho hc h5;have:=((hb.2.2 f ho).2 e).2 m m1;omega
 omega
def LeastV (C:Nat->rufact->Nat->Prop) (f:rufact) (r:Int×Int):Prop :=
 (r=(0,0)/\∀ n,C 40 f n->500<n)\/∃ d n:Nat,r=(((d+1:Nat):Int),(n:Int))/\d<40/\n<=500/\(∀ m,C d f m->500<m)/\C (d+1) f n/\∀ m,C (d+1) f m->n<=m
theorem LeastV.uniq {C:Nat->rufact->Nat->Prop} (hm:∀ d e f n,d<=e->C d f n->C e f n) {f:rufact} {r s:Int×Int} (h:LeastV C f r) (k:LeastV C f s):r=s:=by
 rcases h with ⟨rfl,h⟩ | ⟨d,n,rfl,h1,h2,h3,h4,h5⟩
 .rcases k with ⟨rfl,k⟩ | ⟨e,m,rfl,k1,k2,k3,k4,k5⟩
  .rfl
  have:=h m (hm _ _ _ _ oM k4);omega
 rcases k with ⟨rfl,k⟩ | ⟨e,m,rfl,k1,k2,k3,k4,k5⟩
 .have:=k n (hm _ _ _ _ oM h4);omega
 have hde:d=e:=by
  by_cases a:d<e
  .have:=k3 n (hm _ _ _ _ oM h4);omega
  by_cases b:e<d
  .have:=h3 m (hm _ _ _ _ oM k4);omega
  omega
 subst hde;have:=h5 m k4;have:=k5 n h4
 have:n=m:=by omega
 subst this;rfl
theorem qlL (hL:∀ r,r∈L->okL ar r) (h:TabN (Cost L G X d) now) (h':TabN (Cost L G X (d+1)) now):TabN (Cost L G X (d+2)) now:=by
 have low:∀ f n,n<=500->Cost L G X (d+2) f n->∃ m,m<=n/\Cost L G X (d+1) f m:=fun f n h5 hc=>by
  rw[Cost]at hc
  rcases hc with ⟨a,rfl⟩ | ⟨r,hr,w,w1,w2,w3,w4,s,w5,w6⟩
  .exact⟨1,C0 _,by rw[Cost];exact .inl ⟨a,rfl⟩⟩
  have hmem:∀ g,g∈(posB r.qe).map (fun x=>groundF w x.qg)->okU1 g:=fun g hg=>by
   obtain⟨x,hx,rfl⟩:=List.mem_map.1 hg;have hxb:=(List.mem_filter.1 hx).1;exact (Jw w1 ((hL _ hr).body x hxb).1 (w2 _ (A1 _ (List.mem_map.2 ⟨x,hxb,rfl⟩)))).1
  obtain⟨e1,e2⟩:=DO h' hmem w5 oM
  obtain⟨c1,c2,c3⟩:=DP h (gs:=(posB r.qe).map (fun x=>groundF w x.qg)) fun g hg=>⟨hmem g hg,e1 g hg⟩
  refine⟨1+(sumT now ((posB r.qe).map fun x=>groundF w x.qg)).toNat,by omega,?_⟩;rw[Cost];exact .inr ⟨r,hr,w,w1,w2,w3,w4,_,c1,rfl⟩
 refine⟨h'.len,h'.rng,fun f ho e n hc=>?_,fun f ho e=>⟨(h'.some f ho e).1.succ,fun n hc=>?_⟩⟩
 .by_cases h5:n<=500
  .obtain⟨m,m1,m2⟩:=low f n h5 hc;have:=h'.none f ho e m m2;omega
  omega
 have r:=h'.rng (codeF f);by_cases h5:n<=500
 .obtain⟨m,m1,m2⟩:=low f n h5 hc;have:=(h'.some f ho e).2 m m2;omega
 omega
theorem qfQ {ar:Int->Nat} {L:LH} {G X:rufact->Prop} (hL:∀ r,r∈L->okL ar r) {d:Nat} {now:LA} (h:TabN (Cost L G X d) now) (h':TabN (Cost L G X (d+1)) now):∀ k,TabN (Cost L G X (d+k)) now/\TabN (Cost L G X (d+k+1)) now
 | 0=>⟨h,h'⟩
 | k+1=>by
  obtain⟨a,b⟩:=qfQ hL h h' k;exact⟨b,qlL hL a b⟩
theorem qgC {ar:Int->Nat} {fuel:Nat} (hf:5<=fuel) {l:LN} (hl:l.length<=12) (hL:∀ r,r∈l->okL ar (toR r)) {facts:LG} (hfl:facts.length<=100) (hg:∀ f,f∈facts->groundP f) {N:LM} (hN:N.length=252) {f:apiFact} (hf1:groundP f):∀ (k m d:Nat) (now:LA),k+d=40->k+1<=m->TabN (Cost (l.map toR) (fun g=>g∈facts.map toF) (setB N) d) now->(∀ n,Cost (l.map toR) (fun g=>g∈facts.map toF) (setB N) d (toF f) n->500<n) ->
  ∃ r,JR fuel l facts N f Xn m now ((d+1:Nat):Int)=some r/\LeastV (Cost (l.map toR) (fun g=>g∈facts.map toF) (setB N)) (toF f) r
 | 0,m+1,d,now,hk,hm,ht,hno=>by
  refine⟨(0,0),?_,.inl ⟨rfl,?_⟩⟩
  .rw[JR,dF (by omega),cN];rfl
  have:d=40:=by omega
  subst this;exact hno
 | k+1,m+1,d,now,hk,hm,ht,hno=>by
  have hok:=(Xz hf1).1;have hc:=QM hok
  have hL':∀ r,r∈l.map toR->okL ar r:=fun r hr=>by
   obtain⟨q,hq,rfl⟩:=List.mem_map.1 hr;exact hL q hq
  obtain⟨SB,s1,s2,s3⟩:=qgB ht.len (Uv fuel l facts N f now ((d+1:Nat):Int) (JR fuel l facts N f Xn m)) (List.range (D2 252)) 0 (A9 252 false) (by simp) (by simp) fun i hi=>by omega
  obtain⟨v1,a1,a2⟩:=qgA (Uu fuel l N f now ((d+1:Nat):Int) SB (JR fuel l facts N f Xn m)) facts 0 now _ hg ht.best;obtain⟨v2,b1,b2⟩:=qgz hf hN s2 ht.len ht.rng (ZG f now ((d+1:Nat):Int) (JR fuel l facts N f Xn m)) l 0 v1 _ hL a2;have ht2:TabN (Cost (l.map toR) (fun g=>g∈facts.map toF) (setB N) (d+1)) v2:=qjo (S:=[]) hL' ht s3 b2
  have hopen:JR fuel l facts N f Xn (m+1) now ((d+1:Nat):Int)=ZG f now ((d+1:Nat):Int) (JR fuel l facts N f Xn m) v2:=by
   rw[JR,dT (by omega),cT,NH (dT ht.len),NH (dT ⟨ht.len,by simp⟩),NH (qy (by simp)),s1];unfold Uv;rw[NH (qy (by omega)),a1];unfold Uu;rw[NH (qy (by omega)),b1]
  rw[hopen];unfold ZG;rw[UU hf1];simp only[A0];rw[NH (ix252 hc),gt252 ht2.len hc];simp only[A0];have hr2:=ht2.rng (codeF (toF f));by_cases hp:v2.getD (codeF (toF f)) 0 > 0
  .rw[dT hp,cT];obtain⟨c1,c2⟩:=ht2.some _ hok oM;refine⟨_,rfl,.inr ⟨d,(v2.getD (codeF (toF f)) 0).toNat,?_,by omega,by omega,hno,c1,c2⟩⟩;rw[Int.toNat_of_nonneg hr2.1]
  rw[dF hp,cN,NH (dT ht2.len),NH (dT ht.len),NH (dT ⟨ht2.len,ht.len⟩)];have hno2:=ht2.none _ hok oM;by_cases he:v2=now
  .rw[he,beq_self_eq_true,cT];refine⟨(0,0),rfl,.inl ⟨rfl,?_⟩⟩;have:=(qfQ hL' ht (he ▸ ht2) (40 - d)).1;rw[show d+(40 - d)=40 by omega]at this;refine this.none _ hok ?_;rw[<- he];omega
  rw[show (v2 == now)=false from beq_eq_false_iff_ne.2 he,cN,NH (dT ht2.len),NH (dT ⟨ht2.len,ht.len⟩),wrap64 (by omega) (by omega),show ((d+1:Nat):Int)+1=((d+1+1:Nat):Int) by omega];exact qgC hf hl hL hfl hg hN hf1 k m (d+1) v2 oM oM ht2 hno2
theorem Nh {fuel:Nat} (hf:100<=fuel) (hl:l.length<=12) (hL:∀ r,r∈l->okL ar (toR r)) (hfl:facts.length<=100) (hg:∀ f,f∈facts->groundP f) {N:LM} (hN:N.length=252) {f:apiFact} (hf1:groundP f) :
  ∃ r,Vr fuel l facts N f=some r/\LeastV (Cost (l.map toR) (fun g=>g∈facts.map toF) (setB N)) (toF f) r:=by
 unfold Vr;rw[NH (by cases N <;> simp_all)]
 exact qgC oM hl hL hfl hg hN hf1 40 fuel 0 (A9 252 0) rfl oM TabN.zero fun n h=>h.elim
theorem qex {C:rufact->Nat->Prop}:∀ {l:LU},(∀ p,p∈l->C (toF p.qd) (nT p))->CostsL C (l.map fun p=>toF p.qd) (nTs l)
 | [],_=>by rw[nTs];rfl
 | p::l,h=>by
  rw[nTs];exact⟨nT p,nTs l,h p (A2 ..),qex fun q hq=>h q (A1 _ hq),rfl⟩
theorem Vn {L:LH} {G X:rufact->Prop}:∀ (n:Nat) (p:ruProof),HoldsN L G X n p->Cost L G X (hT p) (toF p.qd) (nT p)
 | n+1,p,h=>by
  rw[HoldsN]at h;obtain⟨hg,h⟩:=h;have h1:=qaM p;have h2:=qiQ p;rw[show hT p=hTs p.qj+1 by omega,Cost]
  rcases h with ⟨a,b,c⟩ | ⟨a,r,b,c,w,w1,w2,w3,w4,w5⟩
  .left;refine⟨c,?_⟩;rw[h2,b,nTs]
  right;refine⟨r,D6 b,w,w1,w2,w3,w5,nTs p.qj,?_,h2⟩;rw[w4,D5]
  exact qex fun s hs=>(Vn n s (c s hs)).le (Uj hs)
theorem qjn (h:HoldsN L G X n p) {k:Nat} (hk:k<=500) (hn:nT p=k) (hd:hT p<=d+1) (hl:∀ m,Cost L G X d (toF p.qd) m->500<m):hT p=d+1:=by
 by_cases c:hT p<=d
 .have:=hl _ ((Vn n p h).le c);omega
 omega
theorem HoldsN.succ {L:LH} {G X:rufact->Prop}:∀ {n:Nat} {p:ruProof},HoldsN L G X n p->HoldsN L G X (n+1) p
 | 0,p,h=>h.elim
 | n+1,p,h=>by
  rw[HoldsN]at h ⊢;obtain⟨a,b | ⟨b,r,c,d,e⟩⟩:=h
  .exact⟨a,.inl b⟩
  exact⟨a,.inr ⟨b,r,c,fun s hs=>(d s hs).succ,e⟩⟩
theorem HoldsN.le {m:Nat} (h:n<=m) (k:HoldsN L G X n p):HoldsN L G X m p:=by
 induction h with
 | refl=>exact k
 | step _ ih=>exact ih.succ
theorem qjA {fuel:Nat} (hf:400<=fuel) (hv:VR l facts) (har:arW (arVR l facts) (setB S)) (hS:S.length=252) (ho:okT p) (h:HoldsN (l.map toR) (fun g=>g∈facts.map toF) (setB S) 50 p) (hn:nT p<=500) (hd:hT p<=40) :
  Dd fuel l facts S (ownT p)=some true:=by
 obtain⟨gv,S0,g1,g2,g3⟩:=VQ (by have:=hv.2.1;omega:facts.length<=100) hv.2.2.1 hv.facts_ar
 have hG:∀ g,setB S0 g↔g∈facts.map toF:=fun g=>by
  obtain⟨a1,a2,a3,a4⟩:=NT.empty.add (fr:=facts.map toF)
  have:QS facts=some (addF [] (facts.map toF)):=by
   unfold QS;rw[NH (qy (by have:=hv.2.1;omega)),UP _ facts 0 [] hv.2.2.1 NT.empty (by have:=hv.2.1;simp;omega)];rfl
  rw[g1]at this;cases this;rw[<- g3.same];show g∈_↔_;rw[a2];simp
 unfold Dd Vh;rw[NH (by cases S <;> simp_all),qcA fuel p (by omega) ho];simp only[A0];rw[if_pos hn,dT (by omega),cT,show (40:Int)=((40:Nat):Int) from rfl,Dt fuel p 40 (by omega) ho (by omega)];simp only[A0];rw[if_pos hd,dT (by omega),cT,g2];simp only[A0];rw[NH (dT hS),qfS hv.okL g3.len hS 50 fuel p (by omega) (by omega) ho];simp only[A0];rw[dT (by rw[show setB S0=fun g=>g∈facts.map toF from funext fun g=>propext (hG g)];exact h)]
structure WayP where
 nodes:Nat
 rule:Int
 sub:LI
abbrev LevP:=rufact->Option WayP
def SumN (K:LevP):LI->Nat->Prop
 | [],s=>s=0
 | g::gs,s=>∃ w t,K g=some w/\SumN K gs t/\s=w.nodes+t
def WayOk (L:LH) (G X:rufact->Prop) (K:LevP) (f:rufact) (w:WayP):Prop :=
 (w.rule = -1/\w.sub=[]/\G f/\w.nodes=1)\/(0<=w.rule/\∃ r,L[w.rule.toNat]? = some r/\∃ v,V8 v/\(∀ a,a∈atomsU r->bnd v a.qa)/\groundF v r.qi=f/\FreeP X v r.qe/\w.sub=((posB r.qe).map fun x=>groundF v x.qg)/\∃ s,SumN K w.sub s/\w.nodes=min (1+s) 1000)
def BetterP (L:LH) (G X:rufact->Prop) (K K':LevP):Prop :=
 (∀ f w,K' f=some w->WayOk L G X K f w)/\∀ f w,WayOk L G X K f w->∃ w',K' f=some w'/\w'.nodes<=w.nodes
def TabP (C:rufact->Nat->Prop) (K:LevP):Prop:=∀ f,(∀ n,C f n->∃ w,K f=some w/\w.nodes<=n)/\∀ w,K f=some w->∃ n,C f n/\w.nodes=min n 1000
theorem TabP.zero:TabP (Cost L G X 0) (fun _=>none):=fun f=>⟨fun n h=>h.elim,fun w h=>by cases h⟩
theorem qiA {C:rufact->Nat->Prop} {K:LevP} (h:TabP C K):∀ {gs:LI} {s:Nat},CostsL C gs s->∃ t,SumN K gs t/\t<=s
 | [],s,hs=>⟨0,rfl,Nat.zero_le _⟩
 | g::gs,s,⟨m,t,a,b,c⟩=>by
  obtain⟨w,w1,w2⟩:=(h g).1 m a;obtain⟨u,u1,u2⟩:=qiA h b;exact⟨w.nodes+u,⟨w,u,w1,u1,rfl⟩,by omega⟩
theorem qiz {C:rufact->Nat->Prop} {K:LevP} (h:TabP C K):∀ {gs:LI} {s:Nat},SumN K gs s->∃ t,CostsL C gs t/\min s 1000=min t 1000
 | [],s,hs=>⟨0,rfl,by rw[SumN]at hs;omega⟩
 | g::gs,s,⟨w,t,a,b,c⟩=>by
  obtain⟨n,n1,n2⟩:=(h g).2 w a;obtain⟨u,u1,u2⟩:=qiz h b;exact⟨n+u,⟨n,u,n1,u1,rfl⟩,by omega⟩
theorem BetterP.tab {K K':LevP} (h:TabP (Cost L G X d) K) (hb:BetterP L G X K K'):TabP (Cost L G X (d+1)) K':=fun f=>by
 refine⟨fun n hc=>?_,fun w hw=>?_⟩
 .rw[Cost]at hc
  rcases hc with ⟨a,rfl⟩ | ⟨r,hr,v,v1,v2,v3,v4,s,v5,v6⟩
  .exact hb.2 f ⟨1,-1,[]⟩ (.inl ⟨rfl,rfl,a,rfl⟩)
  obtain⟨i,hi⟩:=List.mem_iff_getElem?.1 hr;obtain⟨t,t1,t2⟩:=qiA h v5;obtain⟨w',a,b⟩:=hb.2 f ⟨min (1+t) 1000,(i:Int),(posB r.qe).map fun x=>groundF v x.qg⟩ (.inr ⟨by simp,r,by simpa using hi,v,v1,v2,v3,v4,rfl,t,t1,rfl⟩);refine⟨w',a,?_⟩;simp only at b;omega
 rcases hb.1 f w hw with ⟨a,b,c,e⟩ | ⟨a,r,b,v,v1,v2,v3,v4,v5,s,v6,v7⟩
 .exact⟨1,by rw[Cost];exact .inl ⟨c,rfl⟩,by rw[e];rfl⟩
 obtain⟨t,t1,t2⟩:=qiz h v6;refine⟨1+t,?_,by omega⟩;rw[Cost];exact .inr ⟨r,D6 b,v,v1,v2,v3,v4,t,by rw[<- v5];exact t1,rfl⟩
def LevsP (L:LH) (G X:rufact->Prop) (K:Nat->LevP) (n:Nat):Prop:=(K 0=fun _=>none)/\∀ d,d<n->BetterP L G X (K d) (K (d+1))
theorem LevsP.tab {L:LH} {G X:rufact->Prop} {K:Nat->LevP} {n:Nat} (h:LevsP L G X K n):∀ d,d<=n->TabP (Cost L G X d) (K d)
 | 0,_=>by rw[h.1];exact TabP.zero
 | d+1,hd=>(h.2 d oM).tab (h.tab d oM)
def TreesP (T:rufact->ruProof->Prop):LI->LU->Prop
 | [],l=>l=[]
 | g::gs,l=>∃ p r,l=p::r/\T g p/\TreesP T gs r
def TreeP (K:Nat->LevP):Nat->rufact->ruProof->Prop
 | 0,_,_=>False
 | d+1,f,p=>∃ w,K (d+1) f=some w/\p.ql=w.rule/\p.qd=apiF f/\TreesP (TreeP K d) w.sub p.qj
theorem qfO {T:rufact->ruProof->Prop} {K:LevP} {H:ruProof->Prop} {d:Nat} (hT':∀ g p,okU1 g->T g p->H p/\okT p/\hT p<=d/\p.qd=apiF g/\∃ w,K g=some w/\(w.nodes<=500->nT p=w.nodes)):∀ {gs:LI} {l:LU},(∀ g,g∈gs->okU1 g)->TreesP T gs l ->
  (∀ p,p∈l->H p)/\okTs l/\hTs l<=d/\l.map ruProof.qd=gs.map apiF/\l.length=gs.length/\∀ s,SumN K gs s->s<=500->nTs l=s
 | [],l,_,h=>by
  have:l=[]:=h;subst this;exact⟨fun p hp=>by simp at hp,by rw[okTs];trivial,by rw[hTs];omega,rfl,rfl,fun s hs _=>by rw[nTs];exact hs.symm⟩
 | g::gs,l,ho,⟨p,r,e,a,b⟩=>by
  subst e;obtain⟨c1,c2,c3,c4,w,c5,c6⟩:=hT' g p (ho g (A2 ..)) a;obtain⟨i1,i2,i3,i4,i5,i6⟩:=qfO hT' (fun x hx=>ho x (A1 _ hx)) b;refine⟨fun q hq=>?_,by rw[okTs];exact⟨c2,i2⟩,by rw[hTs];omega,by rw[A4,A4,c4,i4],by rw[A8,A8,i5],fun s hs h5=>?_⟩
  .rcases List.mem_cons.1 hq with rfl | hq
   .exact c1
   exact i1 q hq
  obtain⟨w',t,k1,k2,k3⟩:=hs;rw[c5]at k1;cases k1;rw[nTs,c6 (by omega),i6 t k2 (by omega),k3]
theorem qfe {ar:Int->Nat} {L:LH} (hL:∀ r,r∈L->okL ar r) {G X:rufact->Prop} {K:Nat->LevP} {n:Nat} (h:LevsP L G X K n):∀ (d:Nat) (f:rufact) (p:ruProof),d<=n->okU1 f->TreeP K d f p->HoldsN L G X d p/\okT p/\hT p<=d/\p.qd=apiF f/\∃ w,K d f=some w/\(w.nodes<=500->nT p=w.nodes)
 | 0,f,p,_,_,ht=>ht.elim
 | d+1,f,p,hd,ho,⟨w,w1,w2,w3,w4⟩=>by
  obtain⟨g1,g2⟩:=qcb ho;have hh:=qaM p;have hn:=qiQ p
  have harg:p.qd.qa.length<=5:=by rw[w3];have:=g1.2.1.2;omega
  have sub:∀ gs,(∀ g,g∈gs->okU1 g)->TreesP (TreeP K d) gs p.qj->_:=fun gs hg ht=>qfO (H:=HoldsN L G X d) (K:=K d) (d:=d) (fun g q hg hq=>qfe hL h d g q oM hg hq) hg ht
  rcases (h.2 d oM).1 f w w1 with ⟨a,b,c,e⟩ | ⟨a,r,b,v,v1,v2,v3,v4,v5,s,v6,v7⟩
  .rw[b]at w4;have hs:p.qj=[]:=w4;refine⟨?_,(Nr p).2 ⟨harg,by rw[hs];simp,by rw[hs,okTs];trivial⟩,by rw[hh,hs,hTs];omega,w3,w,w1,fun _=>by rw[hn,hs,nTs,e]⟩;rw[HoldsN,w3];exact⟨g1,.inl ⟨w2.trans a,hs,by rw[g2];exact c⟩⟩
  have hr:=D6 b
  have hgs:∀ g,g∈w.sub->okU1 g:=fun g hg=>by
   rw[v5]at hg;obtain⟨x,hx,rfl⟩:=List.mem_map.1 hg;have hxb:=(List.mem_filter.1 hx).1;exact (Jw v1 ((hL _ hr).body x hxb).1 (v2 _ (A1 _ (List.mem_map.2 ⟨x,hxb,rfl⟩)))).1
  obtain⟨i1,i2,i3,i4,i5,i6⟩:=sub w.sub hgs w4;have hbl:(posB r.qe).length<=3:=Nat.le_trans (F8 ..) (hL r hr).1.1
  have hlen:p.qj.length<=6:=by rw[i5,v5,A3];omega
  refine⟨?_,(Nr p).2 ⟨harg,hlen,i2⟩,by omega,w3,w,w1,fun h5=>?_⟩
  .rw[HoldsN,w3];refine⟨g1,.inr ⟨by rw[w2];exact a,r,by rw[w2];exact b,i1,v,v1,v2,by rw[v3,g2],?_,v4⟩⟩;rw[i4,D5,<- v5]
   conv=>lhs;rw[<- List.map_id w.sub]
   exact List.map_congr_left fun g hg=>((qcb (hgs g hg)).2).symm
  have hs:=i6 s v6 oM;omega
theorem LevsP.found {K:Nat->LevP} (h:LevsP L G X K (d+1)) {f:rufact} {w:WayP} (hw:K (d+1) f=some w) (h5:w.nodes<=500) (hd:d<40) (hno:∀ e,e<=d->∀ w',K e f=some w'->500<w'.nodes):LeastV (Cost L G X) f (((d+1:Nat):Int),(w.nodes:Int)):=by
 have hlow:∀ m,Cost L G X d f m->500<m:=fun m hm=>by
  obtain⟨w',a,b⟩:=(h.tab d oM f).1 m hm;have:=hno d (C0 _) w' a;omega
 obtain⟨n,n1,n2⟩:=(h.tab (d+1) (C0 _) f).2 w hw
 have hn:n=w.nodes:=by omega
 subst hn;refine .inr ⟨d,_,rfl,hd,by omega,hlow,n1,fun m hm=>?_⟩;obtain⟨w',a,b⟩:=(h.tab (d+1) (C0 _) f).1 m hm;rw[hw]at a;cases a;omega
theorem LevsP.none {K:Nat->LevP} (h:LevsP L G X K 40) {f:rufact} (hno:∀ w',K 40 f=some w'->500<w'.nodes):LeastV (Cost L G X) f (0,0):=by
 refine .inl ⟨rfl,fun n hn=>?_⟩;obtain⟨w',a,b⟩:=(h.tab 40 (C0 _) f).1 n hn;have:=hno w' a;omega
theorem qhS {fuel:Nat} (hf:400<=fuel) (hv:VR l facts) (har:arW (arVR l facts) (setB S)) (hS:S.length=252) {f:apiFact} (hg:groundP f) {K:Nat->LevP} (hd:d<40)
  (h:LevsP (l.map toR) (fun g=>g∈facts.map toF) (setB S) K (d+1)) {w:WayP} (hw:K (d+1) (toF f)=some w) (h5:w.nodes<=500) (hno:∀ e,e<=d->∀ w',K e (toF f)=some w'->500<w'.nodes) {p:ruProof} (ht:TreeP K (d+1) (toF f) p) :
  Vr fuel l facts S f=some (((d+1:Nat):Int),(w.nodes:Int))/\okT p/\hT p=d+1/\p.qd=f/\Ja fuel p=some (ownT p)/\Dd fuel l facts S (ownT p)=some true/\Qo fuel (ownT p) 40=some ((d+1:Nat):Int)/\VI fuel (ownT p)=some (w.nodes:Int):=by
 have hL:∀ r,r∈l.map toR->okL (arVR l facts) r:=fun r hr=>by
  obtain⟨q,hq,rfl⟩:=List.mem_map.1 hr;exact hv.okL q hq
 have hok:=(Xz hg).1;have hlv:=h.found hw h5 hd hno;obtain⟨r,r1,r2⟩:=Nh (by omega:100<=fuel) (by have:=hv.1;omega) hv.okL (by have:=hv.2.1;omega:facts.length<=100) hv.2.2.1 hS hg;have hre:=hlv.uniq (fun d e f n hle hc=>hc.le hle) r2;obtain⟨t1,t2,t3,t4,w',t5,t6⟩:=qfe hL h (d+1) (toF f) p (C0 _) hok ht;rw[hw]at t5;cases t5;have hn:=t6 h5
 have hfact:p.qd=f:=by rw[t4];exact qhp hg
 have hlow:∀ m,Cost (l.map toR) (fun g=>g∈facts.map toF) (setB S) d (toF p.qd) m->500<m:=fun m hm=>by
  rw[hfact]at hm;obtain⟨w',a,b⟩:=(h.tab d oM (toF f)).1 m hm;have:=hno d (C0 _) w' a;omega
 have hT1:=qjn t1 h5 hn t3 hlow;refine⟨by rw[r1,<- hre],t2,hT1,hfact,qfv fuel p oM t2,qjA hf hv har hS t2 (t1.le oM) oM oM,?_,?_⟩
 .have:=Dt fuel p 40 oM t2 oM;rw[if_pos (by omega),hT1]at this;exact this
 rw[qcA fuel p (by omega) t2,if_pos (by omega),hn]
theorem qgo {fuel:Nat} (hf:400<=fuel) (hv:VR l facts) (hS:S.length=252) {f:apiFact} (hg:groundP f) {K:Nat->LevP} (h:LevsP (l.map toR) (fun g=>g∈facts.map toF) (setB S) K 40) (hno:∀ w',K 40 (toF f)=some w'->500<w'.nodes):Vr fuel l facts S f=some (0,0):=by
 obtain⟨r,r1,r2⟩:=Nh (by omega:100<=fuel) (by have:=hv.1;omega) hv.okL (by have:=hv.2.1;omega:facts.length<=100) hv.2.2.1 hS hg;rw[r1,<- (h.none hno).uniq (fun d e f n hle hc=>hc.le hle) r2]
end Go.AM
namespace Go.AM
open Go.Proofs
structure rucost where
 qQ:Int
 qt:Int
def l127 (c:LR) (l:LI):AV:=.lst 127 3 c (D3 qh l)
structure ruway where
 qp:rucost
 qY:Int
 qJ:LI
def qE (x:ruway):AV:=.agg [.int .i64 x.qp.qQ,.int .i64 x.qp.qt,.int .i64 x.qY,l127 none x.qJ]
def l146 (c:LR) (l:List (List (rufact×ruway))):AV:=.lst 146 1 c (D3 (mpE qh qE) l)
def XF (v20:ruProof):Option ruProof :=
 (some v20)
def QO (a1:(List (List (rufact×ruway)))) (a2:Int) (K0:((List (List (rufact×ruway)))->Int->rufact->Option ruProof)) (K10:(ruProof->Option ruProof)):LI->Nat->Int->Int->LA->LU->Option ruProof
 | [],k1,v12,v13,v14,v15=>(K10 (ruProof.mk v12 (apiFact.mk v13 v14) v15))
 | x1::r1,k1,v12,v13,v14,v15=>((K0 a1 (IntKind.wrap .i64 (a2 - 1)) x1).bind fun w18=>(chk (capOk 64 ((v15++[w18])).length) ((QO a1 a2 K0 K10 r1 (k1+1)) v12 v13 v14 (v15++[w18]))))
def YR:Nat->(List (List (rufact×ruway)))->Int->rufact->Option ruProof
 | 0,_,_,_=>none
 | fuel+1,a1,a2,a3=>((idx a1 a2).bind fun e6=>(chk (wfI .i64 a3.qn && wfI .i64 a3.f_a && wfI .i64 a3.f_b) ((ZM a3).bind fun w9=>(chk (lenOk ((mget qf (ruway.mk (rucost.mk 0 0) 0 ([]:LI)) a3 e6).qJ)) (QO a1 a2 (YR fuel) (XF) ((mget qf (ruway.mk (rucost.mk 0 0) 0 ([]:LI)) a3 e6).qJ) 0 ((mget qf (ruway.mk (rucost.mk 0 0) 0 ([]:LI)) a3 e6).qY) w9.qc w9.qa ([]:LU))))))
theorem qfZ:∀ (fuel:Nat) (a1:(List (List (rufact×ruway)))) (a2:Int) (a3:rufact) (r:ruProof) (h:YR fuel a1 a2 a3=some r),Run Try.prog (.call 94 [l146 none a1,I6 a2,.agg [I6 a3.qn,I6 a3.f_a,I6 a3.f_b]] (.agg [I6 r.ql,I6 r.qd.qc,l3 none r.qd.qa,l77 none r.qj])):=by
 intro fuel
 induction fuel with
 | zero=>intro a1 a2 a3 r h;cases h
 | succ fuel ih =>
  intro a1 a2 a3 r h;refine cW Try.func94 rfl (env0:=[(0,l146 none a1),(1,I6 a2),(2,.agg [I6 a3.qn,I6 a3.f_a,I6 a3.f_b])]) ?_;rw[YR.eq_2]at h;refine W.seq ?_;let z0:=fun t=>EN ((0,l146 none a1)::(1,I6 a2)::(5,.ptr (.agg [I6 a3.qn,I6 a3.f_a,I6 a3.f_b]))::(6,.box [.int .i64 0,.int .i64 0,.nils,.nils])::t);refine W.rT [0,1,5,6] [5] (e2:=z0 []) ?_;refine W.seq ?_;obtain⟨e6,he6,h⟩:=qb h;obtain⟨hc7,h⟩:=qm h;refine W.regionA (e1:=z0 [(7,.box [I6 (((mget qf (ruway.mk (rucost.mk 0 0) 0 ([]:LI)) a3 e6).qp).qQ),I6 (((mget qf (ruway.mk (rucost.mk 0 0) 0 ([]:LI)) a3 e6).qp).qt),I6 ((mget qf (ruway.mk (rucost.mk 0 0) 0 ([]:LI)) a3 e6).qY),l127 none ((mget qf (ruway.mk (rucost.mk 0 0) 0 ([]:LI)) a3 e6).qJ)]),(11,l146 none a1),(12,I6 a2),(13,.ptr (mpE qh qE e6)),(14,mpE qh qE e6),(15,.agg [I6 a3.qn,I6 a3.f_a,I6 a3.f_b]),(16,.agg [I6 (((mget qf (ruway.mk (rucost.mk 0 0) 0 ([]:LI)) a3 e6).qp).qQ),I6 (((mget qf (ruway.mk (rucost.mk 0 0) 0 ([]:LI)) a3 e6).qp).qt),I6 ((mget qf (ruway.mk (rucost.mk 0 0) 0 ([]:LI)) a3 e6).qY),l127 none ((mget qf (ruway.mk (rucost.mk 0 0) 0 ([]:LI)) a3 e6).qJ)])]) kR ?_ ?_
  .exact Run.anyG (.cons (gpure 2 (if (0:Int)<=a2 then ((D3 (mpE qh qE) a1)[D2 a2]?).map AV.ptr else none) (v:=.ptr (mpE qh qE e6)) (ZX (f:=(mpE qh qE)) he6)) (.cons (gpure 5 ((alookup Try.prog 146 [] (mpE qh qE e6) (.agg [I6 a3.qn,I6 a3.f_a,I6 a3.f_b])).map AV.strip) (v:=.agg [I6 (((mget qf (ruway.mk (rucost.mk 0 0) 0 ([]:LI)) a3 e6).qp).qQ),I6 (((mget qf (ruway.mk (rucost.mk 0 0) 0 ([]:LI)) a3 e6).qp).qt),I6 ((mget qf (ruway.mk (rucost.mk 0 0) 0 ([]:LI)) a3 e6).qY),l127 none ((mget qf (ruway.mk (rucost.mk 0 0) 0 ([]:LI)) a3 e6).qJ)]) (congrArg (Option.map AV.strip) (YG (F:=qh) (G:=qE) (eq:=qf) (l:=e6) (k:=a3) (z:=(ruway.mk (rucost.mk 0 0) 0 ([]:LI))) (kt:=127) (e:=152) (Nw hc7) kR (fun x=>by kernel_rfl) (fun x y=>by kernel_rfl) kR))) .nil))
  let z1:=fun t=>z0 ((7,.ptr (.agg [I6 (((mget qf (ruway.mk (rucost.mk 0 0) 0 ([]:LI)) a3 e6).qp).qQ),I6 (((mget qf (ruway.mk (rucost.mk 0 0) 0 ([]:LI)) a3 e6).qp).qt),I6 ((mget qf (ruway.mk (rucost.mk 0 0) 0 ([]:LI)) a3 e6).qY),l127 none ((mget qf (ruway.mk (rucost.mk 0 0) 0 ([]:LI)) a3 e6).qJ)]))::t);refine WO.fi [0,1,5,6,7] [7] (e2:=z1 []) ?_;refine W.seq ?_;obtain⟨w9,hw9,h⟩:=qb h;refine W.regionA (e1:=z1 [(8,.box [I6 ((mget qf (ruway.mk (rucost.mk 0 0) 0 ([]:LI)) a3 e6).qY),I6 w9.qc,l3 none w9.qa,.nils]),(17,.ptr (I6 ((mget qf (ruway.mk (rucost.mk 0 0) 0 ([]:LI)) a3 e6).qY))),(18,I6 ((mget qf (ruway.mk (rucost.mk 0 0) 0 ([]:LI)) a3 e6).qY)),(19,.agg [I6 a3.qn,I6 a3.f_a,I6 a3.f_b]),(20,.agg [I6 w9.qc,l3 none w9.qa]),(21,.agg [I6 ((mget qf (ruway.mk (rucost.mk 0 0) 0 ([]:LI)) a3 e6).qY),I6 w9.qc,l3 none w9.qa,.nils])]) kR ?_ ?_
  .exact Run.anyG (.cons (gcall 3 (F:=108) (l:=[.agg [I6 a3.qn,I6 a3.f_a,I6 a3.f_b]]) (C:=[]) (r:=.agg [I6 w9.qc,l3 none w9.qa]) (NL a3 w9 hw9)) .nil)
  let z2:=fun t=>EN ((0,l146 none a1)::(1,I6 a2)::(6,.box [.int .i64 0,.int .i64 0,.nils,.nils])::t);refine WO.fn (e2:=z2 [(7,.ptr (.agg [I6 (((mget qf (ruway.mk (rucost.mk 0 0) 0 ([]:LI)) a3 e6).qp).qQ),I6 (((mget qf (ruway.mk (rucost.mk 0 0) 0 ([]:LI)) a3 e6).qp).qt),I6 ((mget qf (ruway.mk (rucost.mk 0 0) 0 ([]:LI)) a3 e6).qY),l127 none ((mget qf (ruway.mk (rucost.mk 0 0) 0 ([]:LI)) a3 e6).qJ)])),(8,.box [I6 ((mget qf (ruway.mk (rucost.mk 0 0) 0 ([]:LI)) a3 e6).qY),I6 w9.qc,l3 none w9.qa,.nils])]) ?_;refine W.seq ?_;let z3:=fun t=>EN ((6,.box [.int .i64 0,.int .i64 0,.nils,.nils])::t);refine W.join (σ:=(ruProof)) (fun s=>z3 [(8,.ptr (.agg [I6 s.ql,I6 s.qd.qc,l3 none s.qd.qa,l77 none s.qj]))]) (fun s=>(XF) s=some r) (fun v20 h=>?_) (fun hK10=>?_)
  .unfold XF at h;refine W.seq ?_;let z4:=fun t=>EN ((6,.box [I6 v20.ql,I6 v20.qd.qc,l3 none v20.qd.qa,l77 none v20.qj])::t);refine W.rt (e2:=z4 []) ?_;refine W.wk (e:=z4 []) ?_;cases h;exact W.rr
  refine W.sr<|WO.pq 2 (jM qh ((mget qf (ruway.mk (rucost.mk 0 0) 0 ([]:LI)) a3 e6).qJ))<|WO.fn (e2:=z2 [(8,.box [I6 ((mget qf (ruway.mk (rucost.mk 0 0) 0 ([]:LI)) a3 e6).qY),I6 w9.qc,l3 none w9.qa,.nils]),(23,l127 none ((mget qf (ruway.mk (rucost.mk 0 0) 0 ([]:LI)) a3 e6).qJ)),(24,I6 (((mget qf (ruway.mk (rucost.mk 0 0) 0 ([]:LI)) a3 e6).qJ).length:Int)),(25,.int .i64 0)]) ?_;refine W.block ?_;obtain⟨hl1,h⟩:=qm h;refine W.weak [0,1,6,8,23,24,25] [] [(8,3,77,4,10803)] [] (env':=z2 [(8,.box [I6 ((mget qf (ruway.mk (rucost.mk 0 0) 0 ([]:LI)) a3 e6).qY),I6 w9.qc,l3 none w9.qa,l77 (some 10803) ([]:LU)]),(23,l127 none ((mget qf (ruway.mk (rucost.mk 0 0) 0 ([]:LI)) a3 e6).qJ)),(24,I6 (((mget qf (ruway.mk (rucost.mk 0 0) 0 ([]:LI)) a3 e6).qJ).length:Int)),(25,I6 ((0:Nat):Int))]) kR<|W.range (σ:=(Int×Int×LA×LU)) ((mget qf (ruway.mk (rucost.mk 0 0) 0 ([]:LI)) a3 e6).qJ) (fun k1 s=>z2 [(8,.box [I6 s.1,I6 s.2.1,l3 none s.2.2.1,l77 (some 10803) s.2.2.2]),(23,l127 none ((mget qf (ruway.mk (rucost.mk 0 0) 0 ([]:LI)) a3 e6).qJ)),(24,I6 (((mget qf (ruway.mk (rucost.mk 0 0) 0 ([]:LI)) a3 e6).qJ).length:Int)),(25,I6 (k1:Int))]) (fun r0 k0 s=>QO a1 a2 (YR fuel) (XF) r0 k0 s.1 s.2.1 s.2.2.1 s.2.2.2=some r) (fun s h=>?_) (fun x1 r1 k1 s hx1 hk1 h hN1=>?_) ((mget qf (ruway.mk (rucost.mk 0 0) 0 ([]:LI)) a3 e6).qY,w9.qc,w9.qa,([]:LU)) h
  .obtain⟨v12,v13,v14,v15⟩:=s;have h:QO a1 a2 (YR fuel) (XF) [] ((mget qf (ruway.mk (rucost.mk 0 0) 0 ([]:LI)) a3 e6).qJ).length v12 v13 v14 v15=some r:=h;rw[QO.eq_1]at h;refine W.sr<|WO.pk 0 (some (.bool (decide ((((mget qf (ruway.mk (rucost.mk 0 0) 0 ([]:LI)) a3 e6).qJ).length:Int)<(((mget qf (ruway.mk (rucost.mk 0 0) 0 ([]:LI)) a3 e6).qJ).length:Int))))) (v:=.bool false) (by rw[ja (l:=(mget qf (ruway.mk (rucost.mk 0 0) 0 ([]:LI)) a3 e6).qJ)]) ?_;refine WO.fn (e2:=z2 [(8,.box [I6 v12,I6 v13,l3 none v14,l77 (some 10803) v15]),(23,l127 none ((mget qf (ruway.mk (rucost.mk 0 0) 0 ([]:LI)) a3 e6).qJ)),(24,I6 (((mget qf (ruway.mk (rucost.mk 0 0) 0 ([]:LI)) a3 e6).qJ).length:Int)),(25,I6 (((mget qf (ruway.mk (rucost.mk 0 0) 0 ([]:LI)) a3 e6).qJ).length:Int)),(26,.bool false)]) ?_;refine W.seq<|W.cF<|W.exit<|W.weak [6,8] [8] [] [] (env':=z3 [(8,.ptr (.agg [I6 (ruProof.mk v12 (apiFact.mk v13 v14) v15).ql,I6 (ruProof.mk v12 (apiFact.mk v13 v14) v15).qd.qc,l3 none (ruProof.mk v12 (apiFact.mk v13 v14) v15).qd.qa,l77 none (ruProof.mk v12 (apiFact.mk v13 v14) v15).qj]))]) kR ?_;exact hK10 (ruProof.mk v12 (apiFact.mk v13 v14) v15) h
  obtain⟨v12,v13,v14,v15⟩:=s;have h:QO a1 a2 (YR fuel) (XF) (x1::r1) k1 v12 v13 v14 v15=some r:=h;rw[QO.eq_2]at h;refine W.sr<|WO.pq 0 (jB (jy hk1)) ?_;let z5:=fun t=>z2 ((8,.box [I6 v12,I6 v13,l3 none v14,l77 (some 10803) v15])::t);refine WO.fn (e2:=z5 [(23,l127 none ((mget qf (ruway.mk (rucost.mk 0 0) 0 ([]:LI)) a3 e6).qJ)),(24,I6 (((mget qf (ruway.mk (rucost.mk 0 0) 0 ([]:LI)) a3 e6).qJ).length:Int)),(25,I6 (k1:Int)),(26,.bool true)]) ?_;refine W.seq<|W.cT ?_;let y0:Env:=[(23,l127 none ((mget qf (ruway.mk (rucost.mk 0 0) 0 ([]:LI)) a3 e6).qJ)),(24,I6 (((mget qf (ruway.mk (rucost.mk 0 0) 0 ([]:LI)) a3 e6).qJ).length:Int)),(25,I6 (k1:Int))];refine W.sw (e:=z5 y0) ?_;refine W.seq<|W.block<|W.sr<|WO.pq 0 (jA (f:=qh) hx1) ?_;let z6:=fun t=>z5 ((10,.ptr (.agg [I6 x1.qn,I6 x1.f_a,I6 x1.f_b]))::t);refine WO.fi [0,1,6,8,10,23,24,25] [10] (e2:=z6 y0) ?_;refine W.rg ?_;obtain⟨w18,hw18,h⟩:=qb h;refine WO.ck 6 (F:=94) (l:=[l146 none a1,I6 (W6 (a2 - 1)),.agg [I6 x1.qn,I6 x1.f_a,I6 x1.f_b]]) (C:=[]) (r:=.agg [I6 w18.ql,I6 w18.qd.qc,l3 none w18.qd.qa,l77 none w18.qj]) (ih a1 (W6 (a2 - 1)) x1 w18 hw18)<|WO.steps 1 (e1:=z6 [(23,l127 none ((mget qf (ruway.mk (rucost.mk 0 0) 0 ([]:LI)) a3 e6).qJ)),(24,I6 (((mget qf (ruway.mk (rucost.mk 0 0) 0 ([]:LI)) a3 e6).qJ).length:Int)),(25,I6 (k1:Int)),(29,.pb 8 3),(30,l77 (some 10803) v15),(31,l146 none a1),(32,I6 a2),(33,I6 (W6 (a2 - 1))),(34,.agg [I6 x1.qn,I6 x1.f_a,I6 x1.f_b]),(35,.agg [I6 w18.ql,I6 w18.qd.qc,l3 none w18.qd.qa,l77 none w18.qj]),(36,AV.lst 77 4 none [.agg [I6 w18.ql,I6 w18.qd.qc,l3 none w18.qd.qa,l77 none w18.qj]])]) kR ?_;rw[(congrArg (fun y=>AV.lst 77 4 none [y]) (Qh w18).symm:AV.lst 77 4 none [.agg [I6 w18.ql,I6 w18.qd.qc,l3 none w18.qd.qa,l77 none w18.qj]]=l77 none [w18])];obtain⟨hc19,h⟩:=qm h;refine WO.ak 0 37 77 4 qZ v15 [w18] hc19<|WO.fn (e2:=z2 ((8,.box [I6 v12,I6 v13,l3 none v14,l77 (some 37) (v15++[w18])])::y0)) ?_;refine W.rg<|WO.pq 0 (jI (qN hl1 hk1))<|WO.fin [0,1,6,8,23,24,25] [] [] [(37,some 10803)] (e2:=z2 [(8,.box [I6 v12,I6 v13,l3 none v14,l77 (some 10803) (v15++[w18])]),(23,l127 none ((mget qf (ruway.mk (rucost.mk 0 0) 0 ([]:LI)) a3 e6).qJ)),(24,I6 (((mget qf (ruway.mk (rucost.mk 0 0) 0 ([]:LI)) a3 e6).qJ).length:Int)),(25,I6 ((k1+1:Nat):Int))]) kR (fun _ h=>h) ?_;exact hN1 (v12,v13,v14,(v15++[w18])) h
end Go.AM
namespace Go
open AM
abbrev LC:=List (rufact×ruway)
end Go
namespace Go.AM
open Go.Proofs Go.Sort
open Classical
def wayZ:ruway:=ruway.mk (rucost.mk 0 0) 0 ([]:LI)
def mfind (f:rufact):LC->Option ruway
 | []=>none
 | p::r=>bif qf p.1 f then some p.2 else mfind f r
theorem Vs (f:rufact):∀ l:LC,mget qf wayZ f l=(mfind f l).getD wayZ
 | []=>rfl
 | p::r=>by
  unfold mfind;simp only[Go.AM.mget]
  cases qf p.1 f with
  | true=>rfl
  | false=>exact Vs f r
def wayP (w:ruway):WayP:=⟨w.qp.qt.toNat,w.qY,w.qJ⟩
def levK (lv:List LC):Nat->LevP
 | 0=>fun _=>none
 | d+1=>fun f=>(lv[d]?).bind fun m=>(mfind f m).map wayP
theorem qbe {K:LevP}:∀ {gs:LI} {s:Nat},SumN K gs s->∀ g,g∈gs->(K g).isSome=true
 | g::gs,s,⟨w,t,a,b,c⟩,x,hx=>by
  rcases List.mem_cons.1 hx with rfl | hx
  .rw[a];rfl
  exact qbe b x hx
theorem qiy {lv:List LC} {d:Int} {K0:List LC->Int->rufact->Option ruProof} {T:rufact->ruProof->Prop} (K10:ruProof->Option ruProof) (a b:Int) (c:LA):∀ (gs:LI) (k:Nat) (acc:LU),acc.length+gs.length<=1000->(∀ g,g∈gs->∃ p,K0 lv (IntKind.wrap .i64 (d - 1)) g=some p/\T g p) ->
  ∃ l,QO lv d K0 K10 gs k a b c acc=K10 (ruProof.mk a (apiFact.mk b c) (acc++l))/\TreesP T gs l
 | [],k,acc,_,_=>⟨[],by rw[QO,List.append_nil],rfl⟩
 | g::gs,k,acc,hl,h=>by
  rw[A8]at hl;obtain⟨p,p1,p2⟩:=h g (A2 ..)
  obtain⟨l,l1,l2⟩:=qiy (T:=T) K10 a b c gs (k+1) (acc++[p]) (by simp;omega) fun x hx=>h x (A1 _ hx)
  refine⟨p::l,?_,p,l,rfl,p2,l2⟩;rw[QO,p1];simp only[A0];rw[NH (Xc (by omega) (by simp;omega)),l1,List.append_assoc];rfl
theorem qcu {ar:Int->Nat} {L:LH} (hL:∀ r,r∈L->okL ar r) {G X:rufact->Prop} {lv:List LC} {n:Nat} (h:LevsP L G X (levK lv) n):∀ (d fuel:Nat) (f:rufact),d<n->d<=1000->d+1<=fuel->okU1 f->(levK lv (d+1) f).isSome=true->∃ p,YR fuel lv (d:Int) f=some p/\TreeP (levK lv) (d+1) f p
 | d,0,f,_,_,hf,_,_=>by omega
 | d,fuel+1,f,hd,hk,hf,ho,hs=>by
  obtain⟨w,hw⟩:=Option.isSome_iff_exists.1 hs;have hw':(lv[d]?).bind (fun m=>(mfind f m).map wayP)=some w:=hw
  cases hm:lv[d]? with
  | none=>rw[hm]at hw';cases hw'
  | some m =>
   rw[hm,A0,Option.map_eq_some_iff]at hw';obtain⟨rw0,r1,r2⟩:=hw'
   have hget:mget qf (ruway.mk (rucost.mk 0 0) 0 ([]:LI)) f m=rw0:=by
    have:=Vs f m;rw[r1]at this;exact this
   have hsub:rw0.qJ=w.sub:=by rw[<- r2];rfl
   have hrule:rw0.qY=w.rule:=by rw[<- r2];rfl
   have hway:=(h.2 d oM).1 f w hw
   have hgs:w.sub.length<=3/\∀ g,g∈w.sub->okU1 g/\(levK lv d g).isSome=true:=by
    rcases hway with ⟨a,b,c,e⟩ | ⟨a,r,b,v,v1,v2,v3,v4,v5,s,v6,v7⟩
    .rw[b];exact⟨by simp,fun g hg=>by simp at hg⟩
    have hr:=D6 b;refine⟨by rw[v5,A3];exact Nat.le_trans (F8 ..) (hL r hr).1.1,fun g hg=>⟨?_,qbe v6 g hg⟩⟩;rw[v5]at hg;obtain⟨x,hx,rfl⟩:=List.mem_map.1 hg;have hxb:=(List.mem_filter.1 hx).1;exact (Jw v1 ((hL _ hr).body x hxb).1 (v2 _ (A1 _ (List.mem_map.2 ⟨x,hxb,rfl⟩)))).1
   obtain⟨l,l1,l2⟩:=qiy (lv:=lv) (d:=(d:Int)) (K0:=YR fuel) (T:=TreeP (levK lv) d) XF w.rule f.qn (argsF f) w.sub 0 [] (by have:=hgs.1;simp;omega) fun g hg=>by
    obtain⟨g1,g2⟩:=hgs.2 g hg
    match d,g2,hd,hk,hf with
    | 0,g2,_,_,_=>cases g2
    | d+1,g2,hd,hk,hf =>
     obtain⟨p,p1,p2⟩:=qcu hL h d fuel g oM oM oM g1 g2;refine⟨p,?_,p2⟩;rw[wrap64 (by omega) (by omega),show ((d+1:Nat):Int) - 1=(d:Int) by omega];exact p1
   refine⟨ruProof.mk w.rule ⟨f.qn,argsF f⟩ l,?_,⟨w,hw,rfl,(Vz f).symm,l2⟩⟩
   .rw[YR,show idx lv (d:Int)=some m by unfold idx;rw[if_pos (by omega),C7,hm]];simp only[A0];rw[NH (wfF3 ho.wf),qjk,hget,hsub,hrule];simp only[A0];rw[NH (qy (by have:=hgs.1;omega)),Vz];exact l1
def levM (known:LC):LevP:=fun f=>(mfind f known).map wayP
def wayStep (known:LC) (v:LA) (w:ruway) (x:ruLit):ruway :=
 bif x.qw then w else ⟨⟨max w.qp.qQ ((mget qf wayZ (groundF v x.qg) known).qp.qQ+1),min (w.qp.qt+(mget qf wayZ (groundF v x.qg) known).qp.qt) 1000⟩,w.qY,w.qJ++[groundF v x.qg]⟩
def wayOf (known:LC) (i:Int) (r:ruRule) (v:LA):ruway:=r.qe.foldl (wayStep known v) ⟨⟨1,1⟩,i,[]⟩
def knownOk (known:LC):Prop:=∀ f w,mfind f known=some w->1<=w.qp.qt/\w.qp.qt<=1000
theorem ZY {known:LC} (hk:knownOk known) {v:LA}:∀ (body:LQ) (w:ruway) (s0:Nat),w.qp.qt=((min (1+s0) 1000:Nat):Int)->(∀ x,x∈posB body->(mfind (groundF v x.qg) known).isSome=true) ->
  ∃ s,SumN (levM known) ((posB body).map fun x=>groundF v x.qg) s/\(body.foldl (wayStep known v) w).qp.qt=((min (1+s0+s) 1000:Nat):Int)/\(body.foldl (wayStep known v) w).qY=w.qY/\(body.foldl (wayStep known v) w).qJ=w.qJ++(posB body).map fun x=>groundF v x.qg
 | [],w,s0,hw,_=>⟨0,rfl,by rw[List.foldl_nil,hw];rfl,rfl,by simp[posB]⟩
 | x::body,w,s0,hw,h=>by
  rw[List.foldl_cons];by_cases hn:x.qw=true
  .have e:posB (x::body)=posB body:=by unfold posB;rw[A5,if_neg (by simp[hn])]
   have es:wayStep known v w x=w:=by unfold wayStep;rw[hn,cT]
   rw[e]at h ⊢;rw[es];exact ZY hk body w s0 hw h
  have hn':x.qw=false:=by simpa using hn
  have e:posB (x::body)=x::posB body:=by unfold posB;rw[A5,if_pos (by simp[hn])]
  rw[e]at h ⊢;obtain⟨k,hkx⟩:=Option.isSome_iff_exists.1 (h x (A2 ..));have hb:=hk _ _ hkx
  have hg:mget qf wayZ (groundF v x.qg) known=k:=by rw[Vs,hkx];rfl
  have es:wayStep known v w x=⟨⟨max w.qp.qQ (k.qp.qQ+1),min (w.qp.qt+k.qp.qt) 1000⟩,w.qY,w.qJ++[groundF v x.qg]⟩:=by
   unfold wayStep;rw[hn',cN,hg]
  obtain⟨s,i1,i2,i3,i4⟩:=ZY hk body (wayStep known v w x) (s0+k.qp.qt.toNat) (by rw[es];simp only;rw[hw];omega) fun y hy=>h y (A1 _ hy)
  refine⟨k.qp.qt.toNat+s,⟨wayP k,s,?_,i1,rfl⟩,?_,?_,?_⟩
  .unfold levM;rw[hkx];rfl
  .rw[i2];congr 2;omega
  .rw[i3,es]
  rw[i4,es,A4,List.append_assoc];rfl
theorem qkr {L:LH} {G X:rufact->Prop} {known:LC} (hk:knownOk known) {i:Nat} {r:ruRule} (hi:L[i]? = some r) {v:LA} (h1:V8 v) (h2:∀ a,a∈atomsU r->bnd v a.qa) (h3:FreeP X v r.qe) (h4:∀ x,x∈posB r.qe->(mfind (groundF v x.qg) known).isSome=true) :
  WayOk L G X (levM known) (groundF v r.qi) (wayP (wayOf known (i:Int) r v)):=by
 obtain⟨s,a,b,c,d⟩:=ZY hk r.qe ⟨⟨1,1⟩,(i:Int),[]⟩ 0 rfl h4;refine .inr ⟨?_,r,?_,v,h1,h2,rfl,h3,?_,s,?_,?_⟩
 .show 0<=(wayOf known (i:Int) r v).qY;unfold wayOf;rw[c];simp
 .show L[(wayOf known (i:Int) r v).qY.toNat]? = some r
  unfold wayOf;rw[c];simpa using hi
 .show (wayOf known (i:Int) r v).qJ=_;unfold wayOf;rw[d];rfl
 .show SumN (levM known) (wayOf known (i:Int) r v).qJ s;unfold wayOf;rw[d];exact a
 show (wayOf known (i:Int) r v).qp.qt.toNat=_;unfold wayOf;rw[b];omega
end Go.AM
namespace Go.AM
open Go.Proofs Go.Sort
open Classical
theorem VL (f g:rufact) (w:ruway):∀ l:LC,mfind g (mset qf f w l)=if g=f then some w else mfind g l
 | []=>by
  simp only[Go.AM.mset];unfold mfind;by_cases h:g=f
  .rw[if_pos h,XP.2 h.symm,cT]
  rw[if_neg h,YL.2 (fun e=>h e.symm),cN];rfl
 | p::r=>by
  simp only[Go.AM.mset]
  cases hq:qf p.1 f with
  | true =>
   have:=XP.1 hq;rw[cT];unfold mfind;by_cases h:g=f
   .rw[if_pos h];simp only[this,XP.2 h.symm,cT]
   rw[if_neg h];simp only[this,YL.2 (fun e=>h e.symm),cN]
  | false =>
   have:=YL.1 hq;rw[cN];unfold mfind;rw[VL f g w r]
   cases hg:qf p.1 g with
   | true =>
    have e:=XP.1 hg;rw[cT,cT,if_neg (fun h=>this (e.trans h))]
   | false=>rw[cN,cN]
def putW (out:LC) (f:rufact) (w:ruway):LC :=
 if w.qp.qt<(mget qf wayZ f out).qp.qt\/(mget qf wayZ f out).qp.qt=0 then mset qf f w out else out
structure BestM (K:rufact->ruway->Prop) (out:LC):Prop where
 good:∀ f w,mfind f out=some w->K f w/\1<=w.qp.qt
 least:∀ f w,K f w->∃ w',mfind f out=some w'/\w'.qp.qt<=w.qp.qt
theorem BestM.put {K:rufact->ruway->Prop} {out:LC} (h:BestM K out) (f:rufact) (w:ruway) (hw:1<=w.qp.qt):BestM (fun g u=>K g u\/(g=f/\u=w)) (putW out f w):=by
 have hg:=Vs f out;unfold putW;split
 .rename_i hc;refine⟨fun g u hu=>?_,fun g u hu=>?_⟩
  .rw[VL]at hu;by_cases e:g=f
   .rw[if_pos e]at hu;cases hu;exact⟨.inr ⟨e,rfl⟩,hw⟩
   rw[if_neg e]at hu;exact⟨.inl (h.good g u hu).1,(h.good g u hu).2⟩
  rw[VL];by_cases e:g=f
  .rw[if_pos e];refine⟨w,rfl,?_⟩
   rcases hu with hu | ⟨_,rfl⟩
   .obtain⟨w',a,b⟩:=h.least g u hu;subst e;rw[hg,a]at hc;have:=(h.good _ _ a).2;simp only[Option.getD_some]at hc;omega
   exact D1 _
  rw[if_neg e]
  rcases hu with hu | ⟨e2,_⟩
  .exact h.least g u hu
  exact absurd e2 e
 rename_i hc;refine⟨fun g u hu=>⟨.inl (h.good g u hu).1,(h.good g u hu).2⟩,fun g u hu=>?_⟩
 rcases hu with hu | ⟨rfl,rfl⟩
 .exact h.least g u hu
 rw[hg]at hc
 cases hm:mfind g out with
 | none=>rw[hm]at hc;exact absurd (Or.inr rfl) hc
 | some w' =>
  rw[hm]at hc;simp only[Option.getD_some]at hc;exact⟨w',rfl,by omega⟩
end Go.AM
