import Derived.Test.YtdghpfejmlpjhaaRY3
import Derived.OwnWalk
set_option linter.all false
set_option maxRecDepth 100000
open List renaming mem_cons_of_mem→A0, mem_cons_self→A2, map_cons→A3, length_map→A4, filter_cons→A5, replicate→A6, getD_eq_getElem?_getD→A7, length_cons→A8, map_congr_left→B1, length_set→C0, getElem?_eq_getElem→D0, getElem?_replicate→D3, map_nil→D4, map_map→D7, mem_of_getElem?→D8, take_of_length_le→D9, append_assoc→E7, drop_zero→E8, eq_nil_of_length_eq_zero→F6, drop_of_length_le→F7, length_filter_le→F8
open Option renaming bind_some→A1
open Nat renaming le_refl→A9, le_trans→E0, zero_add→E9
open Int renaming toNat_natCast→C7, le_refl→D1, toNat→D2
open Bool renaming not_true→D5, not_false→D6
namespace Go.AM
open Go.Proofs
end Go.AM
namespace Go.AM
open Go.Proofs Go.Sort
open Classical
def Ext (v w:LA):Prop:=∀ i,v.getD i 0≠0->w.getD i 0=v.getD i 0
theorem Ext.refl (v:LA):Ext v v:=fun _ _=>rfl
theorem Ext.trans {u v w:LA} (h:Ext u v) (k:Ext v w):Ext u w:=fun i hi=>by rw[k i (by rw[h i hi];exact hi),h i hi]
theorem Ext.zero (w:LA):Ext v0 w:=fun i hi=>by
 refine absurd ?_ hi;rw[A7,D3];split <;> rfl
theorem Ext.bnd {u w args:LA} (h:Ext u w) (hb:Go.AM.bnd u args):Go.AM.bnd w args:=fun x hx h0=>by rw[h _ (hb x hx h0)];exact hb x hx h0
theorem Ext.ground {u w args:LA} (h:Ext u w) (hb:Go.AM.bnd u args):groundA w args=groundA u args:=by
 unfold groundA
 refine B1 fun x hx=>?_
 split
 .rfl
 rename_i h0;exact h _ (hb x hx oM)
theorem Ext.groundF {u w:LA} (h:Ext u w) {a:qo} (hb:Go.AM.bnd u a.qa):groundF w a=groundF u a:=by
 unfold Go.AM.groundF;rw[h.ground hb]
theorem Nq:∀ {xs es v u:LA},fitA v xs es=some u->V8 v->arg7 xs->es16 es->xs.length=es.length->Ext v u/\groundA u xs=es
 | [],es,v,u,h,hv,_,_,hl=>by
  rw[fitA]at h;cases h;have:es=[]:=F6 hl.symm;subst this;exact⟨Ext.refl _,rfl⟩
 | x::xs,[],v,u,h,_,_,_,_=>by cases h
 | x::xs,e::es,v,u,h,hv,ha,he,hl=>by
  have hx:=ha x (A2 ..)
  have ha':arg7 xs:=fun y hy=>ha y (A0 _ hy)
  have h1:=he e (A2 ..)
  have he':es16 es:=fun y hy=>he y (A0 _ hy)
  have hl':xs.length=es.length:=by simpa using hl
  unfold fitA at h;split at h
  .rename_i hneg;split at h
   .rename_i hq;obtain⟨a,b⟩:=Nq h hv ha' he' hl';refine⟨a,?_⟩;unfold groundA at b ⊢;rw[A3,b,if_pos hneg,hq]
   cases h
  rename_i hneg;split at h
  .cases h
  rename_i hq
  have hlt:x.toNat<v.length:=by rw[hv.1];omega
  have hv':V8 (v.set x.toNat e):=⟨by rw[C0,hv.1],fun i=>by
   rw[Vx _ _ _ hlt];have:=hv.2 i
   split <;> omega⟩
  obtain⟨a,b⟩:=Nq h hv' ha' he' hl'
  have hxe:(v.set x.toNat e).getD x.toNat 0=e:=by rw[Vx _ _ _ hlt,if_pos rfl]
  refine⟨fun i hi=>?_,?_⟩
  .have hvi:(v.set x.toNat e).getD i 0=v.getD i 0:=by
    rw[Vx _ _ _ hlt];split
    .rename_i hix;subst hix;exact (Classical.byContradiction fun hne=>hq ⟨hi,fun q=>hne q.symm⟩)
    rfl
   rw[<- hvi];exact a i (by rw[hvi];exact hi)
  unfold groundA at b ⊢;rw[A3,b,if_neg hneg,a x.toNat (by rw[hxe];omega),hxe]
theorem DK:∀ {xs es v w:LA},Ext v w->v.length=8->arg7 xs->groundA w xs=es->(∀ e,e∈es->e≠0)->∃ u,fitA v xs es=some u/\Ext u w
 | [],es,v,w,h,_,_,_,_=>⟨v,by rw[fitA],h⟩
 | x::xs,es,v,w,h,hv,ha,hg,hz=>by
  have hx:=ha x (A2 ..)
  have ha':arg7 xs:=fun y hy=>ha y (A0 _ hy)
  unfold groundA at hg;rw[A3]at hg;subst hg
  have hz':=fun e he=>hz e (A0 _ he)
  have hz1:=hz _ (A2 ..);unfold fitA;by_cases hneg:x<0
  .rw[if_pos hneg,if_pos hneg,if_pos rfl];exact DK h hv ha' rfl hz'
  rw[if_neg hneg,if_neg hneg];rw[if_neg hneg]at hz1;rw[if_neg (fun q=>q.2 (h _ q.1).symm)]
  have hlt:x.toNat<v.length:=by rw[hv];omega
  refine DK (fun i hi=>?_) (by rw[C0,hv]) ha' rfl hz';rw[Vx _ _ _ hlt]at hi ⊢;split
  .rename_i hix;rw[hix]
  rename_i hix;rw[if_neg hix]at hi;exact h i hi
theorem V8.zero:V8 v0:=V8_0
def posB (body:LS):LS:=body.filter fun x=>!x.qu
def MatchP (X:rufact->Prop) (r:ruRule) (f:apiFact) (subs:LG):Prop :=
 ∃ w,V8 w/\(∀ a,a∈atomsU r->bnd w a.qa)/\groundF w r.qf=toF f/\(posB r.qd).map (fun x=>groundF w x.qe)=subs.map toF/\FreeP X w r.qd
theorem Uk {P:rufact->Prop}:∀ (body:LS) (v w:LA),(∀ x,x∈body->fitP x.qe.qc x.qe.qa)->V8 v->V8 w->Ext v w->(∀ x,x∈body->bnd w x.qe.qa)->(∀ x,x∈posB body->P (groundF w x.qe))->∃ u,InstP P body v u/\Ext u w
 | [],v,w,_,_,_,h,_,_=>⟨v,rfl,h⟩
 | x::body,v,w,hx,hv,hw,h,hb,hp=>by
  have hx':=fun y (hy:y∈body)=>hx y (A0 _ hy)
  have hb':=fun y (hy:y∈body)=>hb y (A0 _ hy)
  by_cases hn:x.qu=true
  .have e:posB (x::body)=posB body:=by unfold posB;rw[A5,if_neg (by simp[hn])]
   rw[e]at hp;obtain⟨u,h1,h2⟩:=Uk body v w hx' hv hw h hb' hp;exact⟨u,.inl ⟨hn,h1⟩,h2⟩
  have hn':x.qu=false:=by simpa using hn
  have e:posB (x::body)=x::posB body:=by unfold posB;rw[A5,if_pos (by simp[hn])]
  rw[e]at hp;have hfx:=hx x (A2 ..);obtain⟨c,d,e2⟩:=JU hw hfx (hb x (A2 ..));have h16:=Vr c;rw[d]at h16;obtain⟨u1,h1,h2⟩:=DK h hv.1 (jY hfx) rfl (fun e he=>by have:=h16 e he;omega);obtain⟨a1,a2,a3⟩:=ZT h1 hv (jY hfx) h16
  obtain⟨u,h3,h4⟩:=Uk body u1 w hx' a1 hw h2 hb' fun y hy=>hp y (A0 _ hy)
  refine⟨u,.inr ⟨hn',_,u1,hp x (A2 ..),e2,?_,by rw[d];exact h1,h3⟩,h4⟩;rw[d];unfold groundA;rw[A4]
theorem qhC {ar:Int->Nat} {X:rufact->Prop} {r:ruRule} (h:okL ar r) {f:apiFact} {subs:LG} (hs:∀ s,s∈subs->groundP s) :
  MatchP X r f subs↔∃ w,InstP (fun g=>g∈subs.map toF) r.qd v0 w/\FreeP X w r.qd/\groundF w r.qf=toF f/\(posB r.qd).map (fun x=>groundF w x.qe)=subs.map toF:=by
 have hbd:∀ x,x∈r.qd->fitP x.qe.qc x.qe.qa:=fun x hx=>(h.body x hx).1
 have hok:okW fun g=>g∈subs.map toF:=fun g hg=>by
  obtain⟨s,h1,rfl⟩:=List.mem_map.1 hg;exact (XY (hs s h1)).1
 constructor
 .rintro⟨w,w1,w2,w3,w4,w5⟩
  have hbw:∀ x,x∈r.qd->bnd w x.qe.qa:=fun x hx=>w2 _ (A0 _ (List.mem_map.2 ⟨x,hx,rfl⟩))
  obtain⟨u,h1,h2⟩:=Uk (P:=fun g=>g∈subs.map toF) r.qd v0 w hbd V8_0 w1 (Ext.zero w) hbw (fun x hx=>by rw[<- w4];exact List.mem_map.2 ⟨x,hx,rfl⟩);obtain⟨c1,c2⟩:=h.inst hok h1;refine⟨u,h1,fun x hx hn hy=>w5 x hx hn ?_,?_,?_⟩
  .rw[h2.groundF (c2 _ (A0 _ (List.mem_map.2 ⟨x,hx,rfl⟩)))];exact hy
  .rw[<- h2.groundF (c2 _ (A2 ..))];exact w3
  rw[<- w4]
  refine B1 fun x hx=>?_
  exact (h2.groundF (c2 _ (A0 _ (List.mem_map.2 ⟨x,(List.mem_filter.1 hx).1,rfl⟩)))).symm
 rintro⟨w,w1,w2,w3,w4⟩
 obtain⟨c1,c2⟩:=h.inst hok w1;exact⟨w,c1,c2,w3,w4,w2⟩
abbrev z6:LA:=A6 6 0
theorem qbF {f:rufact} (h:okU1 f):groundP (apiF f)/\toF (apiF f)=f:=by
  have h16:=Vr h
  have hl:1<=(argsF f).length/\(argsF f).length<=2:=by
    unfold argsF;split <;> simp
  rw[VS];refine⟨⟨⟨h.r0,h.r5⟩,hl,h16⟩,?_⟩;unfold toF mkF argsF;obtain⟨r,a,b⟩:=f;by_cases hb:b=0
  . subst hb;rfl
  . simp only
    rw[if_neg hb];rfl
end Go.AM
namespace Go.AM
open Go.Proofs Go.Sort
open Classical
variable {l:LN} {m:LG}
def cutF (f:apiFact):apiFact:=⟨f.qc,f.qa.take 5⟩
theorem qhD (f:apiFact):NV f=some (cutF f):=by
 unfold NV;have h:=qca (l:=f.qa) 5;rw[show ((5:Nat):Int)=5 from rfl]at h;rw[h];simp only[A1];rw[qbh (by rw[List.length_take];omega)];rfl
theorem qlb {f:apiFact} (h:groundP f):apiF (toF f)=f:=by
 rw[VS,(XY h).2];rfl
theorem qfP (hl:l.length<=10) (h:∀ r,r∈l->okR r):(l.take 12).map cvR=l.map toR:=by
 rw[D9 (by omega)]
 exact B1 fun r hr=>qkQ (h r hr)
theorem qgB (hm:m.length<=26) (h:∀ f,f∈m->f.qa.length<=9):(m.take 26).map cvF=m:=by
 rw[D9 hm]
 conv=>rhs;rw[<- List.map_id m]
 refine B1 fun f hf=>?_
 unfold cvF;rw[D9 (h f hf)];rfl
theorem mvalid {fuel:Nat} (hf:4<=fuel) (ho:okRules l) (hl:l.length<=10) (h:∀ r,r∈l->okR r) (hm:m.length<=26) (h9:∀ f,f∈m->f.qa.length<=9):Yc fuel (l.map toR) m=some (decide (VR l m)):=by
 have:=Dt hf (facts:=m) ho;rw[qfP hl h,qgB hm h9]at this;exact this
end Go.AM
namespace Go.Proofs
open Go.RowKit Go.AM
open Go.ChangeMaps (setBlock)
end Go.Proofs
namespace Go.AM
open Go.Proofs
end Go.AM
namespace Go.AM
open Go.Proofs
end Go.AM
namespace Go.AM
open Go.Proofs Go.Sort
open Classical
variable {l:LN} {facts:LG}
structure FoundP (L:LJ) (G:rufact->Prop) (yes open':rufact->Prop):Prop where
 ex:∃ could,LeastR L yes G could/\LeastR L could G yes/\∀ g,open' g↔¬ yes g/\could g
theorem qiT {g:rufact}:¬ setB (A6 252 false) g:=fun h=>by
 have:=h.2;rw[A7,D3]at this;split at this <;> simp at this
theorem StR.empty {ar:Int->Nat}:StR ar [] (A6 252 false):=⟨NT.empty,fun g hg=>by simp at hg,by simp,fun g=>⟨fun h=>by simp at h,fun h=>absurd h qiT⟩⟩
theorem qkK (hv:VR l facts):(facts.take 26).map cvF=facts:=qgB (by have:=hv.2.1;omega) fun f hf=>by have:=(hv.2.2.1 f hf).2.1.2;omega
theorem qjY (hv:VR l facts):(l.take 12).map cvR=l.map toR:=qfP hv.1 hv.2.2.2.1
end Go.AM
namespace Go.AM
open Go.Proofs Go.Sort
open Classical
variable {L:LJ} {G X:rufact->Prop} {d n:Nat} {p:ruProof} {K:rufact->Int->Prop} {now v:LA} {g:rufact} {ar:Int->Nat} {S:LI} {l:LN} {facts:LG}
mutual
def hT:ruProof->Nat
 | .mk _ _ s=>1+hTs s
def hTs:Le->Nat
 | []=>0
 | x::r=>max (hT x) (hTs r)
end
mutual
def nT:ruProof->Nat
 | .mk _ _ s=>1+nTs s
def nTs:Le->Nat
 | []=>0
 | x::r=>nT x+nTs r
end
mutual
def okT:ruProof->Prop
 | .mk _ f s=>f.qa.length<=5/\s.length<=6/\okTs s
def okTs:Le->Prop
 | []=>True
 | x::r=>okT x/\okTs r
end
mutual
def ownT:ruProof->qw
 | .mk r f s=>.mk r f (ownTs s)
def ownTs:Le->List qw
 | []=>[]
 | x::r=>ownT x::ownTs r
end
mutual
def okQ:qw->Prop
 | .mk _ _ s=>lenOk s=true/\okQs s
def okQs:List qw->Prop
 | []=>True
 | x::r=>okQ x/\okQs r
end
theorem qcF (p:ruProof):hT p=1+hTs p.ql:=by
 obtain⟨a,b,c⟩:=p;rw[hT];rfl
theorem qkt (p:ruProof):nT p=1+nTs p.ql:=by
 obtain⟨a,b,c⟩:=p;rw[nT];rfl
theorem qaX (p:ruProof):okT p↔p.qi.qa.length<=5/\p.ql.length<=6/\okTs p.ql:=by
 obtain⟨a,b,c⟩:=p;rw[okT];exact Iff.rfl
theorem qaW:∀ l,ownTs l=l.map ownT
 | []=>by rw[ownTs];rfl
 | x::r=>by rw[ownTs,qaW r];rfl
theorem qfZ (p:ruProof):(ownT p).qp=p.qp:=by
 obtain⟨a,b,c⟩:=p;rw[ownT];rfl
theorem qai (p:ruProof):(ownT p).qi=p.qi:=by
 obtain⟨a,b,c⟩:=p;rw[ownT];rfl
theorem Hv (p:ruProof):(ownT p).ql=p.ql.map ownT:=by
 obtain⟨a,b,c⟩:=p;rw[ownT,<- qaW];rfl
theorem HV:∀ {l:Le} {x:ruProof},x∈l->hT x<=hTs l
 | y::l,x,h=>by
  rw[hTs]
  rcases List.mem_cons.1 h with rfl | h
  .exact Nat.le_max_left ..
  exact E0 (HV h) (Nat.le_max_right ..)
theorem NU:∀ {l:Le} {x:ruProof},okTs l->x∈l->okT x
 | y::l,x,k,h=>by
  rw[okTs]at k
  rcases List.mem_cons.1 h with rfl | h
  .exact k.1
  exact NU k.2 h
theorem qfg (p:ruProof):1<=hT p:=by rw[qcF];omega
theorem qih {K0:qw->La}:∀ (l:Le) (k v:Nat),v<=500->(∀ x,x∈l->K0 (ownT x)=some (if nT x<=500 then (nT x:Int) else 501)) ->
  Xz K0 Vj (l.map ownT) k (v:Int)=some (if v+nTs l<=500 then ((v+nTs l:Nat):Int) else 501)
 | [],k,v,hv,_=>by
  rw[D4,Xz,nTs,if_pos (by omega)];rfl
 | x::l,k,v,hv,h=>by
  rw[A3,Xz,h x (A2 ..)];simp only[A1];rw[nTs];by_cases hx:nT x<=500
  .rw[if_pos hx,wrap64 (by omega) (by omega)];by_cases hq:v+nT x<=500
   .rw[dF (by omega),cN]
    have:=qih l (k+1) (v+nT x) hq fun y hy=>h y (A0 _ hy)
    rw[show (v:Int)+(nT x:Int)=((v+nT x:Nat):Int) by omega,this,Nat.add_assoc]
   rw[dT (by omega),cT,if_neg (by omega)]
  rw[if_neg hx,wrap64 (by omega) (by omega),dT (by omega),cT,if_neg (by omega)]
theorem qce:∀ (fuel:Nat) (p:ruProof),hT p<=fuel->okT p->XG fuel (ownT p)=some (if nT p<=500 then (nT p:Int) else 501)
 | 0,p,hf,_=>by have:=qfg p;omega
 | fuel+1,p,hf,ho=>by
  obtain⟨o1,o2,o3⟩:=(qaX p).1 ho;have h1:=qcF p;rw[XG,Hv,Nw (qM (by rw[A4];omega))]
  have:=qih (K0:=XG fuel) p.ql 0 1 oM fun x hx=>qce fuel x (by have:=HV hx;omega) (NU o3 hx)
  rw[<- qkt]at this;exact this
theorem qgD {d:Nat} (hd:d<=39) {K0:qw->Int->La} (K:Int->La):∀ (l:Le) (k v:Nat),v<=41->(∀ x,x∈l->K0 (ownT x) (d:Int)=some (if hT x<=d then (hT x:Int) else 41)) ->
  Xd ((d:Int)+1) K0 K (l.map ownT) k (v:Int)=K (if hTs l<=d then ((max v (hTs l):Nat):Int) else 41)
 | [],k,v,hv,_=>by
  rw[D4,Xd,hTs,if_pos (by omega),Nat.max_eq_left (by omega)]
 | x::l,k,v,hv,h=>by
  rw[A3,Xd,Int.add_sub_cancel,wrap64 (by omega) (by omega),h x (A2 ..)];simp only[A1];rw[hTs]
  have ih:=fun v' hv'=>qgD hd K l (k+1) v' hv' fun y hy=>h y (A0 _ hy)
  by_cases hx:hT x<=d
  .rw[if_pos hx,show (if (hT x:Int) > (v:Int) then (hT x:Int) else (v:Int))=((max v (hT x):Nat):Int) by split <;> omega,ih _ (by omega)]
   congr 1
   by_cases hq:hTs l<=d
   .rw[if_pos hq,if_pos (by omega)];omega
   rw[if_neg hq,if_neg (by omega)]
  rw[if_neg hx,show (if (41:Int) > (v:Int) then (41:Int) else (v:Int))=((41:Nat):Int) by split <;> omega,ih _ (by omega),if_neg (show ¬ max (hT x) (hTs l)<=d by omega)]
  congr 1
  split <;> omega
theorem qbg:∀ (fuel:Nat) (p:ruProof) (left:Nat),hT p<=fuel->okT p->left<=40->QR fuel (ownT p) (left:Int)=some (if hT p<=left then (hT p:Int) else 41)
 | 0,p,left,hf,_,_=>by have:=qfg p;omega
 | fuel+1,p,left,hf,ho,hl=>by
  obtain⟨o1,o2,o3⟩:=(qaX p).1 ho;have h1:=qcF p;rw[QR];by_cases c:left=0
  .subst c;rw[show (((0:Nat):Int) == 0)=true from rfl,cT,if_neg (by omega)]
  obtain⟨d,rfl⟩:∃ d,left=d+1:=⟨left - 1,by omega⟩;rw[show (((d+1:Nat):Int) == 0)=false from beq_eq_false_iff_ne.2 (by omega),cN,Hv,Nw (qM (by rw[A4];omega))]
  have:=qgD (d:=d) oM (K0:=QR fuel) Yw p.ql 0 0 oM fun x hx=>qbg fuel x d (by have:=HV hx;omega) (NU o3 hx) oM
  rw[show ((d+1:Nat):Int)=(d:Int)+1 by omega,show (0:Int)=((0:Nat):Int) from rfl,this];unfold Yw
  congr 1
  by_cases hq:hTs p.ql<=d
  .rw[if_pos hq,wrap64 (by omega) (by omega),if_pos (by omega),if_pos (by omega)];omega
  rw[if_neg hq,wrap64 (by omega) (by omega),if_neg (show ¬ (41:Int)+1<41 by omega),if_neg (by omega)]
theorem qkp {K0:ruProof->Option qw} (K:qw->Option qw) (a b:Int) (c:LA):∀ (l:Le) (k:Nat) (acc:List qw),acc.length+l.length<=1000->(∀ x,x∈l->K0 x=some (ownT x)) ->
  Jf K0 K l k a b c acc=K (qw.mk a (apiFact.mk b c) (acc++l.map ownT))
 | [],k,acc,_,_=>by rw[Jf,D4,List.append_nil]
 | x::l,k,acc,hl,h=>by
  rw[A8]at hl;rw[Jf,h x (A2 ..)];simp only[A1];rw[Nw (QP (by omega) (by simp;omega)),qkp K a b c l (k+1) (acc++[ownT x]) (by simp;omega) fun y hy=>h y (A0 _ hy),A3,E7];rfl
theorem qip:∀ (fuel:Nat) (p:ruProof),hT p<=fuel->okT p->Ju fuel p=some (ownT p)
 | 0,p,hf,_=>by have:=qfg p;omega
 | fuel+1,p,hf,ho=>by
  obtain⟨o1,o2,o3⟩:=(qaX p).1 ho;have h1:=qcF p;rw[Ju,Nw (qM (by omega)),qkp _ _ _ _ p.ql 0 [] (by simp;omega) fun x hx=>qip fuel x (by have:=HV hx;omega) (NU o3 hx),List.nil_append];obtain⟨r,⟨f1,f2⟩,s⟩:=p;unfold Qo;rw[ownT,qaW];rfl
def HoldsN (L:LJ) (G X:rufact->Prop):Nat->ruProof->Prop
 | 0,_=>False
 | n+1,p=>groundP p.qi/\((p.qp = -1/\p.ql=[]/\G (toF p.qi))\/(0<=p.qp/\∃ r,L[p.qp.toNat]? = some r/\(∀ s,s∈p.ql->HoldsN L G X n s)/\MatchP X r p.qi (p.ql.map ruProof.qi)))
theorem HoldsN.ground:∀ {n:Nat} {p:ruProof},HoldsN L G X n p->groundP p.qi
 | n+1,p,h=>h.1
theorem qcD (h:p.qp = -1):HoldsN L G X (n+1) p↔groundP p.qi/\p.ql=[]/\G (toF p.qi):=by
 rw[HoldsN];constructor
 .rintro⟨a,b | b⟩
  .exact⟨a,b.2⟩
  have:=b.1;omega
 rintro⟨a,b⟩
 exact⟨a,.inl ⟨h,b⟩⟩
theorem qhG {r:ruRule} (h0:0<=p.qp) (h:L[p.qp.toNat]? = some r):HoldsN L G X (n+1) p↔groundP p.qi/\(∀ s,s∈p.ql->HoldsN L G X n s)/\MatchP X r p.qi (p.ql.map ruProof.qi):=by
 rw[HoldsN];constructor
 .rintro⟨a,b | ⟨b,q,b1,b2⟩⟩
  .have:=b.1;omega
  rw[h]at b1;cases b1;exact⟨a,b2⟩
 rintro⟨a,b⟩
 exact⟨a,.inr ⟨h0,r,h,b⟩⟩
theorem qjs (h1:p.qp ≠ -1) (h:p.qp<0\/(L.length:Int)<=p.qp):¬ HoldsN L G X (n+1) p:=by
 rw[HoldsN]
 rintro⟨a,b | ⟨b,q,b1,b2⟩⟩
 .exact h1 b.1
 have:=(List.getElem?_eq_some_iff.1 b1).1;omega
theorem qkD {α:Type} {p q:Prop} [Decidable p] [Decidable q] {a b:α} (h:p↔q):(if p then a else b)=(if q then a else b):=by
 by_cases hp:p
 .rw[if_pos hp,if_pos (h.1 hp)]
 rw[if_neg hp,if_neg (fun q=>hp (h.2 q))]
theorem wfF3 {f:rufact} (h:wfF f=true):(wfI .i64 f.qm && wfI .i64 f.f_a && wfI .i64 f.f_b)=true:=h
theorem Up {f:apiFact} (h:groundP f):Qq f.qc f.qa=some (codeF (toF f):Int):=by
 obtain⟨h1,h2⟩:=XY h;have hc:=qcV h1;rw[h2]at hc;exact hc
theorem qid {w:LA} (hw:V8 w) {p:ruProof} (hs:∀ s,s∈p.ql->groundP s.qi) (hp:p.ql.length<=6) (N2:LD):∀ (body:Lp) (k n:Nat) (good:Bool),(∀ x,x∈body->fitP x.qe.qc x.qe.qa/\bnd w x.qe.qa)->n+body.length<=1000 ->
  jP w (ownT p) (Jt (ownT p) N2) body k good (n:Int)=if good=true/\n<=p.ql.length/\(posB (body.map toL)).map (fun x=>groundF w x.qe)=(p.ql.map fun s=>toF s.qi).drop n then some true else N2
 | [],k,n,good,_,_=>by
  rw[jP];unfold Jt Zu;rw[Hv,A4]
  cases good with
  | false=>rw[cN,cN,if_neg (fun h=>by cases h.1)]
  | true =>
   rw[cT];by_cases hn:n=p.ql.length
   .rw[show ((n:Int) == (p.ql.length:Int))=true from beq_iff_eq.2 (by omega),cT,if_pos ⟨rfl,by omega,by rw[F7 (by rw[A4];omega)];rfl⟩]
   rw[show ((n:Int) == (p.ql.length:Int))=false from beq_eq_false_iff_ne.2 (by omega),cN,if_neg ?_]
   rintro⟨_,h1,h2⟩
   have:=congrArg List.length h2;simp[posB]at this;omega
 | x::body,k,n,good,h,hl=>by
  rw[A8]at hl;have hx:=h x (A2 ..)
  have ih:=fun n' hn' good'=>qid hw hs hp N2 body (k+1) n' good' (fun y hy=>h y (A0 _ hy)) hn'
  rw[jP];unfold Yq Qx;rw[Hv,A4];by_cases hnot:x.qu=true
  .have e:posB ((x::body).map toL)=posB (body.map toL):=by
    rw[A3];unfold posB;rw[A5,if_neg (by simp[toL,hnot])]
   rw[hnot,D5,cN,e];exact ih n oM good
  have hnot':x.qu=false:=by simpa using hnot
  have e:posB ((x::body).map toL)=toL x::posB (body.map toL):=by
   rw[A3];unfold posB;rw[A5,if_pos (by simp[toL,hnot])]
  rw[hnot',D6,cT,e,wrap64 (by omega) (by omega),show (n:Int)+1=((n+1:Nat):Int) by omega]
  cases good with
  | false =>
   rw[cN,ih (n+1) (by omega) false,if_neg (fun h=>by cases h.1),if_neg (fun h=>by cases h.1)]
  | true =>
   rw[cT];by_cases hlt:n<p.ql.length
   .have hd:(p.ql.map fun s=>toF s.qi).drop n=toF p.ql[n].qi::(p.ql.map fun s=>toF s.qi).drop (n+1):=by
     rw[List.drop_eq_getElem_cons (by rw[A4];exact hlt),List.getElem_map]
    have hi:idx (p.ql.map ownT) (n:Int)=some (ownT p.ql[n]):=by
     unfold idx;rw[if_pos (by omega),C7,List.getElem?_map,D0 hlt];rfl
    have hg:=hs _ (List.getElem_mem hlt);rw[dT (by omega),cT,Nw (dT hw.1),VO hw hx.1 hx.2,hi];simp only[A1];rw[qai,Up hg];simp only[A1];obtain⟨o1,o2,o3⟩:=JU (a:=toA x.qe) hw hx.1 hx.2;rw[ih (n+1) (by omega),hd,A3];refine qkD ?_;rw[beq_iff_eq];constructor
    .rintro⟨a,b,c⟩
     refine⟨trivial,by omega,?_⟩;rw[c]
     congr 1
     exact UY o1 (XY hg).1 (Int.ofNat_inj.1 a)
    rintro⟨a,b,c⟩
    rw[List.cons.injEq]at c;exact⟨by rw[<- c.1];rfl,by omega,c.2⟩
   rw[dF (by omega),cN,ih (n+1) (by omega) false,if_neg (fun h=>by cases h.1),if_neg ?_]
   rintro⟨_,b,c⟩
   rw[F7 (by rw[A4];omega),A3]at c;cases c
theorem qie {ar:Int->Nat} {r:rf3Rule} (hr:okL ar (toR r)) {N:LI} (hN:N.length=252) {p:ruProof} (hg:groundP p.qi) (hs:∀ s,s∈p.ql->groundP s.qi) (hp:p.ql.length<=6):∀ (ws:Li) (k:Nat),(∀ w,w∈ws->V8 w/\∀ a,a∈atomsU (toR r)->bnd w a.qa) ->
  jj N (ownT p) r ju ws k=some (decide (∃ w,w∈ws/\FreeP (setB N) w (toR r).qd/\groundF w (toR r).qf=toF p.qi/\(posB (toR r).qd).map (fun x=>groundF w x.qe)=p.ql.map fun s=>toF s.qi))
 | [],k,_=>by
  rw[jj,dF (by simp)];rfl
 | w::ws,k,h=>by
  obtain⟨hw,hb⟩:=h w (A2 ..)
  have ih:=qie hr hN hg hs hp ws (k+1) fun u hu=>h u (A0 _ hu)
  have hbl:r.qd.length<=3:=by have:=hr.1.1;simpa[toR] using this
  have hbd:∀ x,x∈r.qd->fitP x.qe.qc x.qe.qa/\bnd w x.qe.qa:=fun x hx =>
   ⟨(hr.body (toL x) (List.mem_map.2 ⟨x,hx,rfl⟩)).1,hb (toA x.qe) (A0 _ (List.mem_map.2 ⟨toL x,List.mem_map.2 ⟨x,hx,rfl⟩,rfl⟩))⟩
  have hhd:fitP r.qf.qc r.qf.qa/\bnd w r.qf.qa:=⟨hr.head.1,hb _ (A2 ..)⟩
  have go:∀ good,Yr w (ownT p) r (jj N (ownT p) r ju ws (k+1)) good=if good=true/\(posB (toR r).qd).map (fun x=>groundF w x.qe)=p.ql.map (fun s=>toF s.qi) then some true else jj N (ownT p) r ju ws (k+1):=fun good=>by
   unfold Yr;rw[Nw (qM (by omega)),show (0:Int)=((0:Nat):Int) from rfl,qid hw hs hp _ r.qd 0 0 good hbd (by omega),E8];exact qkD ⟨fun h=>⟨h.1,h.2.2⟩,fun h=>⟨h.1,by omega,h.2⟩⟩
  rw[jj,Nw (dT hw.1),Nw (dT ⟨hw.1,by simp⟩),Nw (dT hw.1),Nw (dT hN),qcL hw hN hbl fun x hx _=>hbd x hx];simp only[A1];by_cases hfr:FreeP (setB N) w (toR r).qd
  .rw[dT hfr,cT,Nw (dT hw.1),VO hw hhd.1 hhd.2];simp only[A1];rw[qai,Up hg];simp only[A1];rw[go];obtain⟨o1,o2,o3⟩:=JU (a:=toA r.qf) hw hhd.1 hhd.2;by_cases hc:((codeF (groundF w (toA r.qf)):Int) == (codeF (toF p.qi):Int))=true/\(posB (toR r).qd).map (fun x=>groundF w x.qe)=p.ql.map (fun s=>toF s.qi)
   .rw[if_pos hc];have hc1:=beq_iff_eq.1 hc.1;rw[dT ⟨w,A2 ..,hfr,UY o1 (XY hg).1 (Int.ofNat_inj.1 hc1),hc.2⟩]
   rw[if_neg hc,ih]
   congr 1
   refine decide_eq_decide.2 ?_;constructor
   .rintro⟨u,u1,u2⟩
    exact⟨u,A0 _ u1,u2⟩
   rintro⟨u,u1,u2,u3,u4⟩
   rcases List.mem_cons.1 u1 with rfl | u1
   .refine absurd ⟨?_,u4⟩ hc;rw[show groundF u (toA r.qf)=toF p.qi from u3];exact beq_self_eq_true _
   exact⟨u,u1,u2,u3,u4⟩
  rw[dF hfr,cN,go,if_neg (fun h=>by cases h.1),ih]
  congr 1
  refine decide_eq_decide.2 ?_;constructor
  .rintro⟨u,u1,u2⟩
   exact⟨u,A0 _ u1,u2⟩
  rintro⟨u,u1,u2,u3,u4⟩
  rcases List.mem_cons.1 u1 with rfl | u1
  .exact absurd u2 hfr
  exact⟨u,u1,u2,u3,u4⟩
theorem qif {l:LN} {G X:LI} (hG:G.length=252) (hX:X.length=252) {K0:LN->LI->LI->qw->LD} {H:ruProof->Prop} (hH:∀ s,H s->groundP s.qi) (K:LI->LD):∀ (ss:Le) (k:Nat) (S:LI),S.length=252->(∀ s,s∈ss->K0 l G X (ownT s)=some (decide (H s))) ->
  ((∀ s,s∈ss->H s)/\∃ S',QZ l G X K0 K (ss.map ownT) k S=K S'/\S'.length=252/\∀ g,setB S' g↔setB S g\/g∈ss.map fun s=>toF s.qi)\/(¬ (∀ s,s∈ss->H s)/\QZ l G X K0 K (ss.map ownT) k S=some false)
 | [],k,S,hS,_=>.inl ⟨fun s hs=>by simp at hs,S,by rw[D4,QZ],hS,fun g=>by simp⟩
 | x::ss,k,S,hS,h=>by
  rw[A3,QZ,Nw (dT hG),Nw (dT hX),h x (A2 ..)];simp only[A1];by_cases hx:H x
  .have hg:=hH x hx;have hok:=(XY hg).1;have hlt:=QO hok;rw[dT hx,D5,cN,qai,Up hg];simp only[A1];rw[Nw (dT ⟨by omega,by omega,by omega⟩),Nw (dT (by omega)),E9,Nat.mul_one,C7]
   rcases qif hG hX hH K ss (k+1) (S.set (codeF (toF x.qi)) true) (by rw[C0,hS]) (fun s hs=>h s (A0 _ hs)) with ⟨a,S',b,c,d⟩ | ⟨a,b⟩
   .left;refine⟨fun s hs=>?_,S',b,c,fun g=>?_⟩
    .rcases List.mem_cons.1 hs with rfl | hs
     .exact hx
     exact a s hs
    rw[d,qch hS hok,A3,List.mem_cons];constructor
    .rintro ((h | h) | h)
     .exact .inl h
     .exact .inr (.inl h)
     exact .inr (.inr h)
    rintro (h | h | h)
    .exact .inl (.inl h)
    .exact .inl (.inr h)
    exact .inr h
   right;exact⟨fun c=>a fun s hs=>c s (A0 _ hs),b⟩
  right;rw[dF hx,D6,cT];exact⟨fun c=>hx (c x (A2 ..)),rfl⟩
theorem qfF {ar:Int->Nat} {l:LN} (hL:∀ r,r∈l->okL ar (toR r)) {G X:LI} (hG:G.length=252) (hX:X.length=252):∀ (n fuel:Nat) (p:ruProof),hT p<=n->n+6<=fuel->okT p->YF fuel l G X (ownT p)=some (decide (HoldsN (l.map toR) (setB G) (setB X) n p))
 | 0,fuel,p,hn,_,_=>by have:=qfg p;omega
 | n+1,0,p,_,hf,_=>by omega
 | n+1,fuel+1,p,hn,hf,ho=>by
  obtain⟨o1,o2,o3⟩:=(qaX p).1 ho;have h1:=qcF p;rw[YF,Nw (by cases G <;> simp_all),Nw (by cases X <;> simp_all),qai,qfZ,Hv,DI (qM (by omega)),A4];simp only[A1];by_cases hg:groundP p.qi
  .have hok:=(XY hg).1;have hlt:=QO hok;rw[dT hg,D5,cN];by_cases hr:p.qp = -1
   .rw[hr,beq_self_eq_true,cT];unfold Zv;by_cases hs:p.ql=[]
    .rw[hs,show ((([]:Le).length:Int) == 0)=true from rfl,cT,Up hg];simp only[A1];rw[Nw (dT ⟨by omega,by omega,by omega⟩),E9,Nat.mul_one,C7,D0 (by omega)];simp only[A1]
     congr 1
     rw[Bool.eq_iff_iff,decide_eq_true_iff,qcD hr];unfold setB;rw[A7,D0 (by omega)];exact⟨fun q=>⟨hg,hs,hok,q⟩,fun q=>q.2.2.2⟩
    rw[show ((p.ql.length:Int) == 0)=false by rw[beq_eq_false_iff_ne];intro h;exact hs (F6 (by omega)),cN]
    congr 1
    exact (dF fun q=>hs ((qcD hr).1 q).2.1).symm
   rw[show (p.qp == -1)=false from beq_eq_false_iff_ne.2 hr,cN];by_cases hout:p.qp<0\/(l.length:Int)<=p.qp
   .rw[dF (qjs (L:=l.map toR) hr (by rw[A4];exact hout))];unfold Yt;by_cases h0:p.qp<0
    .rw[dT h0,cT,cT]
    rw[dF h0,cN,dT (by omega),cT]
   have h0:0<=p.qp:=by omega
   have hlt':p.qp.toNat<l.length:=by omega
   have hi:l[p.qp.toNat]? = some l[p.qp.toNat]:=D0 hlt';have hrU:=hL _ (List.getElem_mem hlt');generalize l[p.qp.toNat]=r at hi hrU
   have hi':(l.map toR)[p.qp.toNat]? = some (toR r):=by rw[List.getElem?_map,hi];rfl
   have hbl:r.qd.length<=3:=by have:=hrU.1.1;simpa[toR] using this
   rw[dF (by omega),cN,dF (by omega)];unfold Yt;rw[cN,qfZ,Hv,show idx l p.qp=some r by unfold idx;rw[if_pos h0,hi]];simp only[A1];rw[Nw (qM (by rw[A4];omega))];have hiff:=qhG (G:=setB G) (X:=setB X) (n:=n) h0 hi'
   rcases qif (l:=l) hG hX (K0:=YF fuel) (H:=HoldsN (l.map toR) (setB G) (setB X) n) (fun s hs=>hs.ground) (Ys fuel X (ownT p) r) p.ql 0 (A6 252 false) (by simp) (fun s hs=>qfF hL hG hX n fuel s (by have:=HV hs;omega) oM (NU o3 hs)) with ⟨a,S',b,c,d⟩ | ⟨a,b⟩
   .rw[b];unfold Ys
    have hiv:=YO (r:=r) hbl (fun x hx=>by
     have:=(hrU.body (toL x) (List.mem_map.2 ⟨x,hx,rfl⟩)).1
     exact⟨jY this,this.2.1.2⟩) c r.qd.length fuel 0 v0 oM oM (by simp)
    rw[E8]at hiv;replace hiv:qA fuel r S' 0 (A6 8 0)=some (instR S' (r.qd.map toL) v0):=hiv
    have hmem:∀ w,w∈instR S' (r.qd.map toL) v0↔InstP (setB S') (toR r).qd v0 w:=fun w=>VL _ _ _
    have hlen:(instR S' (r.qd.map toL) v0).length<=16003008:=by
     have h1:=VM S' (r.qd.map toL) v0;rw[A4]at h1;have h2:252 ^ r.qd.length<=252 ^ 3:=Nat.pow_le_pow_right oM hbl
     have:252 ^ 3=16003008:=by decide
     omega
    have hsg:∀ s,s∈p.ql->groundP s.qi:=fun s hs=>(a s hs).ground
    have hset:setB S'=fun g=>g∈(p.ql.map ruProof.qi).map toF:=by
     funext g
     refine propext ((d g).trans ?_);rw[D7]
     exact⟨fun h=>h.elim (fun h=>absurd h (fun h=>by
      have:=h.2;rw[A7,D3]at this
      split at this <;> simp at this)) id,.inr⟩
    rw[Nw (dT c),hiv];simp only[A1];rw[Nw (qM (by omega)),qie hrU hX hg hsg o2 _ 0 fun w hw=>hrU.inst (Hq S') ((hmem w).1 hw)]
    congr 1
    refine decide_eq_decide.2 ?_
    rw[hiff,qhC hrU (fun s hs=>by
     obtain⟨t,ht,rfl⟩:=List.mem_map.1 hs
     exact hsg t ht)]
    rw[<- hset,D7];constructor
    .rintro⟨w,w1,w2,w3,w4⟩
     exact⟨hg,a,w,(hmem w).1 w1,w2,w3,w4⟩
    rintro⟨_,_,w,w1,w2,w3,w4⟩
    exact⟨w,(hmem w).2 w1,w2,w3,w4⟩
   rw[b]
   congr 1
   exact (dF fun q=>a (hiff.1 q).2.1).symm
  rw[dF hg,D6,cT]
  congr 1
  exact (dF fun q=>hg q.ground).symm
def CostsL (C:rufact->Nat->Prop):LH->Nat->Prop
 | [],s=>s=0
 | g::gs,s=>∃ m t,C g m/\CostsL C gs t/\s=m+t
def Cost (L:LJ) (G X:rufact->Prop):Nat->rufact->Nat->Prop
 | 0,_,_=>False
 | d+1,f,n=>(G f/\n=1)\/∃ r,r∈L/\∃ w,V8 w/\(∀ a,a∈atomsU r->bnd w a.qa)/\groundF w r.qf=f/\FreeP X w r.qd/\∃ s,CostsL (Cost L G X d) ((posB r.qd).map fun x=>groundF w x.qe) s/\n=1+s
theorem CostsL.mono {C D:rufact->Nat->Prop} (h:∀ g m,C g m->D g m):∀ {gs:LH} {s:Nat},CostsL C gs s->CostsL D gs s
 | [],s,k=>k
 | g::gs,s,⟨m,t,a,b,c⟩=>⟨m,t,h g m a,b.mono h,c⟩
theorem Cost.succ {L:LJ} {G X:rufact->Prop}:∀ {d:Nat} {f:rufact} {n:Nat},Cost L G X d f n->Cost L G X (d+1) f n
 | 0,f,n,h=>h.elim
 | d+1,f,n,h=>by
  rw[Cost]at h ⊢
  rcases h with h | ⟨r,hr,w,h1,h2,h3,h4,s,h5,h6⟩
  .exact .inl h
  exact .inr ⟨r,hr,w,h1,h2,h3,h4,s,h5.mono fun g m hm=>hm.succ,h6⟩
theorem Cost.le {e:Nat} (h:d<=e) {f:rufact} (k:Cost L G X d f n):Cost L G X e f n:=by
 induction h with
 | refl=>exact k
 | step _ ih=>exact ih.succ
theorem Cost.pos {f:rufact} (h:Cost L G X d f n):1<=n:=by
 cases d with
 | zero=>exact h.elim
 | succ d =>
  rw[Cost]at h
  rcases h with ⟨_,h⟩ | ⟨r,hr,w,h1,h2,h3,h4,s,h5,h6⟩ <;> omega
structure TabN (C:rufact->Nat->Prop) (now:LA):Prop where
 len:now.length=252
 rng:∀ i,0<=now.getD i 0/\now.getD i 0<=500
 none:∀ f,okU1 f->now.getD (codeF f) 0=0->∀ n,C f n->500<n
 some:∀ f,okU1 f->now.getD (codeF f) 0≠0->C f (now.getD (codeF f) 0).toNat/\∀ n,C f n->(now.getD (codeF f) 0).toNat<=n
theorem TabN.zero:TabN (Cost L G X 0) (A6 252 0):=by
 have h0:∀ i,(A6 252 (0:Int)).getD i 0=0:=fun i=>by
  rw[A7,D3];split <;> rfl
 exact⟨by simp,fun i=>by rw[h0];omega,fun f _ _ n h=>h.elim,fun f _ h=>absurd (h0 _) h⟩
def sumT (now:LA):LH->Int
 | []=>0
 | g::gs=>now.getD (codeF g) 0+sumT now gs
theorem Dv {C:rufact->Nat->Prop} {now:LA} (h:TabN C now):∀ {gs:LH},(∀ g,g∈gs->okU1 g/\now.getD (codeF g) 0≠0)->CostsL C gs (sumT now gs).toNat/\0<=sumT now gs/\sumT now gs<=500 * gs.length
 | [],_=>⟨rfl,D1 _,by simp[sumT]⟩
 | g::gs,hg=>by
  obtain⟨a,b⟩:=hg g (A2 ..)
  obtain⟨c,d,e⟩:=Dv h fun x hx=>hg x (A0 _ hx)
  have r:=h.rng (codeF g);unfold sumT;rw[A8];refine⟨⟨_,_,(h.some g a b).1,c,by omega⟩,by omega,by omega⟩
theorem Du {C:rufact->Nat->Prop} {now:LA} (h:TabN C now):∀ {gs:LH} {s:Nat},(∀ g,g∈gs->okU1 g)->CostsL C gs s->s<=500->(∀ g,g∈gs->now.getD (codeF g) 0≠0)/\sumT now gs<=s
 | [],s,_,hs,_=>⟨fun g hg=>by simp at hg,by unfold sumT;omega⟩
 | g::gs,s,hg,⟨m,t,a,b,c⟩,h5=>by
  have ho:=hg g (A2 ..);obtain⟨e1,e2⟩:=Du h (fun x hx=>hg x (A0 _ hx)) b oM
  have hne:now.getD (codeF g) 0≠0:=fun e=>by have:=h.none g ho e m a;omega
  have:=(h.some g ho hne).2 m a;have r:=h.rng (codeF g);unfold sumT;refine⟨fun x hx=>?_,by omega⟩
  rcases List.mem_cons.1 hx with rfl | hx
  .exact hne
  exact e1 x hx
def BestF (K:rufact->Int->Prop) (v:LA):Prop:=v.length=252/\(∀ i,0<=v.getD i 0/\v.getD i 0<=500)/\∀ f,okU1 f->(v.getD (codeF f) 0=0->∀ n,¬ K f n)/\(v.getD (codeF f) 0≠0->K f (v.getD (codeF f) 0)/\∀ n,K f n->v.getD (codeF f) 0<=n)
theorem BestF.same {K':rufact->Int->Prop} (h:BestF K v) (e:∀ f n,okU1 f->(K f n↔K' f n)):BestF K' v :=
 ⟨h.1,h.2.1,fun f hf=>⟨fun a n k=>(h.2.2 f hf).1 a n ((e f n hf).2 k),fun a=>⟨(e f _ hf).1 ((h.2.2 f hf).2 a).1,fun n k=>((h.2.2 f hf).2 a).2 n ((e f n hf).2 k)⟩⟩⟩
theorem qkV {f:rufact} (hf:okU1 f) (hg:okU1 g) (h:f≠g):codeF f≠codeF g:=fun e=>h (UY hf hg e)
theorem BestF.put (h:BestF K v) (hg:okU1 g) {n:Int} (h1:1<=n) (h5:n<=500) (hb:v.getD (codeF g) 0=0\/n<=v.getD (codeF g) 0):BestF (fun f m=>K f m\/(f=g/\m=n)) (v.set (codeF g) n):=by
 have hlt:codeF g<v.length:=by rw[h.1];exact QO hg
 refine⟨by rw[C0];exact h.1,fun i=>?_,fun f hf=>?_⟩
 .rw[Vx _ _ _ hlt];have:=h.2.1 i;split <;> omega
 rw[Vx _ _ _ hlt];by_cases he:f=g
 .subst he;rw[if_pos rfl];refine⟨fun e=>by omega,fun _=>⟨.inr ⟨rfl,rfl⟩,fun m hm=>?_⟩⟩
  rcases hm with hm | ⟨_,rfl⟩
  .rcases hb with hb | hb
   .exact absurd hm ((h.2.2 f hf).1 hb m)
   by_cases e0:v.getD (codeF f) 0=0
   .exact absurd hm ((h.2.2 f hf).1 e0 m)
   have:=((h.2.2 f hf).2 e0).2 m hm;omega
  exact D1 _
 rw[if_neg (qkV hf hg he)];have:=h.2.2 f hf;refine⟨fun e m hm=>?_,fun e=>⟨.inl (this.2 e).1,fun m hm=>?_⟩⟩
 .rcases hm with hm | ⟨e2,_⟩
  .exact this.1 e m hm
  exact he e2
 rcases hm with hm | ⟨e2,_⟩
 .exact (this.2 e).2 m hm
 exact absurd e2 he
theorem BestF.keep (h:BestF K v) (hg:okU1 g) {n:Int} (hb:v.getD (codeF g) 0≠0/\v.getD (codeF g) 0<=n):BestF (fun f m=>K f m\/(f=g/\m=n)) v:=by
 refine⟨h.1,h.2.1,fun f hf=>?_⟩;have:=h.2.2 f hf;refine⟨fun e m hm=>?_,fun e=>⟨.inl (this.2 e).1,fun m hm=>?_⟩⟩
 .rcases hm with hm | ⟨rfl,rfl⟩
  .exact this.1 e m hm
  exact hb.1 e
 rcases hm with hm | ⟨rfl,rfl⟩
 .exact (this.2 e).2 m hm
 exact hb.2
theorem TabN.best {C:rufact->Nat->Prop} (h:TabN C now):BestF (fun f n=>now.getD (codeF f) 0≠0/\n=now.getD (codeF f) 0) now :=
 ⟨h.len,h.rng,fun f hf=>⟨fun e n k=>k.1 e,fun e=>⟨⟨e,rfl⟩,fun n k=>by rw[k.2];exact D1 _⟩⟩⟩
theorem gt252 (hv:v.length=252) (hn:n<252):v[0+D2 (n:Int) * 1]? = some (v.getD n 0):=by
 rw[E9,Nat.mul_one,C7,A7,D0 (by omega)];rfl
theorem ix252 (hn:n<252):decide ((0:Int)<=(n:Int)/\(n:Int)<((252:Nat):Int)/\0<1)=true:=dT ⟨by omega,by omega,by omega⟩
theorem bd252 (hv:v.length=252) (hn:n<252):decide ((0+D2 (n:Int) * 1)<v.length)=true:=dT oM
theorem st252 (n:Nat):0+D2 (n:Int) * 1=n:=by omega
theorem qgf {w:LA} (hw:V8 w) {now:LA} (hn:now.length=252) (hr:∀ i,0<=now.getD i 0/\now.getD i 0<=500) (K:Int->LR):∀ (body:Lp) (k:Nat) (v:Int),(∀ x,x∈body->fitP x.qe.qc x.qe.qa/\bnd w x.qe.qa)->0<=v->v+500 * body.length<=1000000 ->
  Qf w now K body k v=K (v+sumT now ((posB (body.map toL)).map fun x=>groundF w x.qe))
 | [],k,v,_,_,_=>by
  rw[Qf];show K v=K (v+0);rw[Int.add_zero]
 | x::body,k,v,h,h0,hl=>by
  rw[A8]at hl;have hx:=h x (A2 ..)
  have ih:=fun v' a b=>qgf hw hn hr K body (k+1) v' (fun y hy=>h y (A0 _ hy)) a b
  rw[Qf];unfold YJ;by_cases hnot:x.qu=true
  .have e:posB ((x::body).map toL)=posB (body.map toL):=by
    rw[A3];unfold posB;rw[A5,if_neg (by simp[toL,hnot])]
   rw[hnot,D5,cN,e];exact ih v h0 oM
  have hnot':x.qu=false:=by simpa using hnot
  have e:posB ((x::body).map toL)=toL x::posB (body.map toL):=by
   rw[A3];unfold posB;rw[A5,if_pos (by simp[toL,hnot])]
  obtain⟨o1,o2,o3⟩:=JU (a:=toA x.qe) hw hx.1 hx.2;have hc:=QO o1;have hrc:=hr (codeF (groundF w (toA x.qe)));rw[hnot',D6,cT,e,Nw (dT hw.1),VO hw hx.1 hx.2];simp only[A1];rw[Nw (ix252 hc),gt252 hn hc];simp only[A1];rw[wrap64 (by omega) (by omega),ih _ (by omega) (by omega),A3];show _=K (v+(now.getD (codeF (groundF w (toA x.qe))) 0+_));rw[Int.add_assoc]
def costW (now:LA) (r:ruRule) (w:LA):Int:=1+sumT now ((posB r.qd).map fun x=>groundF w x.qe)
theorem qbl {now:LA} (hr:∀ i,0<=now.getD i 0/\now.getD i 0<=500):∀ gs,0<=sumT now gs
 | []=>D1 _
 | g::gs=>by
  have:=hr (codeF g);have:=qbl hr gs;unfold sumT;omega
theorem qgg {ar:Int->Nat} {r:rf3Rule} (hrl:okL ar (toR r)) {N now:LI×LA} (hN:N.1.length=252) (hn:now.2.length=252) (hr:∀ i,0<=now.2.getD i 0/\now.2.getD i 0<=500) (K41:LA->LR):∀ (ws:Li) (k:Nat) (v:LA) (K:rufact->Int->Prop),BestF K v->(∀ w,w∈ws->V8 w/\∀ a,a∈atomsU (toR r)->bnd w a.qa) ->
  ∃ v',Jj N.1 r now.2 K41 ws k v=K41 v'/\BestF (fun f m=>K f m\/∃ w,w∈ws/\FreeP (setB N.1) w (toR r).qd/\groundF w (toR r).qf=f/\m=costW now.2 (toR r) w/\m<=500) v'
 | [],k,v,K,hb,_=>⟨v,by rw[Jj],hb.same fun f m _=>⟨.inl,fun h=>h.elim id (fun ⟨w,hw,_⟩=>by simp at hw)⟩⟩
 | w::ws,k,v,K,hb,h=>by
  obtain⟨hw,hbw⟩:=h w (A2 ..)
  have hbl:r.qd.length<=3:=by have:=hrl.1.1;simpa[toR] using this
  have hbd:∀ x,x∈r.qd->fitP x.qe.qc x.qe.qa/\bnd w x.qe.qa:=fun x hx =>
   ⟨(hrl.body (toL x) (List.mem_map.2 ⟨x,hx,rfl⟩)).1,hbw (toA x.qe) (A0 _ (List.mem_map.2 ⟨toL x,List.mem_map.2 ⟨x,hx,rfl⟩,rfl⟩))⟩
  have hhd:fitP r.qf.qc r.qf.qa/\bnd w r.qf.qa:=⟨hrl.head.1,hbw _ (A2 ..)⟩;obtain⟨o1,o2,o3⟩:=JU (a:=toA r.qf) hw hhd.1 hhd.2;have hc:=QO o1;have hpos:=qbl hr ((posB (toR r).qd).map fun x=>groundF w x.qe)
  have step:∃ v1,(∀ K47,QF N.1 r w v K47 (costW now.2 (toR r) w)=K47 v1)/\BestF (fun f m=>K f m\/(FreeP (setB N.1) w (toR r).qd/\groundF w (toR r).qf=f/\m=costW now.2 (toR r) w/\m<=500)) v1:=by
   have hopen:∀ K47,QF N.1 r w v K47 (costW now.2 (toR r) w)=bif decide (FreeP (setB N.1) w (toR r).qd) then (bif decide (costW now.2 (toR r) w<=500) then (bif (v.getD (codeF (groundF w (toA r.qf))) 0 == 0) then K47 (v.set (codeF (groundF w (toA r.qf))) (costW now.2 (toR r) w)) else (bif decide (costW now.2 (toR r) w<v.getD (codeF (groundF w (toA r.qf))) 0) then K47 (v.set (codeF (groundF w (toA r.qf))) (costW now.2 (toR r) w)) else K47 v)) else K47 v) else K47 v:=fun K47=>by
    unfold QF Xk;rw[Nw (dT hw.1),VO hw hhd.1 hhd.2];simp only[A1];rw[Nw (dT hw.1),Nw (dT hN),qcL hw hN hbl fun x hx _=>hbd x hx];simp only[A1];rw[Nw (ix252 hc),gt252 hb.1 hc];simp only[A1,cT,cN];rw[Nw (ix252 hc),Nw (bd252 hb.1 hc),st252,Nw (ix252 hc)]
   by_cases hfr:FreeP (setB N.1) w (toR r).qd
   .by_cases h5:costW now.2 (toR r) w<=500
    .have h1:1<=costW now.2 (toR r) w:=by unfold costW;omega
     by_cases hset:v.getD (codeF (groundF w (toA r.qf))) 0=0\/costW now.2 (toR r) w<v.getD (codeF (groundF w (toA r.qf))) 0
     .refine⟨v.set (codeF (groundF w (toA r.qf))) (costW now.2 (toR r) w),fun K47=>?_,(hb.put o1 h1 h5 oM).same fun f m _=>?_⟩
      .rw[hopen,dT hfr,cT,dT h5,cT]
       rcases hset with e | e
       .rw[e,show ((0:Int) == 0)=true from rfl,cT]
       rw[dT e,cT];cases v.getD (codeF (groundF w (toA r.qf))) 0 == 0 <;> rfl
      exact⟨fun h=>h.imp id fun ⟨a,b⟩=>⟨hfr,a.symm,b,by rw[b];exact h5⟩,fun h=>h.imp id fun ⟨_,a,b,_⟩=>⟨a.symm,b⟩⟩
     refine⟨v,fun K47=>?_,(hb.keep o1 (n:=costW now.2 (toR r) w) ⟨fun e=>hset (.inl e),by omega⟩).same fun f m _=>?_⟩
     .rw[hopen,dT hfr,cT,dT h5,cT,show (v.getD (codeF (groundF w (toA r.qf))) 0 == 0)=false from beq_eq_false_iff_ne.2 fun e=>hset (.inl e),cN,dF (fun e=>hset (.inr e)),cN]
     exact⟨fun h=>h.imp id fun ⟨a,b⟩=>⟨hfr,a.symm,b,by rw[b];exact h5⟩,fun h=>h.imp id fun ⟨_,a,b,_⟩=>⟨a.symm,b⟩⟩
    exact⟨v,fun K47=>by rw[hopen,dT hfr,cT,dF h5,cN],hb.same fun f m _=>⟨.inl,fun h=>h.elim id fun ⟨_,_,a,b⟩=>absurd (a ▸ b) h5⟩⟩
   exact⟨v,fun K47=>by rw[hopen,dF hfr,cN],hb.same fun f m _=>⟨.inl,fun h=>h.elim id fun ⟨a,_⟩=>absurd a hfr⟩⟩
  obtain⟨v1,s1,s2⟩:=step
  obtain⟨v2,t1,t2⟩:=qgg hrl (N:=N) (now:=now) hN hn hr K41 ws (k+1) v1 _ s2 fun u hu=>h u (A0 _ hu)
  refine⟨v2,?_,t2.same fun f m _=>?_⟩
  .rw[Jj,Nw (dT hw.1),Nw (dT ⟨hw.1,by simp⟩),Nw (qM (by omega)),qgf hw hn hr _ r.qd 0 1 hbd (by omega) (by omega)];rw[show (1:Int)+sumT now.2 ((posB (r.qd.map toL)).map fun x=>groundF w x.qe)=costW now.2 (toR r) w from rfl,s1];exact t1
  constructor
  .rintro ((a | a) | ⟨u,u1,u2⟩)
   .exact .inl a
   .exact .inr ⟨w,A2 ..,a⟩
   exact .inr ⟨u,A0 _ u1,u2⟩
  rintro (a | ⟨u,u1,u2⟩)
  .exact .inl (.inl a)
  rcases List.mem_cons.1 u1 with rfl | u1
  .exact .inl (.inr u2)
  exact .inr ⟨u,u1,u2⟩
theorem qgh {ar:Int->Nat} {fuel:Nat} (hf:5<=fuel) {N S:LI} {now:LA} (hN:N.length=252) (hS:S.length=252) (hn:now.length=252) (hr:∀ i,0<=now.getD i 0/\now.getD i 0<=500) (K38:LA->LR):∀ (L:LN) (k:Nat) (v:LA) (K:rufact->Int->Prop),(∀ r,r∈L->okL ar (toR r))->BestF K v ->
  ∃ v',jw fuel N now S K38 L k v=K38 v'/\BestF (fun f m=>K f m\/∃ r,r∈L.map toR/\∃ w,InstP (setB S) r.qd v0 w/\FreeP (setB N) w r.qd/\groundF w r.qf=f/\m=costW now r w/\m<=500) v'
 | [],k,v,K,_,hb=>⟨v,by rw[jw],hb.same fun f m _=>⟨.inl,fun h=>h.elim id (fun ⟨r,hr,_⟩=>by simp at hr)⟩⟩
 | r::L,k,v,K,hL,hb=>by
  have hrl:=hL r (A2 ..)
  have hbl:r.qd.length<=3:=by have:=hrl.1.1;simpa[toR] using this
  have hiv:=YO (r:=r) hbl (fun x hx=>by
   have:=(hrl.body (toL x) (List.mem_map.2 ⟨x,hx,rfl⟩)).1
   exact⟨jY this,this.2.1.2⟩) hS r.qd.length fuel 0 v0 oM oM (by simp)
  rw[E8]at hiv;replace hiv:qA fuel r S 0 (A6 8 0)=some (instR S (r.qd.map toL) v0):=hiv
  have hmem:∀ w,w∈instR S (r.qd.map toL) v0↔InstP (setB S) (toR r).qd v0 w:=fun w=>VL _ _ _
  have hlen:(instR S (r.qd.map toL) v0).length<=16003008:=by
   have h1:=VM S (r.qd.map toL) v0;rw[A4]at h1;have h2:252 ^ r.qd.length<=252 ^ 3:=Nat.pow_le_pow_right oM hbl
   have:252 ^ 3=16003008:=by decide
   omega
  obtain⟨v1,a1,a2⟩:=qgg hrl (N:=(N,[])) (now:=([],now)) hN hn hr (JC (jw fuel N now S K38 L (k+1))) (instR S (r.qd.map toL) v0) 0 v K hb fun w hw=>hrl.inst (Hq S) ((hmem w).1 hw)
  obtain⟨v2,b1,b2⟩:=qgh hf hN hS hn hr K38 L (k+1) v1 _ (fun q hq=>hL q (A0 _ hq)) a2;refine⟨v2,?_,b2.same fun f m _=>?_⟩
  .rw[jw,Nw (dT hS),hiv];simp only[A1];rw[Nw (qM (by omega))];exact a1.trans b1
  rw[A3];constructor
  .rintro ((a | ⟨w,w1,w2⟩) | ⟨q,q1,q2⟩)
   .exact .inl a
   .exact .inr ⟨toR r,A2 ..,w,(hmem w).1 w1,w2⟩
   exact .inr ⟨q,A0 _ q1,q2⟩
  rintro (a | ⟨q,q1,w,w1,w2⟩)
  .exact .inl (.inl a)
  rcases List.mem_cons.1 q1 with rfl | q1
  .exact .inl (.inr ⟨w,(hmem w).2 w1,w2⟩)
  exact .inr ⟨q,q1,w,w1,w2⟩
theorem qgi (K29:LA->LR):∀ (l:LG) (k:Nat) (v:LA) (K:rufact->Int->Prop),(∀ f,f∈l->groundP f)->BestF K v ->
  ∃ v',Xb K29 l k v=K29 v'/\BestF (fun f m=>K f m\/(f∈l.map toF/\m=1)) v'
 | [],k,v,K,_,hb=>⟨v,by rw[Xb],hb.same fun f m _=>⟨.inl,fun h=>h.elim id (fun h=>by simp at h)⟩⟩
 | x::l,k,v,K,h,hb=>by
  have hg:=h x (A2 ..);have hok:=(XY hg).1;have hc:=QO hok;have hrc:=hb.2.1 (codeF (toF x));obtain⟨v2,b1,b2⟩:=qgi K29 l (k+1) _ _ (fun f hf=>h f (A0 _ hf)) (hb.put hok (n:=1) oM oM oM);refine⟨v2,?_,b2.same fun f m _=>?_⟩
  .rw[Xb,Up hg];simp only[A1];rw[Nw (ix252 hc),Nw (bd252 hb.1 hc),st252];exact b1
  rw[A3,List.mem_cons];constructor
  .rintro ((a | ⟨a,b⟩) | ⟨a,b⟩)
   .exact .inl a
   .exact .inr ⟨.inl a,b⟩
   exact .inr ⟨.inr a,b⟩
  rintro (a | ⟨a | a,b⟩)
  .exact .inl (.inl a)
  .exact .inl (.inr ⟨a,b⟩)
  exact .inr ⟨a,b⟩
theorem qgj {now:LA} (hn:now.length=252) (K19:LI->LR):∀ (L:LQ) (k:Nat) (S:LI),k+L.length=252->S.length=252->(∀ i,i<k->S.getD i false=decide (now.getD i 0 > 0)) ->
  ∃ S',Xc now K19 L k S=K19 S'/\S'.length=252/\∀ i,i<252->S'.getD i false=decide (now.getD i 0 > 0)
 | [],k,S,hk,hS,h=>⟨S,by rw[Xc],hS,fun i hi=>h i (by simp at hk;omega)⟩
 | x::L,k,S,hk,hS,h=>by
  rw[A8]at hk
  have hlt:k<252:=by omega
  obtain⟨S',a,b,c⟩:=qgj hn K19 L (k+1) (S.set k (decide (now.getD k 0 > 0))) oM (by rw[C0];exact hS) fun i hi=>by
   rw[A7,List.getElem?_set];by_cases e:k=i
   .subst e;rw[if_pos rfl,if_pos (by omega)];rfl
   rw[if_neg e,<- A7];exact h i oM
  refine⟨S',?_,b,c⟩;rw[Xc,Nw (ix252 hlt),gt252 hn hlt];simp only[A1];rw[Nw (ix252 hlt),Nw (dT (by omega)),st252];exact a
theorem qiL (hL:∀ r,r∈L->okL ar r) {S:LA} (h:TabN (Cost L G X d) now) {SB:LI} (hSB:∀ i,i<252->SB.getD i false=decide (now.getD i 0 > 0)) 
  (hb:BestF (fun f m=>((now.getD (codeF f) 0≠0/\m=now.getD (codeF f) 0)\/(G f/\m=1))\/∃ r,r∈L/\∃ w,InstP (setB SB) r.qd v0 w/\FreeP X w r.qd/\groundF w r.qf=f/\m=costW now r w/\m<=500) v):TabN (Cost L G X (d+1)) v:=by
 have hset:∀ g,setB SB g↔okU1 g/\now.getD (codeF g) 0≠0:=fun g=>by
  unfold setB
  refine and_congr_right fun ho=>?_
  rw[hSB _ (QO ho),decide_eq_true_iff];have:=h.rng (codeF g);omega
 have hmem:∀ {r:ruRule},r∈L->∀ {w:LA},V8 w->(∀ a,a∈atomsU r->bnd w a.qa)->∀ g,g∈(posB r.qd).map (fun x=>groundF w x.qe)->okU1 g:=fun hr w hw hbw g hg=>by
  obtain⟨x,hx,rfl⟩:=List.mem_map.1 hg;have hxb:=(List.mem_filter.1 hx).1;exact (JU hw ((hL _ hr).body x hxb).1 (hbw _ (A0 _ (List.mem_map.2 ⟨x,hxb,rfl⟩)))).1
 have sound:∀ f m,okU1 f->((((now.getD (codeF f) 0≠0/\m=now.getD (codeF f) 0)\/(G f/\m=1))\/∃ r,r∈L/\∃ w,InstP (setB SB) r.qd v0 w/\FreeP X w r.qd/\groundF w r.qf=f/\m=costW now r w/\m<=500))->Cost L G X (d+1) f m.toNat:=fun f m ho hm=>by
  rcases hm with (⟨a,rfl⟩ | ⟨a,rfl⟩) | ⟨r,hr,w,w1,w2,w3,w4,w5⟩
  .exact (h.some f ho a).1.succ
  .rw[Cost];exact .inl ⟨a,rfl⟩
  obtain⟨c1,c2⟩:=(hL r hr).inst (Hq SB) w1
  have hpos:∀ g,g∈(posB r.qd).map (fun x=>groundF w x.qe)->okU1 g/\now.getD (codeF g) 0≠0:=fun g hg=>by
   refine (hset g).1 ?_;obtain⟨x,hx,rfl⟩:=List.mem_map.1 hg
   have key:∀ (body:LS) (v u:LA),InstP (setB SB) body v u->V8 v->(∀ x,x∈body->fitP x.qe.qc x.qe.qa)->Ext v u/\∀ x,x∈posB body->setB SB (groundF u x.qe):=by
    intro body
    induction body with
    | nil =>
     intro v u hi hv _;have:u=v:=hi;subst this;exact⟨Ext.refl _,fun x hx=>by simp[posB]at hx⟩
    | cons y body ih =>
     intro v u hi hv hb
     have hb':=fun z (hz:z∈body)=>hb z (A0 _ hz)
     rcases hi with ⟨hn,hi⟩ | ⟨hn,g,u1,k1,k2,k3,k4,k5⟩
     .have e:posB (y::body)=posB body:=by unfold posB;rw[A5,if_neg (by simp[hn])]
      rw[e];exact ih v u hi hv hb'
     have e:posB (y::body)=y::posB body:=by unfold posB;rw[A5,if_pos (by simp[hn])]
     have hfy:=hb y (A2 ..);obtain⟨p1,p2,p3⟩:=ZT k4 hv (jY hfy) (Vr k1.1);obtain⟨q1,q2⟩:=Nq k4 hv (jY hfy) (Vr k1.1) k3.symm;obtain⟨i1,i2⟩:=ih u1 u k5 p1 hb';refine⟨q1.trans i1,fun x hx=>?_⟩;rw[e]at hx
     rcases List.mem_cons.1 hx with rfl | hx
     .rw[i1.groundF p3]
      have:groundF u1 x.qe=g:=by
       unfold groundF mkF;rw[q2,<- k2];have hg1:=k1.1;unfold argsF;split
       .rename_i e0;cases g;simp only at e0;subst e0;rfl
       rfl
      rw[this];exact k1
     exact i2 x hx
   exact (key r.qd v0 w w1 V8_0 fun x hx=>((hL r hr).body x hx).1).2 x hx
  obtain⟨e1,e2,e3⟩:=Dv h hpos;rw[Cost];refine .inr ⟨r,hr,w,c1,c2,w3,w2,_,e1,?_⟩;rw[w4];unfold costW;omega
 have compl:∀ f n,okU1 f->Cost L G X (d+1) f n->n<=500->∃ m:Int,(((now.getD (codeF f) 0≠0/\m=now.getD (codeF f) 0)\/(G f/\m=1))\/∃ r,r∈L/\∃ w,InstP (setB SB) r.qd v0 w/\FreeP X w r.qd/\groundF w r.qf=f/\m=costW now r w/\m<=500)/\m<=n:=fun f n ho hc h5=>by
  rw[Cost]at hc
  rcases hc with ⟨a,rfl⟩ | ⟨r,hr,w,w1,w2,w3,w4,s,w5,w6⟩
  .exact⟨1,.inl (.inr ⟨a,rfl⟩),by omega⟩
  obtain⟨e1,e2⟩:=Du h (hmem hr w1 w2) w5 oM
  have hbw:∀ x,x∈r.qd->bnd w x.qe.qa:=fun x hx=>w2 _ (A0 _ (List.mem_map.2 ⟨x,hx,rfl⟩))
  obtain⟨u,u1,u2⟩:=Uk (P:=setB SB) r.qd v0 w (fun x hx=>((hL r hr).body x hx).1) V8_0 w1 (Ext.zero w) hbw fun x hx=>by
   have hgm:groundF w x.qe∈(posB r.qd).map fun x=>groundF w x.qe:=List.mem_map.2 ⟨x,hx,rfl⟩
   exact (hset _).2 ⟨hmem hr w1 w2 _ hgm,e1 _ hgm⟩
  obtain⟨c1,c2⟩:=(hL r hr).inst (Hq SB) u1
  have hge:∀ a,a∈atomsU r->groundF u a=groundF w a:=fun a ha=>(u2.groundF (c2 a ha)).symm
  have hsum:costW now r u=costW now r w:=by
   unfold costW
   congr 2
   exact B1 fun x hx=>hge _ (A0 _ (List.mem_map.2 ⟨x,(List.mem_filter.1 hx).1,rfl⟩))
  have hle:costW now r w<=n:=by unfold costW;omega
  refine⟨costW now r u,.inr ⟨r,hr,u,u1,fun x hx hn hy=>w4 x hx hn ?_,by rw[hge _ (A2 ..)];exact w3,rfl,by omega⟩,by omega⟩;rw[<- hge _ (A0 _ (List.mem_map.2 ⟨x,hx,rfl⟩))];exact hy
 refine⟨hb.1,hb.2.1,fun f ho e n hc=>?_,fun f ho e=>⟨sound f _ ho ((hb.2.2 f ho).2 e).1,fun n hc=>?_⟩⟩
 .by_cases h5:n<=500
  .obtain⟨m,m1,_⟩:=compl f n ho hc h5;exact absurd m1 ((hb.2.2 f ho).1 e m)
  omega
 have r:=hb.2.1 (codeF f);by_cases h5:n<=500
 .obtain⟨m,m1,m2⟩:=compl f n ho hc h5;have:=((hb.2.2 f ho).2 e).2 m m1;omega
 omega
def LeastV (C:Nat->rufact->Nat->Prop) (f:rufact) (r:Int×Int):Prop :=
 (r=(0,0)/\∀ n,C 40 f n->500<n)\/∃ d n:Nat,r=(((d+1:Nat):Int),(n:Int))/\d<40/\n<=500/\(∀ m,C d f m->500<m)/\C (d+1) f n/\∀ m,C (d+1) f m->n<=m
theorem LeastV.uniq {C:Nat->rufact->Nat->Prop} (hm:∀ d e f n,d<=e->C d f n->C e f n) {f:rufact} {r s:Int×Int} (h:LeastV C f r) (k:LeastV C f s):r=s:=by
 rcases h with ⟨rfl,h⟩ | ⟨d,n,rfl,h1,h2,h3,h4,h5⟩
 .rcases k with ⟨rfl,k⟩ | ⟨e,m,rfl,k1,k2,k3,k4,k5⟩
  .rfl
  have:=h m (hm _ _ _ _ oM k4);omega
 rcases k with ⟨rfl,k⟩ | ⟨e,m,rfl,k1,k2,k3,k4,k5⟩
 .have:=k n (hm _ _ _ _ oM h4);omega
 have hde:d=e:=by
  by_cases a:d<e
  .have:=k3 n (hm _ _ _ _ oM h4);omega
  by_cases b:e<d
  .have:=h3 m (hm _ _ _ _ oM k4);omega
  omega
 subst hde;have:=h5 m k4;have:=k5 n h4
 have:n=m:=by omega
 subst this;rfl
theorem qlo (hL:∀ r,r∈L->okL ar r) (h:TabN (Cost L G X d) now) (h':TabN (Cost L G X (d+1)) now):TabN (Cost L G X (d+2)) now:=by
 have low:∀ f n,n<=500->Cost L G X (d+2) f n->∃ m,m<=n/\Cost L G X (d+1) f m:=fun f n h5 hc=>by
  rw[Cost]at hc
  rcases hc with ⟨a,rfl⟩ | ⟨r,hr,w,w1,w2,w3,w4,s,w5,w6⟩
  .exact⟨1,A9 _,by rw[Cost];exact .inl ⟨a,rfl⟩⟩
  have hmem:∀ g,g∈(posB r.qd).map (fun x=>groundF w x.qe)->okU1 g:=fun g hg=>by
   obtain⟨x,hx,rfl⟩:=List.mem_map.1 hg;have hxb:=(List.mem_filter.1 hx).1;exact (JU w1 ((hL _ hr).body x hxb).1 (w2 _ (A0 _ (List.mem_map.2 ⟨x,hxb,rfl⟩)))).1
  obtain⟨e1,e2⟩:=Du h' hmem w5 oM
  obtain⟨c1,c2,c3⟩:=Dv h (gs:=(posB r.qd).map (fun x=>groundF w x.qe)) fun g hg=>⟨hmem g hg,e1 g hg⟩
  refine⟨1+(sumT now ((posB r.qd).map fun x=>groundF w x.qe)).toNat,by omega,?_⟩;rw[Cost];exact .inr ⟨r,hr,w,w1,w2,w3,w4,_,c1,rfl⟩
 refine⟨h'.len,h'.rng,fun f ho e n hc=>?_,fun f ho e=>⟨(h'.some f ho e).1.succ,fun n hc=>?_⟩⟩
 .by_cases h5:n<=500
  .obtain⟨m,m1,m2⟩:=low f n h5 hc;have:=h'.none f ho e m m2;omega
  omega
 have r:=h'.rng (codeF f);by_cases h5:n<=500
 .obtain⟨m,m1,m2⟩:=low f n h5 hc;have:=(h'.some f ho e).2 m m2;omega
 omega
theorem qfC {ar:Int->Nat} {L:LJ} {G X:rufact->Prop} (hL:∀ r,r∈L->okL ar r) {d:Nat} {now:LA} (h:TabN (Cost L G X d) now) (h':TabN (Cost L G X (d+1)) now):∀ k,TabN (Cost L G X (d+k)) now/\TabN (Cost L G X (d+k+1)) now
 | 0=>⟨h,h'⟩
 | k+1=>by
  obtain⟨a,b⟩:=qfC hL h h' k;exact⟨b,qlo hL a b⟩
theorem qgk {ar:Int->Nat} {fuel:Nat} (hf:5<=fuel) {l:LN} (hl:l.length<=12) (hL:∀ r,r∈l->okL ar (toR r)) {facts:LG} (hfl:facts.length<=100) (hg:∀ f,f∈facts->groundP f) {N:LI} (hN:N.length=252) {f:apiFact} (hf1:groundP f):∀ (k m d:Nat) (now:LA),k+d=40->k+1<=m->TabN (Cost (l.map toR) (fun g=>g∈facts.map toF) (setB N) d) now->(∀ n,Cost (l.map toR) (fun g=>g∈facts.map toF) (setB N) d (toF f) n->500<n) ->
  ∃ r,qJ fuel l facts N f qR m now ((d+1:Nat):Int)=some r/\LeastV (Cost (l.map toR) (fun g=>g∈facts.map toF) (setB N)) (toF f) r
 | 0,m+1,d,now,hk,hm,ht,hno=>by
  refine⟨(0,0),?_,.inl ⟨rfl,?_⟩⟩
  .rw[qJ,dF (by omega),cN];rfl
  have:d=40:=by omega
  subst this;exact hno
 | k+1,m+1,d,now,hk,hm,ht,hno=>by
  have hok:=(XY hf1).1;have hc:=QO hok
  have hL':∀ r,r∈l.map toR->okL ar r:=fun r hr=>by
   obtain⟨q,hq,rfl⟩:=List.mem_map.1 hr;exact hL q hq
  obtain⟨SB,s1,s2,s3⟩:=qgj ht.len (XR fuel l facts N f now ((d+1:Nat):Int) (qJ fuel l facts N f qR m)) (List.range (D2 252)) 0 (A6 252 false) (by simp) (by simp) fun i hi=>by omega
  obtain⟨v1,a1,a2⟩:=qgi (XQ fuel l N f now ((d+1:Nat):Int) SB (qJ fuel l facts N f qR m)) facts 0 now _ hg ht.best;obtain⟨v2,b1,b2⟩:=qgh hf hN s2 ht.len ht.rng (jD f now ((d+1:Nat):Int) (qJ fuel l facts N f qR m)) l 0 v1 _ hL a2;have ht2:TabN (Cost (l.map toR) (fun g=>g∈facts.map toF) (setB N) (d+1)) v2:=qiL (S:=[]) hL' ht s3 b2
  have hopen:qJ fuel l facts N f qR (m+1) now ((d+1:Nat):Int)=jD f now ((d+1:Nat):Int) (qJ fuel l facts N f qR m) v2:=by
   rw[qJ,dT (by omega),cT,Nw (dT ht.len),Nw (dT ⟨ht.len,by simp⟩),Nw (qM (by simp)),s1];unfold XR;rw[Nw (qM (by omega)),a1];unfold XQ;rw[Nw (qM (by omega)),b1]
  rw[hopen];unfold jD;rw[Up hf1];simp only[A1];rw[Nw (ix252 hc),gt252 ht2.len hc];simp only[A1];have hr2:=ht2.rng (codeF (toF f));by_cases hp:v2.getD (codeF (toF f)) 0 > 0
  .rw[dT hp,cT];obtain⟨c1,c2⟩:=ht2.some _ hok oM;refine⟨_,rfl,.inr ⟨d,(v2.getD (codeF (toF f)) 0).toNat,?_,by omega,by omega,hno,c1,c2⟩⟩;rw[Int.toNat_of_nonneg hr2.1]
  rw[dF hp,cN,Nw (dT ht2.len),Nw (dT ht.len),Nw (dT ⟨ht2.len,ht.len⟩)];have hno2:=ht2.none _ hok oM;by_cases he:v2=now
  .rw[he,beq_self_eq_true,cT];refine⟨(0,0),rfl,.inl ⟨rfl,?_⟩⟩;have:=(qfC hL' ht (he ▸ ht2) (40 - d)).1;rw[show d+(40 - d)=40 by omega]at this;refine this.none _ hok ?_;rw[<- he];omega
  rw[show (v2 == now)=false from beq_eq_false_iff_ne.2 he,cN,Nw (dT ht2.len),Nw (dT ⟨ht2.len,ht.len⟩),wrap64 (by omega) (by omega),show ((d+1:Nat):Int)+1=((d+1+1:Nat):Int) by omega];exact qgk hf hl hL hfl hg hN hf1 k m (d+1) v2 oM oM ht2 hno2
theorem qcq {fuel:Nat} (hf:100<=fuel) (hl:l.length<=12) (hL:∀ r,r∈l->okL ar (toR r)) (hfl:facts.length<=100) (hg:∀ f,f∈facts->groundP f) {N:LI} (hN:N.length=252) {f:apiFact} (hf1:groundP f) :
  ∃ r,XS fuel l facts N f=some r/\LeastV (Cost (l.map toR) (fun g=>g∈facts.map toF) (setB N)) (toF f) r:=by
 unfold XS;rw[Nw (by cases N <;> simp_all)]
 exact qgk oM hl hL hfl hg hN hf1 40 fuel 0 (A6 252 0) rfl oM TabN.zero fun n h=>h.elim
theorem qed {C:rufact->Nat->Prop}:∀ {l:Le},(∀ p,p∈l->C (toF p.qi) (nT p))->CostsL C (l.map fun p=>toF p.qi) (nTs l)
 | [],_=>by rw[nTs];rfl
 | p::l,h=>by
  rw[nTs];exact⟨nT p,nTs l,h p (A2 ..),qed fun q hq=>h q (A0 _ hq),rfl⟩
theorem qdI {L:LJ} {G X:rufact->Prop}:∀ (n:Nat) (p:ruProof),HoldsN L G X n p->Cost L G X (hT p) (toF p.qi) (nT p)
 | n+1,p,h=>by
  rw[HoldsN]at h;obtain⟨hg,h⟩:=h;have h1:=qcF p;have h2:=qkt p;rw[show hT p=hTs p.ql+1 by omega,Cost]
  rcases h with ⟨a,b,c⟩ | ⟨a,r,b,c,w,w1,w2,w3,w4,w5⟩
  .left;refine⟨c,?_⟩;rw[h2,b,nTs]
  right;refine⟨r,D8 b,w,w1,w2,w3,w5,nTs p.ql,?_,h2⟩;rw[w4,D7]
  exact qed fun s hs=>(qdI n s (c s hs)).le (HV hs)
theorem qiK (h:HoldsN L G X n p) {k:Nat} (hk:k<=500) (hn:nT p=k) (hd:hT p<=d+1) (hl:∀ m,Cost L G X d (toF p.qi) m->500<m):hT p=d+1:=by
 by_cases c:hT p<=d
 .have:=hl _ ((qdI n p h).le c);omega
 omega
theorem HoldsN.succ {L:LJ} {G X:rufact->Prop}:∀ {n:Nat} {p:ruProof},HoldsN L G X n p->HoldsN L G X (n+1) p
 | 0,p,h=>h.elim
 | n+1,p,h=>by
  rw[HoldsN]at h ⊢;obtain⟨a,b | ⟨b,r,c,d,e⟩⟩:=h
  .exact⟨a,.inl b⟩
  exact⟨a,.inr ⟨b,r,c,fun s hs=>(d s hs).succ,e⟩⟩
theorem HoldsN.le {m:Nat} (h:n<=m) (k:HoldsN L G X n p):HoldsN L G X m p:=by
 induction h with
 | refl=>exact k
 | step _ ih=>exact ih.succ
theorem qiX {fuel:Nat} (hf:400<=fuel) (hv:VR l facts) (har:arW (arVR l facts) (setB S)) (hS:S.length=252) (ho:okT p) (h:HoldsN (l.map toR) (fun g=>g∈facts.map toF) (setB S) 50 p) (hn:nT p<=500) (hd:hT p<=40) :
  Zg fuel l facts S (ownT p)=some true:=by
 obtain⟨gv,S0,g1,g2,g3⟩:=DJ (by have:=hv.2.1;omega:facts.length<=100) hv.2.2.1 hv.facts_ar
 have hG:∀ g,setB S0 g↔g∈facts.map toF:=fun g=>by
  obtain⟨a1,a2,a3,a4⟩:=NT.empty.add (fr:=facts.map toF)
  have:YE facts=some (addF [] (facts.map toF)):=by
   unfold YE;rw[Nw (qM (by have:=hv.2.1;omega)),HX _ facts 0 [] hv.2.2.1 NT.empty (by have:=hv.2.1;simp;omega)];rfl
  rw[g1]at this;cases this;rw[<- g3.same];show g∈_↔_;rw[a2];simp
 unfold Zg Yv;rw[Nw (by cases S <;> simp_all),qce fuel p (by omega) ho];simp only[A1];rw[if_pos hn,dT (by omega),cT,show (40:Int)=((40:Nat):Int) from rfl,qbg fuel p 40 (by omega) ho (by omega)];simp only[A1];rw[if_pos hd,dT (by omega),cT,g2];simp only[A1];rw[Nw (dT hS),qfF hv.okL g3.len hS 50 fuel p (by omega) (by omega) ho];simp only[A1];rw[dT (by rw[show setB S0=fun g=>g∈facts.map toF from funext fun g=>propext (hG g)];exact h)]
structure WayP where
 nodes:Nat
 rule:Int
 sub:LH
abbrev LevP:=rufact->Option WayP
def SumN (K:LevP):LH->Nat->Prop
 | [],s=>s=0
 | g::gs,s=>∃ w t,K g=some w/\SumN K gs t/\s=w.nodes+t
def WayOk (L:LJ) (G X:rufact->Prop) (K:LevP) (f:rufact) (w:WayP):Prop :=
 (w.rule = -1/\w.sub=[]/\G f/\w.nodes=1)\/(0<=w.rule/\∃ r,L[w.rule.toNat]? = some r/\∃ v,V8 v/\(∀ a,a∈atomsU r->bnd v a.qa)/\groundF v r.qf=f/\FreeP X v r.qd/\w.sub=((posB r.qd).map fun x=>groundF v x.qe)/\∃ s,SumN K w.sub s/\w.nodes=min (1+s) 1000)
def BetterP (L:LJ) (G X:rufact->Prop) (K K':LevP):Prop :=
 (∀ f w,K' f=some w->WayOk L G X K f w)/\∀ f w,WayOk L G X K f w->∃ w',K' f=some w'/\w'.nodes<=w.nodes
def TabP (C:rufact->Nat->Prop) (K:LevP):Prop:=∀ f,(∀ n,C f n->∃ w,K f=some w/\w.nodes<=n)/\∀ w,K f=some w->∃ n,C f n/\w.nodes=min n 1000
theorem TabP.zero:TabP (Cost L G X 0) (fun _=>none):=fun f=>⟨fun n h=>h.elim,fun w h=>by cases h⟩
theorem qic {C:rufact->Nat->Prop} {K:LevP} (h:TabP C K):∀ {gs:LH} {s:Nat},CostsL C gs s->∃ t,SumN K gs t/\t<=s
 | [],s,hs=>⟨0,rfl,Nat.zero_le _⟩
 | g::gs,s,⟨m,t,a,b,c⟩=>by
  obtain⟨w,w1,w2⟩:=(h g).1 m a;obtain⟨u,u1,u2⟩:=qic h b;exact⟨w.nodes+u,⟨w,u,w1,u1,rfl⟩,by omega⟩
theorem qib {C:rufact->Nat->Prop} {K:LevP} (h:TabP C K):∀ {gs:LH} {s:Nat},SumN K gs s->∃ t,CostsL C gs t/\min s 1000=min t 1000
 | [],s,hs=>⟨0,rfl,by rw[SumN]at hs;omega⟩
 | g::gs,s,⟨w,t,a,b,c⟩=>by
  obtain⟨n,n1,n2⟩:=(h g).2 w a;obtain⟨u,u1,u2⟩:=qib h b;exact⟨n+u,⟨n,u,n1,u1,rfl⟩,by omega⟩
theorem BetterP.tab {K K':LevP} (h:TabP (Cost L G X d) K) (hb:BetterP L G X K K'):TabP (Cost L G X (d+1)) K':=fun f=>by
 refine⟨fun n hc=>?_,fun w hw=>?_⟩
 .rw[Cost]at hc
  rcases hc with ⟨a,rfl⟩ | ⟨r,hr,v,v1,v2,v3,v4,s,v5,v6⟩
  .exact hb.2 f ⟨1,-1,[]⟩ (.inl ⟨rfl,rfl,a,rfl⟩)
  obtain⟨i,hi⟩:=List.mem_iff_getElem?.1 hr;obtain⟨t,t1,t2⟩:=qic h v5;obtain⟨w',a,b⟩:=hb.2 f ⟨min (1+t) 1000,(i:Int),(posB r.qd).map fun x=>groundF v x.qe⟩ (.inr ⟨by simp,r,by simpa using hi,v,v1,v2,v3,v4,rfl,t,t1,rfl⟩);refine⟨w',a,?_⟩;simp only at b;omega
 rcases hb.1 f w hw with ⟨a,b,c,e⟩ | ⟨a,r,b,v,v1,v2,v3,v4,v5,s,v6,v7⟩
 .exact⟨1,by rw[Cost];exact .inl ⟨c,rfl⟩,by rw[e];rfl⟩
 obtain⟨t,t1,t2⟩:=qib h v6;refine⟨1+t,?_,by omega⟩;rw[Cost];exact .inr ⟨r,D8 b,v,v1,v2,v3,v4,t,by rw[<- v5];exact t1,rfl⟩
def LevsP (L:LJ) (G X:rufact->Prop) (K:Nat->LevP) (n:Nat):Prop:=(K 0=fun _=>none)/\∀ d,d<n->BetterP L G X (K d) (K (d+1))
theorem LevsP.tab {L:LJ} {G X:rufact->Prop} {K:Nat->LevP} {n:Nat} (h:LevsP L G X K n):∀ d,d<=n->TabP (Cost L G X d) (K d)
 | 0,_=>by rw[h.1];exact TabP.zero
 | d+1,hd=>(h.2 d oM).tab (h.tab d oM)
def TreesP (T:rufact->ruProof->Prop):LH->Le->Prop
 | [],l=>l=[]
 | g::gs,l=>∃ p r,l=p::r/\T g p/\TreesP T gs r
def TreeP (K:Nat->LevP):Nat->rufact->ruProof->Prop
 | 0,_,_=>False
 | d+1,f,p=>∃ w,K (d+1) f=some w/\p.qp=w.rule/\p.qi=apiF f/\TreesP (TreeP K d) w.sub p.ql
theorem qfA {T:rufact->ruProof->Prop} {K:LevP} {H:ruProof->Prop} {d:Nat} (hT':∀ g p,okU1 g->T g p->H p/\okT p/\hT p<=d/\p.qi=apiF g/\∃ w,K g=some w/\(w.nodes<=500->nT p=w.nodes)):∀ {gs:LH} {l:Le},(∀ g,g∈gs->okU1 g)->TreesP T gs l ->
  (∀ p,p∈l->H p)/\okTs l/\hTs l<=d/\l.map ruProof.qi=gs.map apiF/\l.length=gs.length/\∀ s,SumN K gs s->s<=500->nTs l=s
 | [],l,_,h=>by
  have:l=[]:=h;subst this;exact⟨fun p hp=>by simp at hp,by rw[okTs];trivial,by rw[hTs];omega,rfl,rfl,fun s hs _=>by rw[nTs];exact hs.symm⟩
 | g::gs,l,ho,⟨p,r,e,a,b⟩=>by
  subst e;obtain⟨c1,c2,c3,c4,w,c5,c6⟩:=hT' g p (ho g (A2 ..)) a;obtain⟨i1,i2,i3,i4,i5,i6⟩:=qfA hT' (fun x hx=>ho x (A0 _ hx)) b;refine⟨fun q hq=>?_,by rw[okTs];exact⟨c2,i2⟩,by rw[hTs];omega,by rw[A3,A3,c4,i4],by rw[A8,A8,i5],fun s hs h5=>?_⟩
  .rcases List.mem_cons.1 hq with rfl | hq
   .exact c1
   exact i1 q hq
  obtain⟨w',t,k1,k2,k3⟩:=hs;rw[c5]at k1;cases k1;rw[nTs,c6 (by omega),i6 t k2 (by omega),k3]
theorem qeK {ar:Int->Nat} {L:LJ} (hL:∀ r,r∈L->okL ar r) {G X:rufact->Prop} {K:Nat->LevP} {n:Nat} (h:LevsP L G X K n):∀ (d:Nat) (f:rufact) (p:ruProof),d<=n->okU1 f->TreeP K d f p->HoldsN L G X d p/\okT p/\hT p<=d/\p.qi=apiF f/\∃ w,K d f=some w/\(w.nodes<=500->nT p=w.nodes)
 | 0,f,p,_,_,ht=>ht.elim
 | d+1,f,p,hd,ho,⟨w,w1,w2,w3,w4⟩=>by
  obtain⟨g1,g2⟩:=qbF ho;have hh:=qcF p;have hn:=qkt p
  have harg:p.qi.qa.length<=5:=by rw[w3];have:=g1.2.1.2;omega
  have sub:∀ gs,(∀ g,g∈gs->okU1 g)->TreesP (TreeP K d) gs p.ql->_:=fun gs hg ht=>qfA (H:=HoldsN L G X d) (K:=K d) (d:=d) (fun g q hg hq=>qeK hL h d g q oM hg hq) hg ht
  rcases (h.2 d oM).1 f w w1 with ⟨a,b,c,e⟩ | ⟨a,r,b,v,v1,v2,v3,v4,v5,s,v6,v7⟩
  .rw[b]at w4;have hs:p.ql=[]:=w4;refine⟨?_,(qaX p).2 ⟨harg,by rw[hs];simp,by rw[hs,okTs];trivial⟩,by rw[hh,hs,hTs];omega,w3,w,w1,fun _=>by rw[hn,hs,nTs,e]⟩;rw[HoldsN,w3];exact⟨g1,.inl ⟨w2.trans a,hs,by rw[g2];exact c⟩⟩
  have hr:=D8 b
  have hgs:∀ g,g∈w.sub->okU1 g:=fun g hg=>by
   rw[v5]at hg;obtain⟨x,hx,rfl⟩:=List.mem_map.1 hg;have hxb:=(List.mem_filter.1 hx).1;exact (JU v1 ((hL _ hr).body x hxb).1 (v2 _ (A0 _ (List.mem_map.2 ⟨x,hxb,rfl⟩)))).1
  obtain⟨i1,i2,i3,i4,i5,i6⟩:=sub w.sub hgs w4;have hbl:(posB r.qd).length<=3:=E0 (F8 ..) (hL r hr).1.1
  have hlen:p.ql.length<=6:=by rw[i5,v5,A4];omega
  refine⟨?_,(qaX p).2 ⟨harg,hlen,i2⟩,by omega,w3,w,w1,fun h5=>?_⟩
  .rw[HoldsN,w3];refine⟨g1,.inr ⟨by rw[w2];exact a,r,by rw[w2];exact b,i1,v,v1,v2,by rw[v3,g2],?_,v4⟩⟩;rw[i4,D7,<- v5]
   conv=>lhs;rw[<- List.map_id w.sub]
   exact B1 fun g hg=>((qbF (hgs g hg)).2).symm
  have hs:=i6 s v6 oM;omega
theorem LevsP.found {K:Nat->LevP} (h:LevsP L G X K (d+1)) {f:rufact} {w:WayP} (hw:K (d+1) f=some w) (h5:w.nodes<=500) (hd:d<40) (hno:∀ e,e<=d->∀ w',K e f=some w'->500<w'.nodes):LeastV (Cost L G X) f (((d+1:Nat):Int),(w.nodes:Int)):=by
 have hlow:∀ m,Cost L G X d f m->500<m:=fun m hm=>by
  obtain⟨w',a,b⟩:=(h.tab d oM f).1 m hm;have:=hno d (A9 _) w' a;omega
 obtain⟨n,n1,n2⟩:=(h.tab (d+1) (A9 _) f).2 w hw
 have hn:n=w.nodes:=by omega
 subst hn;refine .inr ⟨d,_,rfl,hd,by omega,hlow,n1,fun m hm=>?_⟩;obtain⟨w',a,b⟩:=(h.tab (d+1) (A9 _) f).1 m hm;rw[hw]at a;cases a;omega
theorem LevsP.none {K:Nat->LevP} (h:LevsP L G X K 40) {f:rufact} (hno:∀ w',K 40 f=some w'->500<w'.nodes):LeastV (Cost L G X) f (0,0):=by
 refine .inl ⟨rfl,fun n hn=>?_⟩;obtain⟨w',a,b⟩:=(h.tab 40 (A9 _) f).1 n hn;have:=hno w' a;omega
theorem qhs {fuel:Nat} (hf:400<=fuel) (hv:VR l facts) (har:arW (arVR l facts) (setB S)) (hS:S.length=252) {f:apiFact} (hg:groundP f) {K:Nat->LevP} (hd:d<40)
  (h:LevsP (l.map toR) (fun g=>g∈facts.map toF) (setB S) K (d+1)) {w:WayP} (hw:K (d+1) (toF f)=some w) (h5:w.nodes<=500) (hno:∀ e,e<=d->∀ w',K e (toF f)=some w'->500<w'.nodes) {p:ruProof} (ht:TreeP K (d+1) (toF f) p) :
  XS fuel l facts S f=some (((d+1:Nat):Int),(w.nodes:Int))/\okT p/\hT p=d+1/\p.qi=f/\Ju fuel p=some (ownT p)/\Zg fuel l facts S (ownT p)=some true/\QR fuel (ownT p) 40=some ((d+1:Nat):Int)/\XG fuel (ownT p)=some (w.nodes:Int):=by
 have hL:∀ r,r∈l.map toR->okL (arVR l facts) r:=fun r hr=>by
  obtain⟨q,hq,rfl⟩:=List.mem_map.1 hr;exact hv.okL q hq
 have hok:=(XY hg).1;have hlv:=h.found hw h5 hd hno;obtain⟨r,r1,r2⟩:=qcq (by omega:100<=fuel) (by have:=hv.1;omega) hv.okL (by have:=hv.2.1;omega:facts.length<=100) hv.2.2.1 hS hg;have hre:=hlv.uniq (fun d e f n hle hc=>hc.le hle) r2;obtain⟨t1,t2,t3,t4,w',t5,t6⟩:=qeK hL h (d+1) (toF f) p (A9 _) hok ht;rw[hw]at t5;cases t5;have hn:=t6 h5
 have hfact:p.qi=f:=by rw[t4];exact qlb hg
 have hlow:∀ m,Cost (l.map toR) (fun g=>g∈facts.map toF) (setB S) d (toF p.qi) m->500<m:=fun m hm=>by
  rw[hfact]at hm;obtain⟨w',a,b⟩:=(h.tab d oM (toF f)).1 m hm;have:=hno d (A9 _) w' a;omega
 have hT1:=qiK t1 h5 hn t3 hlow;refine⟨by rw[r1,<- hre],t2,hT1,hfact,qip fuel p oM t2,qiX hf hv har hS t2 (t1.le oM) oM oM,?_,?_⟩
 .have:=qbg fuel p 40 oM t2 oM;rw[if_pos (by omega),hT1]at this;exact this
 rw[qce fuel p (by omega) t2,if_pos (by omega),hn]
theorem qfX {fuel:Nat} (hf:400<=fuel) (hv:VR l facts) (hS:S.length=252) {f:apiFact} (hg:groundP f) {K:Nat->LevP} (h:LevsP (l.map toR) (fun g=>g∈facts.map toF) (setB S) K 40) (hno:∀ w',K 40 (toF f)=some w'->500<w'.nodes):XS fuel l facts S f=some (0,0):=by
 obtain⟨r,r1,r2⟩:=qcq (by omega:100<=fuel) (by have:=hv.1;omega) hv.okL (by have:=hv.2.1;omega:facts.length<=100) hv.2.2.1 hS hg;rw[r1,<- (h.none hno).uniq (fun d e f n hle hc=>hc.le hle) r2]
end Go.AM
namespace Go.AM
open Go.Proofs
structure rucost where
 jh:Int
 qr:Int
def l127 (c:LP) (l:LH):AV:=.lst 127 3 c (List.map qj l)
structure ruway where
 qn:rucost
 jp:Int
 ja:LH
def qQ (x:ruway):AV:=.agg [.int .i64 x.qn.jh,.int .i64 x.qn.qr,.int .i64 x.jp,l127 none x.ja]
def l146 (c:LP) (l:List (List (rufact×ruway))):AV:=.lst 146 1 c (List.map (mpE qj qQ) l)
def Yd (v20:ruProof):Option ruProof :=
 (some v20)
def Xi (a1:(List (List (rufact×ruway)))) (a2:Int) (K0:((List (List (rufact×ruway)))->Int->rufact->Option ruProof)) (K10:(ruProof->Option ruProof)):LH->Nat->Int->Int->LA->Le->Option ruProof
 | [],k1,v12,v13,v14,v15=>(K10 (ruProof.mk v12 (apiFact.mk v13 v14) v15))
 | x1::r1,k1,v12,v13,v14,v15=>((K0 a1 (IntKind.wrap .i64 (a2 - 1)) x1).bind fun w18=>(chk (capOk 64 ((v15++[w18])).length) ((Xi a1 a2 K0 K10 r1 (k1+1)) v12 v13 v14 (v15++[w18]))))
def Zr:Nat->(List (List (rufact×ruway)))->Int->rufact->Option ruProof
 | 0,_,_,_=>none
 | fuel+1,a1,a2,a3=>((idx a1 a2).bind fun e6=>(chk (wfI .i64 a3.qm && wfI .i64 a3.f_a && wfI .i64 a3.f_b) ((Vh a3).bind fun w9=>(chk (lenOk ((mget qh (ruway.mk (rucost.mk 0 0) 0 ([]:LH)) a3 e6).ja)) (Xi a1 a2 (Zr fuel) (Yd) ((mget qh (ruway.mk (rucost.mk 0 0) 0 ([]:LH)) a3 e6).ja) 0 ((mget qh (ruway.mk (rucost.mk 0 0) 0 ([]:LH)) a3 e6).jp) w9.qc w9.qa ([]:Le))))))
theorem qfL:∀ (fuel:Nat) (a1:(List (List (rufact×ruway)))) (a2:Int) (a3:rufact) (r:ruProof) (h:Zr fuel a1 a2 a3=some r),Run Try.prog (.call 94 [l146 none a1,I6 a2,.agg [I6 a3.qm,I6 a3.f_a,I6 a3.f_b]] (.agg [I6 r.qp,I6 r.qi.qc,l3 none r.qi.qa,l77 none r.ql])):=by
 intro fuel
 induction fuel with
 | zero=>intro a1 a2 a3 r h;cases h
 | succ fuel ih =>
  intro a1 a2 a3 r h;refine cW Try.func94 rfl (env0:=[(0,l146 none a1),(1,I6 a2),(2,.agg [I6 a3.qm,I6 a3.f_a,I6 a3.f_b])]) ?_;rw[Zr.eq_2]at h;refine W.seq ?_;let z0:=fun t=>EN ((0,l146 none a1)::(1,I6 a2)::(5,.ptr (.agg [I6 a3.qm,I6 a3.f_a,I6 a3.f_b]))::(6,.box [.int .i64 0,.int .i64 0,.nils,.nils])::t);refine W.rT [0,1,5,6] [5] (e2:=z0 []) ?_;refine W.seq ?_;obtain⟨e6,he6,h⟩:=qb h;obtain⟨hc7,h⟩:=qg h;refine W.regionA (e1:=z0 [(7,.box [I6 (((mget qh (ruway.mk (rucost.mk 0 0) 0 ([]:LH)) a3 e6).qn).jh),I6 (((mget qh (ruway.mk (rucost.mk 0 0) 0 ([]:LH)) a3 e6).qn).qr),I6 ((mget qh (ruway.mk (rucost.mk 0 0) 0 ([]:LH)) a3 e6).jp),l127 none ((mget qh (ruway.mk (rucost.mk 0 0) 0 ([]:LH)) a3 e6).ja)]),(11,l146 none a1),(12,I6 a2),(13,.ptr (mpE qj qQ e6)),(14,mpE qj qQ e6),(15,.agg [I6 a3.qm,I6 a3.f_a,I6 a3.f_b]),(16,.agg [I6 (((mget qh (ruway.mk (rucost.mk 0 0) 0 ([]:LH)) a3 e6).qn).jh),I6 (((mget qh (ruway.mk (rucost.mk 0 0) 0 ([]:LH)) a3 e6).qn).qr),I6 ((mget qh (ruway.mk (rucost.mk 0 0) 0 ([]:LH)) a3 e6).jp),l127 none ((mget qh (ruway.mk (rucost.mk 0 0) 0 ([]:LH)) a3 e6).ja)])]) kR ?_ ?_
  .exact Run.anyG (.cons (gpure 2 (if (0:Int)<=a2 then ((List.map (mpE qj qQ) a1)[D2 a2]?).map AV.ptr else none) (v:=.ptr (mpE qj qQ e6)) (Xu (f:=(mpE qj qQ)) he6)) (.cons (gpure 5 ((alookup Try.prog 146 [] (mpE qj qQ e6) (.agg [I6 a3.qm,I6 a3.f_a,I6 a3.f_b])).map AV.strip) (v:=.agg [I6 (((mget qh (ruway.mk (rucost.mk 0 0) 0 ([]:LH)) a3 e6).qn).jh),I6 (((mget qh (ruway.mk (rucost.mk 0 0) 0 ([]:LH)) a3 e6).qn).qr),I6 ((mget qh (ruway.mk (rucost.mk 0 0) 0 ([]:LH)) a3 e6).jp),l127 none ((mget qh (ruway.mk (rucost.mk 0 0) 0 ([]:LH)) a3 e6).ja)]) (congrArg (Option.map AV.strip) (Uq (F:=qj) (G:=qQ) (eq:=qh) (l:=e6) (k:=a3) (z:=(ruway.mk (rucost.mk 0 0) 0 ([]:LH))) (kt:=127) (e:=152) (qcB hc7) kR (fun x=>by kernel_rfl) (fun x y=>by kernel_rfl) kR))) .nil))
  let z1:=fun t=>z0 ((7,.ptr (.agg [I6 (((mget qh (ruway.mk (rucost.mk 0 0) 0 ([]:LH)) a3 e6).qn).jh),I6 (((mget qh (ruway.mk (rucost.mk 0 0) 0 ([]:LH)) a3 e6).qn).qr),I6 ((mget qh (ruway.mk (rucost.mk 0 0) 0 ([]:LH)) a3 e6).jp),l127 none ((mget qh (ruway.mk (rucost.mk 0 0) 0 ([]:LH)) a3 e6).ja)]))::t);refine WO.fi [0,1,5,6,7] [7] (e2:=z1 []) ?_;refine W.seq ?_;obtain⟨w9,hw9,h⟩:=qb h;refine W.regionA (e1:=z1 [(8,.box [I6 ((mget qh (ruway.mk (rucost.mk 0 0) 0 ([]:LH)) a3 e6).jp),I6 w9.qc,l3 none w9.qa,.nils]),(17,.ptr (I6 ((mget qh (ruway.mk (rucost.mk 0 0) 0 ([]:LH)) a3 e6).jp))),(18,I6 ((mget qh (ruway.mk (rucost.mk 0 0) 0 ([]:LH)) a3 e6).jp)),(19,.agg [I6 a3.qm,I6 a3.f_a,I6 a3.f_b]),(20,.agg [I6 w9.qc,l3 none w9.qa]),(21,.agg [I6 ((mget qh (ruway.mk (rucost.mk 0 0) 0 ([]:LH)) a3 e6).jp),I6 w9.qc,l3 none w9.qa,.nils])]) kR ?_ ?_
  .exact Run.anyG (.cons (gcall 3 (F:=108) (l:=[.agg [I6 a3.qm,I6 a3.f_a,I6 a3.f_b]]) (C:=[]) (r:=.agg [I6 w9.qc,l3 none w9.qa]) (NB a3 w9 hw9)) .nil)
  let z2:=fun t=>EN ((0,l146 none a1)::(1,I6 a2)::(6,.box [.int .i64 0,.int .i64 0,.nils,.nils])::t);refine WO.fn (e2:=z2 [(7,.ptr (.agg [I6 (((mget qh (ruway.mk (rucost.mk 0 0) 0 ([]:LH)) a3 e6).qn).jh),I6 (((mget qh (ruway.mk (rucost.mk 0 0) 0 ([]:LH)) a3 e6).qn).qr),I6 ((mget qh (ruway.mk (rucost.mk 0 0) 0 ([]:LH)) a3 e6).jp),l127 none ((mget qh (ruway.mk (rucost.mk 0 0) 0 ([]:LH)) a3 e6).ja)])),(8,.box [I6 ((mget qh (ruway.mk (rucost.mk 0 0) 0 ([]:LH)) a3 e6).jp),I6 w9.qc,l3 none w9.qa,.nils])]) ?_;refine W.seq ?_;let z3:=fun t=>EN ((6,.box [.int .i64 0,.int .i64 0,.nils,.nils])::t);refine W.join (σ:=(ruProof)) (fun s=>z3 [(8,.ptr (.agg [I6 s.qp,I6 s.qi.qc,l3 none s.qi.qa,l77 none s.ql]))]) (fun s=>(Yd) s=some r) (fun v20 h=>?_) (fun hK10=>?_)
  .unfold Yd at h;refine W.seq ?_;let z4:=fun t=>EN ((6,.box [I6 v20.qp,I6 v20.qi.qc,l3 none v20.qi.qa,l77 none v20.ql])::t);refine W.rt (e2:=z4 []) ?_;refine W.wk (e:=z4 []) ?_;cases h;exact W.rr
  refine W.sr<|WO.pq 2 (jM qj ((mget qh (ruway.mk (rucost.mk 0 0) 0 ([]:LH)) a3 e6).ja))<|WO.fn (e2:=z2 [(8,.box [I6 ((mget qh (ruway.mk (rucost.mk 0 0) 0 ([]:LH)) a3 e6).jp),I6 w9.qc,l3 none w9.qa,.nils]),(23,l127 none ((mget qh (ruway.mk (rucost.mk 0 0) 0 ([]:LH)) a3 e6).ja)),(24,I6 (((mget qh (ruway.mk (rucost.mk 0 0) 0 ([]:LH)) a3 e6).ja).length:Int)),(25,.int .i64 0)]) ?_;refine W.block ?_;obtain⟨hl1,h⟩:=qg h;refine W.weak [0,1,6,8,23,24,25] [] [(8,3,77,4,10803)] [] (env':=z2 [(8,.box [I6 ((mget qh (ruway.mk (rucost.mk 0 0) 0 ([]:LH)) a3 e6).jp),I6 w9.qc,l3 none w9.qa,l77 (some 10803) ([]:Le)]),(23,l127 none ((mget qh (ruway.mk (rucost.mk 0 0) 0 ([]:LH)) a3 e6).ja)),(24,I6 (((mget qh (ruway.mk (rucost.mk 0 0) 0 ([]:LH)) a3 e6).ja).length:Int)),(25,I6 ((0:Nat):Int))]) kR<|W.range (σ:=(Int×Int×LA×Le)) ((mget qh (ruway.mk (rucost.mk 0 0) 0 ([]:LH)) a3 e6).ja) (fun k1 s=>z2 [(8,.box [I6 s.1,I6 s.2.1,l3 none s.2.2.1,l77 (some 10803) s.2.2.2]),(23,l127 none ((mget qh (ruway.mk (rucost.mk 0 0) 0 ([]:LH)) a3 e6).ja)),(24,I6 (((mget qh (ruway.mk (rucost.mk 0 0) 0 ([]:LH)) a3 e6).ja).length:Int)),(25,I6 (k1:Int))]) (fun r0 k0 s=>Xi a1 a2 (Zr fuel) (Yd) r0 k0 s.1 s.2.1 s.2.2.1 s.2.2.2=some r) (fun s h=>?_) (fun x1 r1 k1 s hx1 hk1 h hN1=>?_) ((mget qh (ruway.mk (rucost.mk 0 0) 0 ([]:LH)) a3 e6).jp,w9.qc,w9.qa,([]:Le)) h
  .obtain⟨v12,v13,v14,v15⟩:=s;have h:Xi a1 a2 (Zr fuel) (Yd) [] ((mget qh (ruway.mk (rucost.mk 0 0) 0 ([]:LH)) a3 e6).ja).length v12 v13 v14 v15=some r:=h;rw[Xi.eq_1]at h;refine W.sr<|WO.pk 0 (some (.bool (decide ((((mget qh (ruway.mk (rucost.mk 0 0) 0 ([]:LH)) a3 e6).ja).length:Int)<(((mget qh (ruway.mk (rucost.mk 0 0) 0 ([]:LH)) a3 e6).ja).length:Int))))) (v:=.bool false) (by rw[qL (l:=(mget qh (ruway.mk (rucost.mk 0 0) 0 ([]:LH)) a3 e6).ja)]) ?_;refine WO.fn (e2:=z2 [(8,.box [I6 v12,I6 v13,l3 none v14,l77 (some 10803) v15]),(23,l127 none ((mget qh (ruway.mk (rucost.mk 0 0) 0 ([]:LH)) a3 e6).ja)),(24,I6 (((mget qh (ruway.mk (rucost.mk 0 0) 0 ([]:LH)) a3 e6).ja).length:Int)),(25,I6 (((mget qh (ruway.mk (rucost.mk 0 0) 0 ([]:LH)) a3 e6).ja).length:Int)),(26,.bool false)]) ?_;refine W.seq<|W.cF<|W.exit<|W.weak [6,8] [8] [] [] (env':=z3 [(8,.ptr (.agg [I6 (ruProof.mk v12 (apiFact.mk v13 v14) v15).qp,I6 (ruProof.mk v12 (apiFact.mk v13 v14) v15).qi.qc,l3 none (ruProof.mk v12 (apiFact.mk v13 v14) v15).qi.qa,l77 none (ruProof.mk v12 (apiFact.mk v13 v14) v15).ql]))]) kR ?_;exact hK10 (ruProof.mk v12 (apiFact.mk v13 v14) v15) h
  obtain⟨v12,v13,v14,v15⟩:=s;have h:Xi a1 a2 (Zr fuel) (Yd) (x1::r1) k1 v12 v13 v14 v15=some r:=h;rw[Xi.eq_2]at h;refine W.sr<|WO.pq 0 (jB (qW hk1)) ?_;let z5:=fun t=>z2 ((8,.box [I6 v12,I6 v13,l3 none v14,l77 (some 10803) v15])::t);refine WO.fn (e2:=z5 [(23,l127 none ((mget qh (ruway.mk (rucost.mk 0 0) 0 ([]:LH)) a3 e6).ja)),(24,I6 (((mget qh (ruway.mk (rucost.mk 0 0) 0 ([]:LH)) a3 e6).ja).length:Int)),(25,I6 (k1:Int)),(26,.bool true)]) ?_;refine W.seq<|W.cT ?_;let y0:Env:=[(23,l127 none ((mget qh (ruway.mk (rucost.mk 0 0) 0 ([]:LH)) a3 e6).ja)),(24,I6 (((mget qh (ruway.mk (rucost.mk 0 0) 0 ([]:LH)) a3 e6).ja).length:Int)),(25,I6 (k1:Int))];refine W.sw (e:=z5 y0) ?_;refine W.seq<|W.block<|W.sr<|WO.pq 0 (qX (f:=qj) hx1) ?_;let z6:=fun t=>z5 ((10,.ptr (.agg [I6 x1.qm,I6 x1.f_a,I6 x1.f_b]))::t);refine WO.fi [0,1,6,8,10,23,24,25] [10] (e2:=z6 y0) ?_;refine W.rg ?_;obtain⟨w18,hw18,h⟩:=qb h;refine WO.ck 6 (F:=94) (l:=[l146 none a1,I6 (W6 (a2 - 1)),.agg [I6 x1.qm,I6 x1.f_a,I6 x1.f_b]]) (C:=[]) (r:=.agg [I6 w18.qp,I6 w18.qi.qc,l3 none w18.qi.qa,l77 none w18.ql]) (ih a1 (W6 (a2 - 1)) x1 w18 hw18)<|WO.steps 1 (e1:=z6 [(23,l127 none ((mget qh (ruway.mk (rucost.mk 0 0) 0 ([]:LH)) a3 e6).ja)),(24,I6 (((mget qh (ruway.mk (rucost.mk 0 0) 0 ([]:LH)) a3 e6).ja).length:Int)),(25,I6 (k1:Int)),(29,.pb 8 3),(30,l77 (some 10803) v15),(31,l146 none a1),(32,I6 a2),(33,I6 (W6 (a2 - 1))),(34,.agg [I6 x1.qm,I6 x1.f_a,I6 x1.f_b]),(35,.agg [I6 w18.qp,I6 w18.qi.qc,l3 none w18.qi.qa,l77 none w18.ql]),(36,AV.lst 77 4 none [.agg [I6 w18.qp,I6 w18.qi.qc,l3 none w18.qi.qa,l77 none w18.ql]])]) kR ?_;rw[(congrArg (fun y=>AV.lst 77 4 none [y]) (qaw w18).symm:AV.lst 77 4 none [.agg [I6 w18.qp,I6 w18.qi.qc,l3 none w18.qi.qa,l77 none w18.ql]]=l77 none [w18])];obtain⟨hc19,h⟩:=qg h;refine WO.ak 0 37 77 4 Xv v15 [w18] hc19<|WO.fn (e2:=z2 ((8,.box [I6 v12,I6 v13,l3 none v14,l77 (some 37) (v15++[w18])])::y0)) ?_;refine W.rg<|WO.pq 0 (jI (qz hl1 hk1))<|WO.fin [0,1,6,8,23,24,25] [] [] [(37,some 10803)] (e2:=z2 [(8,.box [I6 v12,I6 v13,l3 none v14,l77 (some 10803) (v15++[w18])]),(23,l127 none ((mget qh (ruway.mk (rucost.mk 0 0) 0 ([]:LH)) a3 e6).ja)),(24,I6 (((mget qh (ruway.mk (rucost.mk 0 0) 0 ([]:LH)) a3 e6).ja).length:Int)),(25,I6 ((k1+1:Nat):Int))]) kR (fun _ h=>h) ?_;exact hN1 (v12,v13,v14,(v15++[w18])) h
end Go.AM
namespace Go
open AM
abbrev LC:=List (rufact×ruway)
end Go
namespace Go.AM
open Go.Proofs Go.Sort
open Classical
def wayZ:ruway:=ruway.mk (rucost.mk 0 0) 0 ([]:LH)
def mfind (f:rufact):LC->Option ruway
 | []=>none
 | p::r=>bif qh p.1 f then some p.2 else mfind f r
theorem VI (f:rufact):∀ l:LC,mget qh wayZ f l=(mfind f l).getD wayZ
 | []=>rfl
 | p::r=>by
  unfold mfind;simp only[Go.AM.mget]
  cases qh p.1 f with
  | true=>rfl
  | false=>exact VI f r
def wayP (w:ruway):WayP:=⟨w.qn.qr.toNat,w.jp,w.ja⟩
def levK (lv:List LC):Nat->LevP
 | 0=>fun _=>none
 | d+1=>fun f=>(lv[d]?).bind fun m=>(mfind f m).map wayP
theorem qaI {K:LevP}:∀ {gs:LH} {s:Nat},SumN K gs s->∀ g,g∈gs->(K g).isSome=true
 | g::gs,s,⟨w,t,a,b,c⟩,x,hx=>by
  rcases List.mem_cons.1 hx with rfl | hx
  .rw[a];rfl
  exact qaI b x hx
theorem qia {lv:List LC} {d:Int} {K0:List LC->Int->rufact->Option ruProof} {T:rufact->ruProof->Prop} (K10:ruProof->Option ruProof) (a b:Int) (c:LA):∀ (gs:LH) (k:Nat) (acc:Le),acc.length+gs.length<=1000->(∀ g,g∈gs->∃ p,K0 lv (IntKind.wrap .i64 (d - 1)) g=some p/\T g p) ->
  ∃ l,Xi lv d K0 K10 gs k a b c acc=K10 (ruProof.mk a (apiFact.mk b c) (acc++l))/\TreesP T gs l
 | [],k,acc,_,_=>⟨[],by rw[Xi,List.append_nil],rfl⟩
 | g::gs,k,acc,hl,h=>by
  rw[A8]at hl;obtain⟨p,p1,p2⟩:=h g (A2 ..)
  obtain⟨l,l1,l2⟩:=qia (T:=T) K10 a b c gs (k+1) (acc++[p]) (by simp;omega) fun x hx=>h x (A0 _ hx)
  refine⟨p::l,?_,p,l,rfl,p2,l2⟩;rw[Xi,p1];simp only[A1];rw[Nw (QP (by omega) (by simp;omega)),l1,E7];rfl
theorem qbY {ar:Int->Nat} {L:LJ} (hL:∀ r,r∈L->okL ar r) {G X:rufact->Prop} {lv:List LC} {n:Nat} (h:LevsP L G X (levK lv) n):∀ (d fuel:Nat) (f:rufact),d<n->d<=1000->d+1<=fuel->okU1 f->(levK lv (d+1) f).isSome=true->∃ p,Zr fuel lv (d:Int) f=some p/\TreeP (levK lv) (d+1) f p
 | d,0,f,_,_,hf,_,_=>by omega
 | d,fuel+1,f,hd,hk,hf,ho,hs=>by
  obtain⟨w,hw⟩:=Option.isSome_iff_exists.1 hs;have hw':(lv[d]?).bind (fun m=>(mfind f m).map wayP)=some w:=hw
  cases hm:lv[d]? with
  | none=>rw[hm]at hw';cases hw'
  | some m =>
   rw[hm,A1,Option.map_eq_some_iff]at hw';obtain⟨rw0,r1,r2⟩:=hw'
   have hget:mget qh (ruway.mk (rucost.mk 0 0) 0 ([]:LH)) f m=rw0:=by
    have:=VI f m;rw[r1]at this;exact this
   have hsub:rw0.ja=w.sub:=by rw[<- r2];rfl
   have hrule:rw0.jp=w.rule:=by rw[<- r2];rfl
   have hway:=(h.2 d oM).1 f w hw
   have hgs:w.sub.length<=3/\∀ g,g∈w.sub->okU1 g/\(levK lv d g).isSome=true:=by
    rcases hway with ⟨a,b,c,e⟩ | ⟨a,r,b,v,v1,v2,v3,v4,v5,s,v6,v7⟩
    .rw[b];exact⟨by simp,fun g hg=>by simp at hg⟩
    have hr:=D8 b;refine⟨by rw[v5,A4];exact E0 (F8 ..) (hL r hr).1.1,fun g hg=>⟨?_,qaI v6 g hg⟩⟩;rw[v5]at hg;obtain⟨x,hx,rfl⟩:=List.mem_map.1 hg;have hxb:=(List.mem_filter.1 hx).1;exact (JU v1 ((hL _ hr).body x hxb).1 (v2 _ (A0 _ (List.mem_map.2 ⟨x,hxb,rfl⟩)))).1
   obtain⟨l,l1,l2⟩:=qia (lv:=lv) (d:=(d:Int)) (K0:=Zr fuel) (T:=TreeP (levK lv) d) Yd w.rule f.qm (argsF f) w.sub 0 [] (by have:=hgs.1;simp;omega) fun g hg=>by
    obtain⟨g1,g2⟩:=hgs.2 g hg
    match d,g2,hd,hk,hf with
    | 0,g2,_,_,_=>cases g2
    | d+1,g2,hd,hk,hf =>
     obtain⟨p,p1,p2⟩:=qbY hL h d fuel g oM oM oM g1 g2;refine⟨p,?_,p2⟩;rw[wrap64 (by omega) (by omega),show ((d+1:Nat):Int) - 1=(d:Int) by omega];exact p1
   refine⟨ruProof.mk w.rule ⟨f.qm,argsF f⟩ l,?_,⟨w,hw,rfl,(VS f).symm,l2⟩⟩
   .rw[Zr,show idx lv (d:Int)=some m by unfold idx;rw[if_pos (by omega),C7,hm]];simp only[A1];rw[Nw (wfF3 ho.wf),qiH,hget,hsub,hrule];simp only[A1];rw[Nw (qM (by have:=hgs.1;omega)),VS];exact l1
def levM (known:LC):LevP:=fun f=>(mfind f known).map wayP
def wayStep (known:LC) (v:LA) (w:ruway) (x:ruLit):ruway :=
 bif x.qu then w else ⟨⟨max w.qn.jh ((mget qh wayZ (groundF v x.qe) known).qn.jh+1),min (w.qn.qr+(mget qh wayZ (groundF v x.qe) known).qn.qr) 1000⟩,w.jp,w.ja++[groundF v x.qe]⟩
def wayOf (known:LC) (i:Int) (r:ruRule) (v:LA):ruway:=r.qd.foldl (wayStep known v) ⟨⟨1,1⟩,i,[]⟩
def knownOk (known:LC):Prop:=∀ f w,mfind f known=some w->1<=w.qn.qr/\w.qn.qr<=1000
theorem Vu {known:LC} (hk:knownOk known) {v:LA}:∀ (body:LS) (w:ruway) (s0:Nat),w.qn.qr=((min (1+s0) 1000:Nat):Int)->(∀ x,x∈posB body->(mfind (groundF v x.qe) known).isSome=true) ->
  ∃ s,SumN (levM known) ((posB body).map fun x=>groundF v x.qe) s/\(body.foldl (wayStep known v) w).qn.qr=((min (1+s0+s) 1000:Nat):Int)/\(body.foldl (wayStep known v) w).jp=w.jp/\(body.foldl (wayStep known v) w).ja=w.ja++(posB body).map fun x=>groundF v x.qe
 | [],w,s0,hw,_=>⟨0,rfl,by rw[List.foldl_nil,hw];rfl,rfl,by simp[posB]⟩
 | x::body,w,s0,hw,h=>by
  rw[List.foldl_cons];by_cases hn:x.qu=true
  .have e:posB (x::body)=posB body:=by unfold posB;rw[A5,if_neg (by simp[hn])]
   have es:wayStep known v w x=w:=by unfold wayStep;rw[hn,cT]
   rw[e]at h ⊢;rw[es];exact Vu hk body w s0 hw h
  have hn':x.qu=false:=by simpa using hn
  have e:posB (x::body)=x::posB body:=by unfold posB;rw[A5,if_pos (by simp[hn])]
  rw[e]at h ⊢;obtain⟨k,hkx⟩:=Option.isSome_iff_exists.1 (h x (A2 ..));have hb:=hk _ _ hkx
  have hg:mget qh wayZ (groundF v x.qe) known=k:=by rw[VI,hkx];rfl
  have es:wayStep known v w x=⟨⟨max w.qn.jh (k.qn.jh+1),min (w.qn.qr+k.qn.qr) 1000⟩,w.jp,w.ja++[groundF v x.qe]⟩:=by
   unfold wayStep;rw[hn',cN,hg]
  obtain⟨s,i1,i2,i3,i4⟩:=Vu hk body (wayStep known v w x) (s0+k.qn.qr.toNat) (by rw[es];simp only;rw[hw];omega) fun y hy=>h y (A0 _ hy)
  refine⟨k.qn.qr.toNat+s,⟨wayP k,s,?_,i1,rfl⟩,?_,?_,?_⟩
  .unfold levM;rw[hkx];rfl
  .rw[i2];congr 2;omega
  .rw[i3,es]
  rw[i4,es,A3,E7];rfl
theorem qjO {L:LJ} {G X:rufact->Prop} {known:LC} (hk:knownOk known) {i:Nat} {r:ruRule} (hi:L[i]? = some r) {v:LA} (h1:V8 v) (h2:∀ a,a∈atomsU r->bnd v a.qa) (h3:FreeP X v r.qd) (h4:∀ x,x∈posB r.qd->(mfind (groundF v x.qe) known).isSome=true) :
  WayOk L G X (levM known) (groundF v r.qf) (wayP (wayOf known (i:Int) r v)):=by
 obtain⟨s,a,b,c,d⟩:=Vu hk r.qd ⟨⟨1,1⟩,(i:Int),[]⟩ 0 rfl h4;refine .inr ⟨?_,r,?_,v,h1,h2,rfl,h3,?_,s,?_,?_⟩
 .show 0<=(wayOf known (i:Int) r v).jp;unfold wayOf;rw[c];simp
 .show L[(wayOf known (i:Int) r v).jp.toNat]? = some r
  unfold wayOf;rw[c];simpa using hi
 .show (wayOf known (i:Int) r v).ja=_;unfold wayOf;rw[d];rfl
 .show SumN (levM known) (wayOf known (i:Int) r v).ja s;unfold wayOf;rw[d];exact a
 show (wayOf known (i:Int) r v).qn.qr.toNat=_;unfold wayOf;rw[b];omega
end Go.AM
namespace Go.AM
open Go.Proofs Go.Sort
open Classical
theorem Ue (f g:rufact) (w:ruway):∀ l:LC,mfind g (mset qh f w l)=if g=f then some w else mfind g l
 | []=>by
  simp only[Go.AM.mset];unfold mfind;by_cases h:g=f
  .rw[if_pos h,YN.2 h.symm,cT]
  rw[if_neg h,Zk.2 (fun e=>h e.symm),cN];rfl
 | p::r=>by
  simp only[Go.AM.mset]
  cases hq:qh p.1 f with
  | true =>
   have:=YN.1 hq;rw[cT];unfold mfind;by_cases h:g=f
   .rw[if_pos h];simp only[this,YN.2 h.symm,cT]
   rw[if_neg h];simp only[this,Zk.2 (fun e=>h e.symm),cN]
  | false =>
   have:=Zk.1 hq;rw[cN];unfold mfind;rw[Ue f g w r]
   cases hg:qh p.1 g with
   | true =>
    have e:=YN.1 hg;rw[cT,cT,if_neg (fun h=>this (e.trans h))]
   | false=>rw[cN,cN]
def putW (out:LC) (f:rufact) (w:ruway):LC :=
 if w.qn.qr<(mget qh wayZ f out).qn.qr\/(mget qh wayZ f out).qn.qr=0 then mset qh f w out else out
structure BestM (K:rufact->ruway->Prop) (out:LC):Prop where
 good:∀ f w,mfind f out=some w->K f w/\1<=w.qn.qr
 least:∀ f w,K f w->∃ w',mfind f out=some w'/\w'.qn.qr<=w.qn.qr
theorem BestM.put {K:rufact->ruway->Prop} {out:LC} (h:BestM K out) (f:rufact) (w:ruway) (hw:1<=w.qn.qr):BestM (fun g u=>K g u\/(g=f/\u=w)) (putW out f w):=by
 have hg:=VI f out;unfold putW;split
 .rename_i hc;refine⟨fun g u hu=>?_,fun g u hu=>?_⟩
  .rw[Ue]at hu;by_cases e:g=f
   .rw[if_pos e]at hu;cases hu;exact⟨.inr ⟨e,rfl⟩,hw⟩
   rw[if_neg e]at hu;exact⟨.inl (h.good g u hu).1,(h.good g u hu).2⟩
  rw[Ue];by_cases e:g=f
  .rw[if_pos e];refine⟨w,rfl,?_⟩
   rcases hu with hu | ⟨_,rfl⟩
   .obtain⟨w',a,b⟩:=h.least g u hu;subst e;rw[hg,a]at hc;have:=(h.good _ _ a).2;simp only[Option.getD_some]at hc;omega
   exact D1 _
  rw[if_neg e]
  rcases hu with hu | ⟨e2,_⟩
  .exact h.least g u hu
  exact absurd e2 e
 rename_i hc;refine⟨fun g u hu=>⟨.inl (h.good g u hu).1,(h.good g u hu).2⟩,fun g u hu=>?_⟩
 rcases hu with hu | ⟨rfl,rfl⟩
 .exact h.least g u hu
 rw[hg]at hc
 cases hm:mfind g out with
 | none=>rw[hm]at hc;exact absurd (Or.inr rfl) hc
 | some w' =>
  rw[hm]at hc;simp only[Option.getD_some]at hc;exact⟨w',rfl,by omega⟩
end Go.AM
