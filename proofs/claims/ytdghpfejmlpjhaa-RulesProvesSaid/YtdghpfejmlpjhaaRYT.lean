import Derived.Test.YtdghpfejmlpjhaaRL9
import Derived.Test.YtdghpfejmlpjhaaRows
set_option linter.all false
set_option maxRecDepth 100000
open Option renaming bind_some→A0
open Prod renaming fst→A1
open List renaming mem_cons_self→A2, mem_cons_of_mem→A3, length_cons→A4, getD_eq_getElem?_getD→A5, length_map→A6, map_cons→A7, getElem?_eq_getElem→C0, nil_append→D0, length_append→D1, length_set→D2, mem_cons→D4, replicate→D5, range'→D6, range→E0, map→E7, drop_eq_getElem_cons→F6, getElem?_set_self→F7, getElem?_set_ne→F8, length_filter_le→F9, getElem?_replicate→G0, getElem?_append_right→G1
open Int renaming toNat_natCast→A8, toNat→B1
open Nat renaming mul_one→A9, zero_add→D3, succ_mul→D7, pow_succ→D8, pow_le_pow_right→E8, le_trans→E9
open Bool renaming not_true→C7
open Go.IntKind renaming wrap→D9
namespace Go.AM
open Go.Proofs
open Classical
variable {a:rf2Atom} {S:LI} {rel:Int} {args v w:LA} {f:rufact} {L:LJ} {ar:Int->Nat} {P:rufact->Prop} {out:LB} {l:LN} {facts:LG}
def toA (a:rf2Atom):qo:=⟨a.qc,a.qa⟩
def toL (x:rf3Lit):ruLit:=⟨x.qu,toA x.qe⟩
def toR (r:rf3Rule):ruRule:=⟨toA r.qf,r.qd.map toL⟩
theorem qkS (h:fitP a.qc a.qa):cvA a=toA a:=by
 unfold cvA toA;rw[HY h]
theorem qkQ {r:rf3Rule} (h:okR r):cvR r=toR r:=by
 unfold cvR toR;rw[qkS h.1,List.take_of_length_le (by have:=h.2.1;omega)]
 congr 1
 refine List.map_congr_left fun x hx=>?_
 unfold cvL toL;rw[qkS (h.2.2.1 x hx)]
def InstP (P:rufact->Prop):LS->LA->LA->Prop
 | [],v,w=>w=v
 | x::body,v,w=>(x.qu=true/\InstP P body v w)\/(x.qu=false/\∃ g u,P g/\g.qm=x.qe.qc/\(argsF g).length=x.qe.qa.length/\fitA v x.qe.qa (argsF g)=some u/\InstP P body u w)
def partR (S:LI) (rel:Int) (args v:LA) (G:LA->Li) (n:Nat):Li :=
 if S.getD n false=true/\(decF n).qm=rel/\(argsF (decF n)).length=args.length then (match fitA v args (argsF (decF n)) with | some u=>G u | none=>[]) else []
def instR (S:LI):LS->LA->Li
 | [],v=>[v]
 | x::body,v=>if x.qu=true then instR S body v else (D6 0 252).flatMap (partR S x.qe.qc x.qe.qa v (instR S body))
theorem qgx {α β:Type} {f:α->List β} {B:Nat}:∀ {l:List α},(∀ x,x∈l->(f x).length<=B)->(l.flatMap f).length<=l.length * B
 | [],_=>by simp
 | a::l,h=>by
  have h1:=h a (A2 ..)
  have h2:=qgx (l:=l) fun x hx=>h x (A3 _ hx)
  rw[List.flatMap_cons,D1,A4,D7];omega
theorem qji {G:LA->Li} {B:Nat} (h:∀ u,(G u).length<=B) (n:Nat):(partR S rel args v G n).length<=B:=by
 unfold partR;split
 .split
  .exact h _
  simp
 simp
theorem VM (S:LI):∀ (body:LS) (v:LA),(instR S body v).length<=252 ^ body.length
 | [],v=>by simp[instR]
 | x::body,v=>by
  unfold instR;split
  .have:=VM S body v;rw[A4,D8];omega
  have:=qgx (l:=D6 0 252) (f:=partR S x.qe.qc x.qe.qa v (instR S body)) (B:=252 ^ body.length) fun n _=>qji (VM S body) n
  rw[List.length_range']at this;rw[A4,D8];omega
def setB (S:LI) (g:rufact):Prop:=okU1 g/\S.getD (codeF g) false=true
theorem VL {S:LI}:∀ (body:LS) (v w:LA),w∈instR S body v↔InstP (setB S) body v w
 | [],v,w=>by simp[instR,InstP]
 | x::body,v,w=>by
  unfold instR InstP
  cases hn:x.qu with
  | true=>simp[VL body v w]
  | false =>
   simp only[Bool.false_eq_true,if_false,false_and,false_or,true_and];rw[List.mem_flatMap];constructor
   .rintro⟨n,hn,hw⟩
    have hn:n<252:=by have:=List.mem_range'_1.1 hn;omega
    unfold partR at hw;split at hw
    .rename_i hc
     cases hf:fitA v x.qe.qa (argsF (decF n)) with
     | none=>rw[hf]at hw;simp at hw
     | some u =>
      rw[hf]at hw;exact⟨decF n,u,⟨qlB hn,by rw[qkU hn];exact hc.1⟩,hc.2.1,hc.2.2,hf,(VL body u w).1 hw⟩
    simp at hw
   rintro⟨g,u,hg,h1,h2,h3,h4⟩
   refine⟨codeF g,List.mem_range'_1.2 ⟨by omega,by have:=QO hg.1;omega⟩,?_⟩;unfold partR;rw[qcU hg.1,if_pos ⟨hg.2,h1,h2⟩,h3];exact (VL body u w).2 h4
theorem NY (w31:apiFact) (K:LA->Bool->LX):∀ (args:LA) (k:Nat) (v:LA),arg7 args->k+args.length<=w31.qa.length->v.length=8->∃ u,qF w31 K args k v false=K u false
 | [],k,v,_,_,_=>⟨v,by rw[qF]⟩
 | x::args,k,v,ha,hk,hv=>by
  rw[A4]at hk;have hx:=ha x (A2 ..)
  have ha':arg7 args:=fun y hy=>ha y (A3 _ hy)
  have hi:idx w31.qa (k:Int)=some w31.qa[k]:=by unfold idx;simp[show k<w31.qa.length by omega]
  rw[qF];unfold jA;by_cases hneg:x<0
  .rw[dT hneg,cT,cN];exact NY w31 K args (k+1) v ha' oM hv
  rw[dF hneg,cN,Nw (dec8 (by omega) hx.2),get8 hv (by omega) hx.2];simp only[A0];by_cases hz:v.getD x.toNat 0=0
  .rw[show (v.getD x.toNat 0 != 0)=false by simp only[hz,bne_self_eq_false],cN,hi];simp only[A0];rw[Nw (dec8 (by omega) hx.2),Nw (dT (by omega))];exact NY w31 K args (k+1) _ ha' oM (by rw[D2,hv])
  rw[show (v.getD x.toNat 0 != 0)=true from bne_iff_ne.2 hz,cT,cN];exact NY w31 K args (k+1) v ha' oM hv
theorem qar (w31:apiFact) (K:LA->Bool->LX):∀ (args:LA) (k:Nat) (v:LA),arg7 args->k+args.length<=w31.qa.length->v.length=8 ->
  match fitA v args (w31.qa.drop k) with
  | some u=>qF w31 K args k v true=K u true
  | none=>∃ u,qF w31 K args k v true=K u false
 | [],k,v,_,_,_=>by
  rw[fitA];show qF w31 K [] k v true=_;rw[qF]
 | x::args,k,v,ha,hk,hv=>by
  rw[A4]at hk;have hx:=ha x (A2 ..)
  have ha':arg7 args:=fun y hy=>ha y (A3 _ hy)
  have hi:idx w31.qa (k:Int)=some w31.qa[k]:=by unfold idx;simp[show k<w31.qa.length by omega]
  have hd:w31.qa.drop k=w31.qa[k]::w31.qa.drop (k+1):=F6 oM;rw[qF,hd];unfold jA fitA;by_cases hneg:x<0
  .rw[dT hneg,cT,cT,hi,if_pos hneg,wrap64 (by omega) (by omega)];simp only[A0];by_cases hq:0 - x=w31.qa[k]
   .rw[if_pos hq,show (w31.qa[k] == 0 - x)=true from beq_iff_eq.2 hq.symm];exact qar w31 K args (k+1) v ha' oM hv
   rw[if_neg hq,show (w31.qa[k] == 0 - x)=false from beq_eq_false_iff_ne.2 (fun h=>hq h.symm)];exact NY w31 K args (k+1) v ha' oM hv
  rw[dF hneg,cN,if_neg hneg,Nw (dec8 (by omega) hx.2),get8 hv (by omega) hx.2];simp only[A0];by_cases hz:v.getD x.toNat 0=0
  .rw[show (v.getD x.toNat 0 != 0)=false by simp only[hz,bne_self_eq_false],cN,hi,if_neg (fun h=>h.1 hz)];simp only[A0];rw[Nw (dec8 (by omega) hx.2),Nw (dT (by omega)),D3,A9];exact qar w31 K args (k+1) _ ha' oM (by rw[D2,hv])
  rw[show (v.getD x.toNat 0 != 0)=true from bne_iff_ne.2 hz,cT,cT,hi];simp only[A0];rw[Nw (dec8 (by omega) hx.2)];by_cases hq:v.getD x.toNat 0=w31.qa[k]
  .rw[if_neg (fun h=>h.2 hq),show (w31.qa[k] == v.getD x.toNat 0)=true from beq_iff_eq.2 hq.symm,set8 hq];exact qar w31 K args (k+1) v ha' oM hv
  rw[if_pos ⟨hz,hq⟩,show (w31.qa[k] == v.getD x.toNat 0)=false from beq_eq_false_iff_ne.2 (fun h=>hq h.symm)];exact NY w31 K args (k+1) v ha' oM hv
theorem qfe {r:rf3Rule} {S:LI} (hS:S.length=252) {i:Int} {v:LA} (hv:v.length=8) {x:rf3Lit} (hx:arg7 x.qe.qa) (hx2:x.qe.qa.length<=2) {K0:rf3Rule->LI->Int->LA->LX} (K22:Li->LX) {G:LA->Li} {B:Nat}
  (hG:∀ u,u.length=8->K0 r S (D9 .i64 (i+1)) u=some (G u)) (hGl:∀ u,(G u).length<=B):∀ (L:LQ) (k:Nat) (acc:Li),k+L.length=252->acc.length+L.length * B<=1000000000 ->
  qH r S i v x K0 K22 L k acc=K22 (acc++(D6 k L.length).flatMap (partR S x.qe.qc x.qe.qa v G))
 | [],k,acc,_,_=>by rw[qH];simp
 | y::L,k,acc,hk,hb=>by
  rw[A4]at hk hb;rw[D7]at hb
  have hk2:k<252:=by omega
  have hg:S[B1 (k:Int) * 1]? = some (S.getD k false):=by
   rw[A8,A9,A5,C0 (by omega)];rfl
  rw[qH,Nw (dT ⟨by omega,by omega⟩),hg,qlg hk2,VS];simp only[A0];rw[A4,List.range'_succ,List.flatMap_cons,<- List.append_assoc]
  have no:partR S x.qe.qc x.qe.qa v G k=[]->jX r S i v x acc ⟨(decF k).qm,argsF (decF k)⟩ K0 (qO (qH r S i v x K0 K22 L (k+1))) true=K22 ((acc++partR S x.qe.qc x.qe.qa v G k)++(D6 (k+1) L.length).flatMap (partR S x.qe.qc x.qe.qa v G)):=fun h=>by
   rw[h,List.append_nil];unfold jX qO;rw[cT];exact qfe hS hv hx hx2 K22 hG hGl L (k+1) acc oM oM
  cases hs:S.getD k false with
  | false =>
   simp only[Bool.not_false,cT];exact no (by unfold partR;rw[if_neg (by rw[hs];simp)])
  | true =>
   simp only[C7,cN];by_cases hr:(decF k).qm=x.qe.qc
   .rw[show ((decF k).qm != x.qe.qc)=false by rw[hr];exact bne_self_eq_false ..,cN];by_cases hl:(argsF (decF k)).length=x.qe.qa.length
    .rw[show (((argsF (decF k)).length:Int) != (x.qe.qa.length:Int))=false by rw[hl];exact bne_self_eq_false ..];unfold jX;rw[cN,Nw (dT hv),Nw (dT ⟨hv,by simp⟩),Nw (qM (by omega))];have h2:=qar ⟨(decF k).qm,argsF (decF k)⟩ (jk r S i acc K0 (qO (qH r S i v x K0 K22 L (k+1)))) x.qe.qa 0 v hx (by simp only;omega) hv;rw[List.drop_zero]at h2;simp only at h2
     cases hf:fitA v x.qe.qa (argsF (decF k)) with
     | none =>
      rw[hf]at h2;obtain⟨u,h2⟩:=h2;rw[h2]
      have e:partR S x.qe.qc x.qe.qa v G k=[]:=by
       unfold partR;rw[hf];simp
      have:=no e;unfold jX at this;rw[cT]at this;unfold jk;rw[cN];exact this
     | some u =>
      rw[hf]at h2;replace h2:qF _ _ x.qe.qa 0 v true=_:=h2;rw[h2]
      have e:partR S x.qe.qc x.qe.qa v G k=G u:=by
       unfold partR;rw[hf,if_pos ⟨hs,hr,hl⟩]
      have hu:u.length=8:=by rw[qcR hf,hv]
      have hlu:=hGl u;unfold jk qO;rw[cT,Nw (dT hS),Nw (dT hu),hG u hu];simp only[A0];rw[Nw (QP (by omega) (by rw[D1];omega)),e];exact qfe hS hv hx hx2 K22 hG hGl L (k+1) (acc++G u) oM (by rw[D1];omega)
    rw[show (((argsF (decF k)).length:Int) != (x.qe.qa.length:Int))=true from bne_iff_ne.2 (by omega)];exact no (by unfold partR;rw[if_neg (fun h=>hl h.2.2)])
   rw[show ((decF k).qm != x.qe.qc)=true from bne_iff_ne.2 hr,cT];exact no (by unfold partR;rw[if_neg (fun h=>hr h.2.1)])
theorem YO {r:rf3Rule} (hb:r.qd.length<=3) (hx:∀ x,x∈r.qd->arg7 x.qe.qa/\x.qe.qa.length<=2) {S:LI} (hS:S.length=252):∀ (n fuel i:Nat) (v:LA),i+n=r.qd.length->n+1<=fuel->v.length=8->qA fuel r S (i:Int) v=some (instR S ((r.qd.drop i).map toL) v)
 | 0,fuel+1,i,v,hi,hf,hv=>by
  rw[qA,Nw (by cases S <;> simp_all),Nw (by cases v <;> simp_all),show ((i:Int) == (r.qd.length:Int))=true from beq_iff_eq.2 (by omega),cT,Nw (dT hv),Nw (dT hv),List.drop_of_length_le (by omega)];rfl
 | n+1,fuel+1,i,v,hi,hf,hv=>by
  have hil:i<r.qd.length:=by omega
  have hid:idx r.qd (i:Int)=some r.qd[i]:=by unfold idx;simp[hil]
  have hd:r.qd.drop i=r.qd[i]::r.qd.drop (i+1):=F6 hil;have hxi:=hx _ (List.getElem_mem hil)
  have ew:D9 .i64 ((i:Int)+1)=((i+1:Nat):Int):=by rw[wrap64 (by omega) (by omega)];omega
  rw[qA,Nw (by cases S <;> simp_all),Nw (by cases v <;> simp_all),show ((i:Int) == (r.qd.length:Int))=false from beq_eq_false_iff_ne.2 (by omega),cN,hid,hd];simp only[A0,A7];unfold instR;have en:(toL r.qd[i]).qu=r.qd[i].qu:=rfl;rw[en]
  cases hn:r.qd[i].qu with
  | true =>
   rw[cT,Nw (dT hS),Nw (dT hv),ew,YO hb hx hS n fuel (i+1) v (by omega) (by omega) hv];rfl
  | false =>
   rw[cN,Nw (dT hS),Nw (qM (by simp))]
   have hlen:(r.qd.drop (i+1)).length<=2:=by rw[List.length_drop];omega
   rw[qfe hS hv hxi.1 hxi.2 qV (G:=instR S ((r.qd.drop (i+1)).map toL)) (B:=63504) (fun u hu=>by rw[ew];exact YO hb hx hS n fuel (i+1) u (by omega) (by omega) hu) (fun u=>by
    have h1:=VM S ((r.qd.drop (i+1)).map toL) u;rw[A6]at h1;have h2:252 ^ (r.qd.drop (i+1)).length<=252 ^ 2:=E8 (by omega) hlen
    have:252 ^ 2=63504:=by decide
    omega) (E0 (B1 252)) 0 [] (by simp) (by simp)]
   unfold qV;rw[D0];simp;rfl
def V8 (v:LA):Prop:=v.length=8/\∀ i,0<=v.getD i 0/\v.getD i 0<=6
def es16 (es:LA):Prop:=∀ e,e∈es->1<=e/\e<=6
def bnd (w args:LA):Prop:=∀ x,x∈args->0<=x->w.getD x.toNat 0≠0
theorem Vr (h:okU1 f):es16 (argsF f):=by
 have:=h.a1;have:=h.a6;have:=h.b0;have:=h.b6;unfold argsF;split
 .intro e he;simp at he;subst he;omega
 intro e he;simp only[D4,List.not_mem_nil,or_false]at he
 rcases he with rfl | rfl <;> omega
theorem Vx (n i:Nat) (e:Int) (h:n<v.length):(v.set n e).getD i 0=if i=n then e else v.getD i 0:=by
 simp only[A5];by_cases hi:i=n
 .subst hi;rw[F7 h,if_pos rfl];rfl
 rw[F8 (fun q=>hi q.symm),if_neg hi]
theorem ZT:∀ {xs es v u:LA},fitA v xs es=some u->V8 v->arg7 xs->es16 es->V8 u/\(∀ i,v.getD i 0≠0->u.getD i 0≠0)/\bnd u xs
 | [],es,v,u,h,hv,_,_=>by
  rw[fitA]at h;cases h;exact⟨hv,fun i hi=>hi,fun x hx=>by simp at hx⟩
 | x::xs,[],v,u,h,_,_,_=>by cases h
 | x::xs,e::es,v,u,h,hv,ha,he=>by
  have hx:=ha x (A2 ..)
  have ha':arg7 xs:=fun y hy=>ha y (A3 _ hy)
  have h1:=he e (A2 ..)
  have he':es16 es:=fun y hy=>he y (A3 _ hy)
  unfold fitA at h;split at h
  .rename_i hneg;split at h
   .obtain⟨a,b,c⟩:=ZT h hv ha' he';refine⟨a,b,fun y hy h0=>?_⟩
    rcases List.mem_cons.1 hy with rfl | hy
    .omega
    exact c y hy h0
   cases h
  rename_i hneg;split at h
  .cases h
  have hlt:x.toNat<v.length:=by rw[hv.1];omega
  have hv':V8 (v.set x.toNat e):=⟨by rw[D2,hv.1],fun i=>by
   rw[Vx _ _ _ hlt];have:=hv.2 i
   split <;> omega⟩
  obtain⟨a,b,c⟩:=ZT h hv' ha' he'
  have hq:∀ i,v.getD i 0≠0->(v.set x.toNat e).getD i 0≠0:=fun i hi=>by
   rw[Vx _ _ _ hlt];split
   .omega
   exact hi
  refine⟨a,fun i hi=>b i (hq i hi),fun y hy h0=>?_⟩
  rcases List.mem_cons.1 hy with rfl | hy
  .exact b _ (by rw[Vx _ _ _ hlt,if_pos rfl];omega)
  exact c y hy h0
def okW (P:rufact->Prop):Prop:=∀ g,P g->okU1 g
theorem DR {P:rufact->Prop} (hP:okW P):∀ {body:LS} {v w:LA},InstP P body v w->V8 v->(∀ x,x∈body->arg7 x.qe.qa)->V8 w/\(∀ i,v.getD i 0≠0->w.getD i 0≠0)/\∀ x,x∈body->x.qu=false->bnd w x.qe.qa
 | [],v,w,h,hv,_=>by
  have h:w=v:=h;subst h;exact⟨hv,fun i hi=>hi,fun x hx=>by simp at hx⟩
 | x::body,v,w,h,hv,ha=>by
  have ha':∀ y,y∈body->arg7 y.qe.qa:=fun y hy=>ha y (A3 _ hy)
  rcases h with ⟨hn,h⟩ | ⟨hn,g,u,hg,h1,h2,h3,h4⟩
  .obtain⟨a,b,c⟩:=DR hP h hv ha';refine⟨a,b,fun y hy h0=>?_⟩
   rcases List.mem_cons.1 hy with rfl | hy
   .rw[hn]at h0;cases h0
   exact c y hy h0
  obtain⟨a1,b1,c1⟩:=ZT h3 hv (ha x (A2 ..)) (Vr (hP g hg));obtain⟨a,b,c⟩:=DR hP h4 a1 ha';refine⟨a,fun i hi=>b i (b1 i hi),fun y hy h0=>?_⟩
  rcases List.mem_cons.1 hy with rfl | hy
  .exact fun z hz h0=>b _ (c1 z hz h0)
  exact c y hy h0
theorem Nv {P Q:rufact->Prop} (h:∀ g,P g->Q g):∀ {body:LS} {v w:LA},InstP P body v w->InstP Q body v w
 | [],v,w,hi=>hi
 | x::body,v,w,hi=>by
  rcases hi with ⟨hn,hi⟩ | ⟨hn,g,u,hg,h1,h2,h3,h4⟩
  .exact .inl ⟨hn,Nv h hi⟩
  exact .inr ⟨hn,g,u,h g hg,h1,h2,h3,Nv h h4⟩
theorem qhI (hw:V8 w) (ha:arg7 args) (hb:bnd w args):es16 (groundA w args):=by
 intro e he;unfold groundA at he;obtain⟨x,hx,rfl⟩:=List.mem_map.1 he;have:=ha x hx;split
 .omega
 have h1:=hb x hx oM;have h2:=hw.2 x.toNat;omega
theorem qku (hr:rel6 rel):∀ {g:LA},(1<=g.length/\g.length<=2)->es16 g->okU1 (mkF rel g)/\argsF (mkF rel g)=g
 | [],h,_=>by simp at h
 | [a],_,h=>by
  have h1:=h a (by simp);exact⟨⟨hr.1,hr.2,h1.1,h1.2,(show (0:Int)<=0 by decide),(show (0:Int)<=6 by decide)⟩,rfl⟩
 | [a,b],_,h=>by
  have h1:=h a (by simp);have h2:=h b (by simp);refine⟨⟨hr.1,hr.2,h1.1,h1.2,(show 0<=b by omega),h2.2⟩,?_⟩;show (if b=0 then [a] else [a,b])=[a,b];rw[if_neg (by omega)]
 | a::b::c::r,h,_=>by simp at h
theorem jY (h:fitP rel args):arg7 args:=h.2.2
theorem YQ (h:fitP rel args):rel6 rel:=h.1
theorem JU {a:qo} (hw:V8 w) (ha:fitP a.qc a.qa) (hb:bnd w a.qa):okU1 (groundF w a)/\argsF (groundF w a)=groundA w a.qa/\(groundF w a).qm=a.qc:=by
 have h:=qku (YQ ha) (g:=groundA w a.qa) (by unfold groundA;rw[A6];exact ha.2.1) (qhI hw (jY ha) hb);exact⟨h.1,h.2,rfl⟩
theorem qcH {w:LA} (hw:V8 w) (K:LA->La):∀ (args:LA) (k:Nat) (acc:LA),arg7 args->acc.length+args.length<=1000->Qb w K args k acc=K (acc++groundA w args)
 | [],k,acc,_,_=>by rw[Qb];simp[groundA]
 | x::args,k,acc,ha,hl=>by
  have hx:=ha x (A2 ..)
  have ha':arg7 args:=fun y hy=>ha y (A3 _ hy)
  rw[A4]at hl;rw[Qb];unfold Zw
  have e:acc++groundA w (x::args)=(acc++[if x<0 then 0 - x else w.getD x.toNat 0])++groundA w args:=by
   unfold groundA;simp
  by_cases hneg:x<0
  .rw[dT hneg,cT,wrap64 (by omega) (by omega),Nw (QP (by omega) (by simp;omega)),qcH hw K args (k+1) _ ha' (by simp;omega),e,if_pos hneg]
  rw[dF hneg,cN,Nw (dec8 (by omega) hx.2),get8 hw.1 (by omega) hx.2];simp only[A0];rw[Nw (QP (by omega) (by simp;omega)),qcH hw K args (k+1) _ ha' (by simp;omega),e,if_neg hneg]
theorem VO (hw:V8 w) (ha:fitP a.qc a.qa) (hb:bnd w a.qa):Xq a w=some (codeF (groundF w (toA a)):Int):=by
 have hne:w≠[]:=by intro h;have:=hw.1;rw[h]at this;cases this
 obtain⟨h1,h2,h3⟩:=JU (a:=toA a) hw ha hb;unfold Xq;rw[Nw (by cases w <;> simp_all),Nw (qM (by have:=ha.2.1;omega)),qcH hw _ _ _ _ (jY ha) (by have:=ha.2.1;simp;omega)];unfold Yu;have:=qcV h1;rw[h2,h3]at this;rw[D0];replace this:Qq a.qc (groundA w a.qa)=_:=this;rw[this];rfl
def FreeP (N:rufact->Prop) (w:LA) (body:LS):Prop:=∀ x,x∈body->x.qu=true->¬ N (groundF w x.qe)
theorem qiA {w:LA} (hw:V8 w) {S:LI} (hS:S.length=252) (K:LD):∀ (body:Lp) (k:Nat),(∀ x,x∈body->x.qu=true->fitP x.qe.qc x.qe.qa/\bnd w x.qe.qa)->QB w S K body k=if FreeP (setB S) w (body.map toL) then K else some false
 | [],k,_=>by rw[QB,if_pos (show FreeP _ _ _ from fun x hx=>by simp at hx)]
 | x::body,k,h=>by
  have ih:=qiA hw hS K body (k+1) fun y hy=>h y (A3 _ hy)
  have hc:FreeP (setB S) w ((x::body).map toL)↔(x.qu=true->¬ setB S (groundF w (toA x.qe)))/\FreeP (setB S) w (body.map toL):=by
   unfold FreeP;simp only[A7,D4,forall_eq_or_imp];rfl
  rw[QB];unfold Zx;rw[ih]
  cases hn:x.qu with
  | false =>
   rw[cN,cN];by_cases hq:FreeP (setB S) w (body.map toL)
   .rw[if_pos hq,if_pos (hc.2 ⟨fun h=>(by rw[hn]at h;cases h),hq⟩)]
   rw[if_neg hq,if_neg (fun h=>hq (hc.1 h).2)]
  | true =>
   obtain⟨h1,h2⟩:=h x (A2 ..) hn;have hok:=(JU (a:=toA x.qe) hw h1 h2).1;have hlt:=QO hok;rw[cT,Nw (dT hw.1),VO hw h1 h2];simp only[A0];rw[Nw (dT ⟨by omega,by omega,by omega⟩),D3,A9,A8,C0 (by omega)];simp only[A0]
   have hg:S[codeF (groundF w (toA x.qe))]=S.getD (codeF (groundF w (toA x.qe))) false:=by
    rw[A5,C0 (by omega)];rfl
   rw[hg]
   cases hs:S.getD (codeF (groundF w (toA x.qe))) false with
   | true =>
    rw[cT,if_neg (fun q=>(hc.1 q).1 hn ⟨hok,hs⟩)]
   | false =>
    rw[cN];by_cases hq:FreeP (setB S) w (body.map toL)
    .rw[if_pos hq,if_pos (hc.2 ⟨fun _ q=>(by have:=q.2;rw[hs]at this;cases this),hq⟩)]
    rw[if_neg hq,if_neg (fun h=>hq (hc.1 h).2)]
theorem qcL (hw:V8 w) (hS:S.length=252) {r:rf3Rule} (hl:r.qd.length<=3) (h:∀ x,x∈r.qd->x.qu=true->fitP x.qe.qc x.qe.qa/\bnd w x.qe.qa):Ub r w S=some (decide (FreeP (setB S) w (toR r).qd)):=by
 unfold Ub;rw[Nw (by have:=hw.1;cases w <;> simp_all),Nw (by cases S <;> simp_all),Nw (qM (by omega)),qiA hw hS _ _ _ h];unfold Ze;show _=some (decide (FreeP (setB S) w (r.qd.map toL)));by_cases hq:FreeP (setB S) w (r.qd.map toL)
 .rw[if_pos hq,dT hq]
 rw[if_neg hq,dF hq]
theorem NE {i:Int} (h1 : -1000<=i) (h2:i<=1000):wfI .i64 i=true:=by
 unfold wfI Lit.wf;simp[IntKind.min,IntKind.max,IntKind.signed,IntKind.bits];omega
theorem VN (hw:V8 w) {a:qo} (ha:fitP a.qc a.qa):wfF (groundF w a)=true:=by
 have hr:=YQ ha
 have hA:∀ e,e∈groundA w a.qa->0<=e/\e<=6:=fun e he=>by
  unfold groundA at he;obtain⟨x,hx,rfl⟩:=List.mem_map.1 he;have:=jY ha x hx;have:=hw.2 x.toNat;split <;> omega
 have hg:∀ i,0<=(groundA w a.qa).getD i 0/\(groundA w a.qa).getD i 0<=6:=fun i=>by
  rw[A5]
  cases hi:(groundA w a.qa)[i]? with
  | none=>exact⟨by decide,by decide⟩
  | some e=>exact hA e (List.mem_of_getElem? hi)
 have h0:=hg 0;have h1:=hg 1;have:=hr.1;have:=hr.2;unfold wfF
 have wf:∀ n:Int,0<=n->n<=6->wfI .i64 n=true:=fun n a b=>by
  exact NE oM oM
 show (wfI .i64 a.qc && wfI .i64 ((groundA w a.qa).getD 0 0) && wfI .i64 ((groundA w a.qa).getD 1 0))=true;rw[wf _ (by omega) (by omega),wf _ h0.1 h0.2,wf _ h1.1 h1.2];rfl
theorem qep {no:LB} (hno:NT no) {w:LA} (hw:V8 w):∀ (body:LS),(∀ x,x∈body->fitP x.qe.qc x.qe.qa)->freeP no w body=some (decide (FreeP (fun g=>g∈no.map A1) w body))
 | [],_=>by unfold freeP;rw[dT (show FreeP _ _ _ from fun x hx=>by simp at hx)]
 | x::body,h=>by
  have ih:=qep hno hw body fun y hy=>h y (A3 _ hy)
  have hx:=h x (A2 ..)
  have hc:FreeP (fun g=>g∈no.map A1) w (x::body)↔(x.qu=true->groundF w x.qe ∉ no.map A1)/\FreeP (fun g=>g∈no.map A1) w body:=by
   unfold FreeP;simp only[D4,forall_eq_or_imp]
  unfold freeP
  cases hn:x.qu with
  | false =>
   rw[cN,ih]
   congr 1
   refine decide_eq_decide.2 ?_;rw[hc];exact⟨fun q=>⟨fun h=>(by rw[hn]at h;cases h),q⟩,fun q=>q.2⟩
  | true =>
   rw[cT,Zl hw.1 (jY hx) hx.2.1.2];simp only[A0];rw[Nw (VN hw hx)];by_cases hm:groundF w x.qe∈no.map A1
   .rw[(NT.mget hno.t _).2 hm,cT,dF (fun q=>(hc.1 q).1 hn hm)]
   rw[show mget qh false (groundF w x.qe) no=false by
    rw[<- Bool.not_eq_true];exact fun q=>hm ((NT.mget hno.t _).1 q),cN,ih]
   congr 1
   refine decide_eq_decide.2 ?_;rw[hc];exact⟨fun q=>⟨fun _=>hm,q⟩,fun q=>q.2⟩
theorem qhN {xs:LA}:∀ {es fs v:LA},xs.length=es.length->fitA v xs (es++fs)=fitA v xs es:=by
 induction xs with
 | nil=>intro es fs v h;rw[fitA,fitA]
 | cons x xs ih =>
  intro es fs v h
  cases es with
  | nil=>cases h
  | cons e es =>
   rw[List.cons_append];unfold fitA
   have h:xs.length=es.length:=by simpa using h
   simp only[ih h]
theorem qlz (h:(argsF f).length=args.length):fitA v args [f.f_a,f.f_b]=fitA v args (argsF f):=by
 unfold argsF at h ⊢;split
 .rename_i hb;rw[if_pos hb]at h;exact qhN (es:=[f.f_a]) (fs:=[f.f_b]) (by simpa using h.symm)
 rfl
theorem qgA {k:LA->LX} {a:qo} (ha:arg7 a.qa) (hl:a.qa.length<=2) {v:LA} (hv:V8 v) {B:Nat} {Q:LA->LA->Prop} (hk:∀ u,V8 u->∃ d,k u=some d/\d.length<=B/\∀ w,w∈d↔Q u w):∀ (gs:LH),(∀ g,g∈gs->okU1 g/\g.qm=a.qc/\(argsF g).length=a.qa.length) ->
  ∃ o,fitL k a v gs=some o/\o.length<=gs.length * B/\∀ w,w∈o↔∃ g u,g∈gs/\fitA v a.qa (argsF g)=some u/\Q u w
 | [],_=>⟨[],rfl,by simp,fun w=>by simp⟩
 | g::gs,h=>by
  obtain⟨o,h1,h2,h3⟩:=qgA ha hl hv hk gs fun q hq=>h q (A3 _ hq)
  obtain⟨g1,g2,g3⟩:=h g (A2 ..);obtain⟨p,p1,p2,p3⟩:=qjw (f:=g) (a:=a) g2.symm hv.1 ha hl;rw[qlz g3]at p2 p3;unfold fitL;rw[p1];simp only[A0]
  cases hf:fitA v a.qa (argsF g) with
  | none =>
   have:p.2=false:=by rw[<- Bool.not_eq_true,p2,hf];simp
   rw[this,cN];simp only[A0];rw[h1];simp only[A0];refine⟨_,rfl,by simp only[D0,A4,D7];omega,fun w=>?_⟩;rw[D0,h3];constructor
   .rintro⟨q,u,hq,r⟩;exact⟨q,u,A3 _ hq,r⟩
   rintro⟨q,u,hq,r1,r2⟩
   rcases List.mem_cons.1 hq with rfl | hq
   .rw[hf]at r1;cases r1
   exact⟨q,u,hq,r1,r2⟩
  | some u =>
   have:p.2=true:=by rw[p2,hf];rfl
   rw[this,cT,p3 u hf];obtain⟨hu,_,_⟩:=ZT hf hv ha (Vr g1);obtain⟨d,d1,d2,d3⟩:=hk u hu;rw[d1];simp only[A0];rw[h1];simp only[A0];refine⟨_,rfl,by rw[D1,A4,D7];omega,fun w=>?_⟩;rw[List.mem_append,d3,h3];constructor
   .rintro (q | ⟨q,u',hq,r⟩)
    .exact⟨g,u,A2 ..,hf,q⟩
    exact⟨q,u',A3 _ hq,r⟩
   rintro⟨q,u',hq,r1,r2⟩
   rcases List.mem_cons.1 hq with rfl | hq
   .rw[hf]at r1;cases r1;exact .inl r2
   exact .inr ⟨q,u',hq,r1,r2⟩
def arW (ar:Int->Nat) (P:rufact->Prop):Prop:=∀ g,P g->okU1 g/\(argsF g).length=ar g.qm
theorem qbX {ar:Int->Nat} {no:LB} (hno:NT no) {bl:Lf} {fs:LH} (hfs:fs.length<=252) (har:arW ar fun g=>g∈fs) (hbl:∀ rel,mget keq1 [] rel bl=fs.filter fun f=>f.qm == rel) {all:LS} (hall:∀ x,x∈all->fitP x.qe.qc x.qe.qa):∀ (body:LS) (v:LA),(∀ x,x∈body->fitP x.qe.qc x.qe.qa/\x.qe.qa.length=ar x.qe.qc)->V8 v ->
  ∃ d,tryP all no bl body v=some d/\d.length<=252 ^ body.length/\∀ w,w∈d↔InstP (fun g=>g∈fs) body v w/\FreeP (fun g=>g∈no.map A1) w all
 | [],v,_,hv=>by
  unfold tryP;rw[qep hno hv all hall];simp only[A0];refine⟨_,rfl,?_,fun w=>?_⟩
  .by_cases hq:FreeP (fun g=>g∈no.map A1) v all
   .rw[dT hq];simp
   rw[dF hq];simp
  show _↔w=v/\_;by_cases hq:FreeP (fun g=>g∈no.map A1) v all
  .rw[dT hq,cT,List.mem_singleton];exact⟨fun h=>⟨h,by rw[h];exact hq⟩,fun h=>h.1⟩
  rw[dF hq,cN];exact⟨fun h=>by simp at h,fun h=>absurd (h.1 ▸ h.2) hq⟩
 | x::body,v,h,hv=>by
  have hx:=h x (A2 ..)
  have ih:=fun u hu=>qbX hno hfs har hbl hall body u (fun y hy=>h y (A3 _ hy)) hu
  unfold tryP
  cases hn:x.qu with
  | true =>
   rw[cT];obtain⟨d,d1,d2,d3⟩:=ih v hv;refine⟨d,d1,by rw[A4,D8];omega,fun w=>?_⟩;rw[d3,InstP.eq_2];simp only[hn,true_and,Bool.true_eq_false,false_and,or_false]
  | false =>
   have hr:=YQ hx.1;rw[cN,Nw (NE (by have:=hr.1;omega) (by have:=hr.2;omega)),hbl]
   obtain⟨o,o1,o2,o3⟩:=qgA (k:=tryP all no bl body) (jY hx.1) hx.1.2.1.2 hv (B:=252 ^ body.length) (Q:=fun u w=>InstP (fun g=>g∈fs) body u w/\FreeP (fun g=>g∈no.map A1) w all) ih (fs.filter fun f=>f.qm == x.qe.qc) (fun g hg=>by
    obtain⟨g1,g2⟩:=List.mem_filter.1 hg
    have g2:g.qm=x.qe.qc:=by simpa using g2
    obtain⟨g3,g4⟩:=har g g1
    exact⟨g3,g2,by rw[g4,g2,hx.2]⟩)
   refine⟨o,o1,?_,fun w=>?_⟩
   .rw[A4,D8,Nat.mul_comm];have:(fs.filter fun f=>f.qm == x.qe.qc).length<=252:=E9 (F9 ..) hfs;exact E9 o2 (Nat.mul_le_mul_right _ this)
   rw[o3]
   have ei:InstP (fun g=>g∈fs) (x::body) v w↔∃ g u,g∈fs/\g.qm=x.qe.qc/\(argsF g).length=x.qe.qa.length/\fitA v x.qe.qa (argsF g)=some u/\InstP (fun g=>g∈fs) body u w:=by
    rw[InstP.eq_2];simp[hn]
   rw[ei];constructor
   .rintro⟨g,u,hg,h1,h2,h3⟩
    obtain⟨g1,g2⟩:=List.mem_filter.1 hg
    have g2:g.qm=x.qe.qc:=by simpa using g2
    exact⟨⟨g,u,g1,g2,by rw[(har g g1).2,g2,hx.2],h1,h2⟩,h3⟩
   rintro⟨⟨g,u,g1,g2,g3,h1,h2⟩,h3⟩
   exact⟨g,u,List.mem_filter.2 ⟨g1,by simp[g2]⟩,h1,h2,h3⟩
abbrev v0:LA:=D5 8 0
theorem V8_0:V8 v0:=⟨by simp,fun i=>by
 rw[A5,G0]
 split <;> simp⟩
def ClosedR (L:LJ) (N X:rufact->Prop):Prop:=∀ r,r∈L->∀ w,InstP X r.qd v0 w->FreeP N w r.qd->X (groundF w r.qf)
structure LeastR (L:LJ) (N G X:rufact->Prop):Prop where
 sub:∀ g,G g->X g
 closed:ClosedR L N X
 least:∀ Q:rufact->Prop,(∀ g,G g->Q g)->ClosedR L N Q->∀ g,X g->Q g
theorem LeastR.same {N N' G G' X X':rufact->Prop} (h:LeastR L N G X) (h':LeastR L N' G' X') (hN:∀ g,N g↔N' g) (hG:∀ g,G g↔G' g):∀ g,X g↔X' g:=by
 obtain rfl:N=N':=funext fun g=>propext (hN g)
 obtain rfl:G=G':=funext fun g=>propext (hG g)
 exact fun g=>⟨h.least X' h'.sub h'.closed g,h'.least X h.sub h.closed g⟩
def okL (ar:Int->Nat) (r:ruRule):Prop:=okU r/\∀ a,a∈atomsU r->a.qa.length=ar a.qc
theorem okL.body {r:ruRule} (h:okL ar r):∀ x,x∈r.qd->fitP x.qe.qc x.qe.qa/\x.qe.qa.length=ar x.qe.qc:=fun x hx =>
 have hm:x.qe∈atomsU r:=A3 _ (List.mem_map.2 ⟨x,hx,rfl⟩)
 ⟨h.1.2.2 _ hm,h.2 _ hm⟩
theorem okL.head {r:ruRule} (h:okL ar r):fitP r.qf.qc r.qf.qa/\r.qf.qa.length=ar r.qf.qc :=
 ⟨h.1.2.2 _ (A2 ..),h.2 _ (A2 ..)⟩
theorem okL.inst {r:ruRule} (h:okL ar r) (hP:okW P) (hi:InstP P r.qd v0 w):V8 w/\∀ a,a∈atomsU r->bnd w a.qa:=by
 obtain⟨a,b,c⟩:=DR hP hi V8_0 fun x hx=>jY (h.body x hx).1
 refine⟨a,fun t ht x hx h0=>?_⟩;obtain⟨y,y1,y2,y3⟩:=h.1.2.1 t ht x hx h0;exact c y y1 y2 x y3 h0
theorem okL.ground {r:ruRule} (h:okL ar r) (hP:okW P) (hi:InstP P r.qd v0 w):okU1 (groundF w r.qf)/\(argsF (groundF w r.qf)).length=ar (groundF w r.qf).qm:=by
 obtain⟨a,b⟩:=h.inst hP hi;obtain⟨c,d,e⟩:=JU a h.head.1 (b _ (A2 ..));refine⟨c,?_⟩;rw[d,e];unfold groundA;rw[A6,h.head.2]
theorem arW.ok (h:arW ar P):okW P:=fun g hg=>(h g hg).1
theorem VX {fs:LH} (hn:fs.Nodup) (ho:∀ g,g∈fs->okU1 g):fs.length<=252:=by
 have:=pig 252 (fs.map codeF) (by
  rw[List.nodup_iff_pairwise_ne,List.pairwise_map];refine List.Pairwise.imp_of_mem ?_ hn;intro a b ha hb hne h
  exact hne (UY (ho a ha) (ho b hb) h)) (fun x hx=>by
   obtain⟨g,hg,rfl⟩:=List.mem_map.1 hx
   exact QO (ho g hg))
 simpa using this
theorem qcJ {ar:Int->Nat} {no out:LB} (hno:NT no) (hout:NT out) (har:arW ar fun g=>g∈out.map A1):∀ (L:LJ) (acc:LH),(∀ r,r∈L->okL ar r)->acc.length+16003008 * L.length<=900000000 ->
  ∃ fr,freshL no out L acc=some fr/\∀ f,f∈fr↔f∈acc\/(f ∉ out.map A1/\∃ r,r∈L/\∃ w,InstP (fun g=>g∈out.map A1) r.qd v0 w/\FreeP (fun g=>g∈no.map A1) w r.qd/\f=groundF w r.qf)
 | [],acc,_,_=>⟨acc,rfl,fun f=>by simp⟩
 | r::L,acc,hr,hb=>by
  have h1:=hr r (A2 ..);rw[A4]at hb
  have hfs:=VX hout.n fun g hg=>(har g hg).1
  obtain⟨d,d1,d2,d3⟩:=qbX (bl:=byRelL out) hno (by simpa using hfs) har (fun rel=>Va rel out) (all:=r.qd) (fun x hx=>(h1.body x hx).1) r.qd v0 h1.body V8_0
  have hd:d.length<=16003008:=by
   have:252 ^ r.qd.length<=252 ^ 3:=E8 oM h1.1.1
   have e:252 ^ 3=16003008:=by decide
   omega
  have hg:∀ w,w∈d->qI w r.qf=some (groundF w r.qf)/\wfF (groundF w r.qf)=true:=fun w hw=>by
   obtain⟨a,_⟩:=h1.inst har.ok ((d3 w).1 hw).1;exact⟨Zl a.1 (jY h1.head.1) h1.head.1.2.1.2,VN a h1.head.1⟩
  have hh:headOk r.qf d=true:=by
   unfold headOk;rw[List.all_eq_true];intro w hw;obtain⟨a,b⟩:=hg w hw;rw[a];exact b
  have hlen:=DG out r.qf d;obtain⟨fr,f1,f2⟩:=qcJ hno hout har L (acc++headsP out r.qf d) (fun q hq=>hr q (A3 _ hq)) (by rw[D1];omega);refine⟨fr,?_,fun f=>?_⟩
  .unfold freshL;rw[Nw (dT (by have:=h1.1.1;omega)),d1];simp only[A0];rw[Nw (by rw[hh,dT (by omega)];rfl)];exact f1
  rw[f2,List.mem_append]
  have hm:f∈headsP out r.qf d↔f ∉ out.map A1/\∃ w,InstP (fun g=>g∈out.map A1) r.qd v0 w/\FreeP (fun g=>g∈no.map A1) w r.qd/\f=groundF w r.qf:=by
   unfold headsP;rw[List.mem_filterMap];constructor
   .rintro⟨w,hw,he⟩
    rw[(hg w hw).1]at he;simp only[A0]at he;split at he
    .cases he
    rename_i hq;cases he;exact⟨fun hm=>hq ((NT.mget hout.t _).2 hm),w,((d3 w).1 hw).1,((d3 w).1 hw).2,rfl⟩
   rintro⟨hn,w,h2,h3,rfl⟩
   have hw:=(d3 w).2 ⟨h2,h3⟩;refine⟨w,hw,?_⟩;rw[(hg w hw).1];simp only[A0];rw[if_neg (fun q=>hn ((NT.mget hout.t _).1 q))]
  rw[hm];constructor
  .rintro ((h | ⟨hn,w,hw⟩) | ⟨hn,q,hq,hw⟩)
   .exact .inl h
   .exact .inr ⟨hn,r,A2 ..,w,hw⟩
   exact .inr ⟨hn,q,A3 _ hq,hw⟩
  rintro (h | ⟨hn,q,hq,w,hw⟩)
  .exact .inl (.inl h)
  rcases List.mem_cons.1 hq with rfl | hq
  .exact .inl (.inr ⟨hn,w,hw⟩)
  exact .inr ⟨hn,q,hq,w,hw⟩
theorem qeA {ar:Int->Nat} {L:LJ} (hL:∀ r,r∈L->okL ar r) (hl:L.length<=12) {no:LB} (hno:NT no) {G:rufact->Prop}:∀ (n fuel:Nat) (out:LB),NT out->arW ar (fun g=>g∈out.map A1)->253<=out.length+n->n<=fuel->(∀ g,G g->g∈out.map A1)->(∀ Q:rufact->Prop,(∀ g,G g->Q g)->ClosedR L (fun g=>g∈no.map A1) Q->∀ g,g∈out.map A1->Q g) ->
  ∃ res,consR L no fuel out=some res/\NT res/\arW ar (fun g=>g∈res.map A1)/\LeastR L (fun g=>g∈no.map A1) G (fun g=>g∈res.map A1)
 | 0,fuel,out,hout,har,hn,hf,hG,hQ=>by
  have:=VX hout.n fun g hg=>(har g hg).1
  rw[A6]at this;omega
 | n+1,0,out,hout,har,hn,hf,hG,hQ=>by omega
 | n+1,fuel+1,out,hout,har,hn,hf,hG,hQ=>by
  have hsm:=VX hout.n fun g hg=>(har g hg).1
  rw[A6]at hsm;obtain⟨fr,f1,f2⟩:=qcJ hno hout har L [] hL (by simp;omega);unfold consR;rw[Nw (dT (by omega)),f1];simp only[A0]
  cases fr with
  | nil =>
   refine⟨out,rfl,hout,har,hG,fun r hr w h1 h2=>?_,hQ⟩
   refine Classical.byContradiction fun hq=>?_
   have:=(f2 (groundF w r.qf)).2 (.inr ⟨hq,r,hr,w,h1,h2,rfl⟩);simp at this
  | cons f fr =>
   obtain⟨a1,a2,a3,a4⟩:=hout.add (fr:=f::fr)
   have hmem:∀ g,g∈f::fr->g ∉ out.map A1/\∃ r,r∈L/\∃ w,InstP (fun g=>g∈out.map A1) r.qd v0 w/\FreeP (fun g=>g∈no.map A1) w r.qd/\g=groundF w r.qf:=fun g hg=>by
    rcases (f2 g).1 hg with h | h
    .simp at h
    exact h
   have hgrow:=a4 f (A2 ..) (hmem f (A2 ..)).1
   exact qeA hL hl hno n fuel (addF out (f::fr)) a1 (fun g hg=>by
    rcases (a2 g).1 hg with h | h
    .obtain⟨_,r,hr,w,h1,h2,rfl⟩:=hmem g h;exact (hL r hr).ground har.ok h1
    .exact har g h) oM oM (fun g hg=>(a2 g).2 (.inr (hG g hg))) (fun Q h1 h2 g hg=>by
    rcases (a2 g).1 hg with h | h
    .obtain⟨_,r,hr,w,q1,q2,rfl⟩:=hmem g h;exact h2 r hr w (Nv (hQ Q h1 h2) q1) q2
    exact hQ Q h1 h2 g h)
theorem okU1.wf (h:okU1 f):wfF f=true:=by
 have:=h.r0;have:=h.r5;have:=h.a1;have:=h.a6;have:=h.b0;have:=h.b6;unfold wfF;rw[NE (by omega) (by omega),NE (by omega) (by omega),NE (by omega) (by omega)];rfl
theorem qjA (hL:∀ r,r∈L->okL ar r) (hl:L.length<=12) {gv no:LB} (hgv:NT gv) (hno:NT no) (har:arW ar (fun g=>g∈gv.map A1)) {fuel:Nat} (hf:253<=fuel) :
  ∃ res,consP fuel L gv no=some res/\NT res/\arW ar (fun g=>g∈res.map A1)/\LeastR L (fun g=>g∈no.map A1) (fun g=>g∈gv.map A1) (fun g=>g∈res.map A1):=by
 have hsm:=VX hgv.n fun g hg=>(har g hg).1
 rw[A6]at hsm;obtain⟨a1,a2,a3,a4⟩:=NT.empty.add (fr:=gv.map A1)
 have hm:∀ g,g∈(addF [] (gv.map A1)).map A1↔g∈gv.map A1:=fun g=>by rw[a2];simp
 unfold consP
 rw[Nw (by
  rw[Bool.and_eq_true,List.all_eq_true,decide_eq_true_eq]
  exact⟨fun p hp=>(har p.1 (List.mem_map.2 ⟨p,hp,rfl⟩)).1.wf,by omega,by omega⟩)]
 exact qeA hL hl hno 253 fuel _ a1 (fun g hg=>har g ((hm g).1 hg)) oM hf (fun g hg=>(hm g).2 hg) (fun Q h1 h2 g hg=>h1 g ((hm g).1 hg))
def cntB:LI->Nat
 | []=>0
 | b::S=>(if b=true then 1 else 0)+cntB S
theorem qiF:∀ (S:LI),cntB S<=S.length
 | []=>by simp[cntB]
 | b::S=>by
  have:=qiF S;unfold cntB;rw[A4];split <;> omega
theorem qgE:∀ {S:LI} {n:Nat},n<S.length->S.getD n false=false->cntB (S.set n true)=cntB S+1
 | [],n,h,_=>by simp at h
 | b::S,0,h,hb=>by
  have hb:b=false:=hb;subst hb;show cntB (true::S)=cntB (false::S)+1;simp[cntB];omega
 | b::S,n+1,h,hb=>by
  have:=qgE (S:=S) (n:=n) (by simpa using h) (by simpa using hb);show cntB (b::S.set n true)=cntB (b::S)+1;unfold cntB;omega
theorem qkG {n:Nat} (hn:n<S.length) (m:Nat):(S.set n true).getD m false=if m=n then true else S.getD m false:=by
 simp only[A5];by_cases h:m=n
 .subst h;rw[F7 hn,if_pos rfl];rfl
 rw[F8 (fun q=>h q.symm),if_neg h]
theorem qch (hS:S.length=252) {g:rufact} (hg:okU1 g) (h:rufact):setB (S.set (codeF g) true) h↔setB S h\/h=g:=by
 have hlt:=QO hg;unfold setB;rw[qkG (by omega)];constructor
 .rintro⟨h1,h2⟩
  split at h2
  .rename_i he;exact .inr (UY h1 hg he)
  exact .inl ⟨h1,h2⟩
 rintro (⟨h1,h2⟩ | rfl)
 .refine⟨h1,?_⟩;split
  .rfl
  exact h2
 exact⟨hg,by rw[if_pos rfl]⟩
theorem qbS {ar:Int->Nat} {r:rf3Rule} (hr:okL ar (toR r)) {N:LI} (hN:N.length=252) (K:LI->Bool->Lm):∀ (ws:Li) (k:Nat) (S:LI) (ch:Bool),S.length=252->(∀ w,w∈ws->V8 w/\∀ a,a∈atomsU (toR r)->bnd w a.qa) ->
  ∃ S' ch',qT r N K ws k S ch=K S' ch'/\S'.length=252/\(∀ g,setB S' g↔setB S g\/∃ w,w∈ws/\FreeP (setB N) w (toR r).qd/\g=groundF w (toR r).qf)/\cntB S<=cntB S'/\(ch'=true->ch=true\/cntB S<cntB S')/\(ch'=false->ch=false/\S'=S)
 | [],k,S,ch,hS,_=>⟨S,ch,by rw[qT],hS,fun g=>by simp,Nat.le_refl _,.inl,fun h=>⟨h,rfl⟩⟩
 | w::ws,k,S,ch,hS,hw=>by
  obtain⟨w1,w2⟩:=hw w (A2 ..)
  have hw':∀ u,u∈ws->V8 u/\∀ a,a∈atomsU (toR r)->bnd u a.qa:=fun u hu=>hw u (A3 _ hu)
  have hh:=hr.head;have hgo:=(JU w1 hh.1 (w2 _ (A2 ..))).1;have hlt:=QO hgo
  have hbl:r.qd.length<=3:=by have:=hr.1.1;simpa[toR] using this
  have hgv:Xq r.qf w=some (codeF (groundF w (toR r).qf):Int):=VO w1 hh.1 (w2 _ (A2 ..))
  have hfr:=qcL w1 hN hbl fun x hx hn=>⟨(hr.body (toL x) (List.mem_map.2 ⟨x,hx,rfl⟩)).1,w2 (toL x).qe (A3 _ (List.mem_map.2 ⟨toL x,List.mem_map.2 ⟨x,hx,rfl⟩,rfl⟩))⟩
  have hgd:S[0+B1 (codeF (groundF w (toR r).qf):Int) * 1]? = some (S.getD (codeF (groundF w (toR r).qf)) false):=by
   rw[D3,A9,A8,A5,C0 (by omega)];rfl
  have hck:decide ((0:Int)<=(codeF (groundF w (toR r).qf):Int)/\(codeF (groundF w (toR r).qf):Int)<((252:Nat):Int)/\0<1)=true:=dT ⟨by omega,by omega,by omega⟩;rw[qT,Nw (dT w1.1),Nw (dT ⟨w1.1,by simp⟩),Nw (dT w1.1),hgv];simp only[A0];rw[Nw (dT w1.1),Nw (dT hN),hfr];simp only[A0];unfold Qj Ja;by_cases hq:FreeP (setB N) w (toR r).qd
  .rw[dT hq,cT,Nw hck,hgd];simp only[A0]
   cases hs:S.getD (codeF (groundF w (toR r).qf)) false with
   | true =>
    rw[C7,cN];obtain⟨S',ch',e1,e2,e3,e4,e5,e6⟩:=qbS hr hN K ws (k+1) S ch hS hw';refine⟨S',ch',e1,e2,fun g=>?_,e4,e5,e6⟩;rw[e3];constructor
    .rintro (h | ⟨u,hu,h⟩)
     .exact .inl h
     exact .inr ⟨u,A3 _ hu,h⟩
    rintro (h | ⟨u,hu,h,h2⟩)
    .exact .inl h
    rcases List.mem_cons.1 hu with rfl | hu
    .exact .inl ⟨by rw[h2];exact hgo,by rw[h2];exact hs⟩
    exact .inr ⟨u,hu,h,h2⟩
   | false =>
    rw[Bool.not_false,cT,Nw hck,Nw (dT (by omega)),D3,A9,A8];have hc:=qgE (S:=S) oM hs;obtain⟨S',ch',e1,e2,e3,e4,e5,e6⟩:=qbS hr hN K ws (k+1) (S.set (codeF (groundF w (toR r).qf)) true) true (by rw[D2,hS]) hw';refine⟨S',ch',e1,e2,fun g=>?_,by omega,fun _=>.inr oM,fun h=>absurd (e6 h).1 (by simp)⟩;rw[e3,qch hS hgo];constructor
    .rintro ((h | h) | ⟨u,hu,h⟩)
     .exact .inl h
     .exact .inr ⟨w,A2 ..,hq,h⟩
     exact .inr ⟨u,A3 _ hu,h⟩
    rintro (h | ⟨u,hu,h,h2⟩)
    .exact .inl (.inl h)
    rcases List.mem_cons.1 hu with rfl | hu
    .exact .inl (.inr h2)
    exact .inr ⟨u,hu,h,h2⟩
  rw[dF hq,cN,cN];obtain⟨S',ch',e1,e2,e3,e4,e5,e6⟩:=qbS hr hN K ws (k+1) S ch hS hw';refine⟨S',ch',e1,e2,fun g=>?_,e4,e5,e6⟩;rw[e3];constructor
  .rintro (h | ⟨u,hu,h⟩)
   .exact .inl h
   exact .inr ⟨u,A3 _ hu,h⟩
  rintro (h | ⟨u,hu,h,h2⟩)
  .exact .inl h
  rcases List.mem_cons.1 hu with rfl | hu
  .exact absurd h hq
  exact .inr ⟨u,hu,h,h2⟩
theorem Hq (S:LI):okW (setB S):=fun g h=>h.1
theorem qiD {ar:Int->Nat} {fuel:Nat} (hf:5<=fuel) {N:LI} (hN:N.length=252) (N1:LI->Bool->Lm):∀ (L:LN) (k:Nat) (S:LI) (ch:Bool),(∀ r,r∈L->okL ar (toR r))->S.length=252->arW ar (setB S) ->
  ∃ S' ch',qC fuel N N1 L k S ch=N1 S' ch'/\S'.length=252/\arW ar (setB S')/\(∀ g,setB S g->setB S' g)/\cntB S<=cntB S'/\(ch'=true->ch=true\/cntB S<cntB S')/\(ch'=false->ch=false/\S'=S/\ClosedR (L.map toR) (setB N) (setB S))/\(∀ Q:rufact->Prop,(∀ g,setB S g->Q g)->ClosedR (L.map toR) (setB N) Q->∀ g,setB S' g->Q g)
 | [],k,S,ch,_,hS,har=>⟨S,ch,by rw[qC],hS,har,fun g h=>h,Nat.le_refl _,.inl,fun h=>⟨h,rfl,fun r hr=>by simp at hr⟩,fun Q h _=>h⟩
 | r::L,k,S,ch,hL,hS,har=>by
  have hr:=hL r (A2 ..)
  have hbl:r.qd.length<=3:=by have:=hr.1.1;simpa[toR] using this
  have hiv:=YO (r:=r) hbl (fun x hx=>by
   have:=(hr.body (toL x) (List.mem_map.2 ⟨x,hx,rfl⟩)).1
   exact⟨jY this,this.2.1.2⟩) hS r.qd.length fuel 0 v0 oM oM (by simp)
  rw[List.drop_zero]at hiv;replace hiv:qA fuel r S 0 (D5 8 0)=some (instR S (r.qd.map toL) v0):=hiv
  have hmem:∀ w,w∈instR S (r.qd.map toL) v0↔InstP (setB S) (toR r).qd v0 w:=fun w=>VL _ _ _
  have hlen:(instR S (r.qd.map toL) v0).length<=16003008:=by
   have h1:=VM S (r.qd.map toL) v0;rw[A6]at h1;have h2:252 ^ r.qd.length<=252 ^ 3:=E8 oM hbl
   have:252 ^ 3=16003008:=by decide
   omega
  rw[qC,Nw (dT hS),hiv];simp only[A0];rw[Nw (qM (by omega))]
  obtain⟨S1,c1,e1,e2,e3,e4,e5,e6⟩:=qbS hr hN (qZ (qC fuel N N1 L (k+1))) (instR S (r.qd.map toL) v0) 0 S ch hS fun w hw=>hr.inst (Hq S) ((hmem w).1 hw)
  rw[e1];unfold qZ
  have har1:arW ar (setB S1):=fun g hg=>by
   rcases (e3 g).1 hg with h | ⟨w,hw,_,rfl⟩
   .exact har g h
   exact hr.ground (Hq S) ((hmem w).1 hw)
  obtain⟨S2,c2,g1,g2,g3,g4,g5,g6,g7,g8⟩:=qiD hf hN N1 L (k+1) S1 c1 (fun q hq=>hL q (A3 _ hq)) e2 har1;refine⟨S2,c2,g1,g2,g3,fun g h=>g4 g ((e3 g).2 (.inl h)),by omega,fun h=>?_,fun h=>?_,fun Q h1 h2=>?_⟩
  .rcases g6 h with h | h
   .rcases e5 h with h | h
    .exact .inl h
    exact .inr oM
   exact .inr oM
  .obtain⟨a1,a2,a3⟩:=g7 h;obtain⟨b1,b2⟩:=e6 a1;subst b2;refine⟨b1,a2,fun q hq w hw hfr=>?_⟩;rw[A7]at hq
   rcases List.mem_cons.1 hq with rfl | hq
   .exact (e3 _).2 (.inr ⟨w,(hmem w).2 hw,hfr,rfl⟩)
   exact a3 q hq w hw hfr
  refine g8 Q (fun g hg=>?_) (fun q hq=>h2 q (by rw[A7];exact A3 _ hq))
  rcases (e3 g).1 hg with h | ⟨w,hw,hfr,rfl⟩
  .exact h1 g h
  exact h2 (toR r) (by rw[A7];exact A2 ..) w (Nv h1 ((hmem w).1 hw)) hfr
theorem qiE {ar:Int->Nat} {fuel:Nat} (hf:5<=fuel) {L:LN} (hl:L.length<=12) (hL:∀ r,r∈L->okL ar (toR r)) {N:LI} (hN:N.length=252) {G:rufact->Prop} (K:LI->Lm):∀ (n m:Nat) (S:LI),S.length=252->arW ar (setB S)->253<=cntB S+n->n+1<=m->(∀ g,G g->setB S g)->(∀ Q:rufact->Prop,(∀ g,G g->Q g)->ClosedR (L.map toR) (setB N) Q->∀ g,setB S g->Q g) ->
  ∃ S',qx fuel L N K m S true=K S'/\S'.length=252/\arW ar (setB S')/\LeastR (L.map toR) (setB N) G (setB S')
 | 0,m,S,hS,har,hn,hm,hG,hQ=>by have:=qiF S;omega
 | n+1,0,S,hS,har,hn,hm,hG,hQ=>by omega
 | n+1,m+1,S,hS,har,hn,hm,hG,hQ=>by
  obtain⟨S2,c2,g1,g2,g3,g4,g5,g6,g7,g8⟩:=qiD hf hN (qx fuel L N K m) L 0 S false hL hS har;rw[qx,cT,Nw (qM (by omega)),g1]
  cases c2 with
  | true =>
   rcases g6 rfl with h | h
   .cases h
   exact qiE hf hl hL hN K n m S2 g2 g3 oM oM (fun g hg=>g4 g (hG g hg)) (fun Q h1 h2=>g8 Q (hQ Q h1 h2) h2)
  | false =>
   obtain⟨_,rfl,h3⟩:=g7 rfl
   match m,hm with
   | m+1,_ =>
    rw[qx,cN];exact⟨S2,rfl,g2,g3,hG,h3,hQ⟩
theorem qdU {fuel:Nat} (hf:300<=fuel) {L:LN} (hl:L.length<=12) (hL:∀ r,r∈L->okL ar (toR r)) {N:LI} (hS:S.length=252) (hN:N.length=252) (har:arW ar (setB S)) :
  ∃ S',JS fuel L S N=some S'/\S'.length=252/\arW ar (setB S')/\LeastR (L.map toR) (setB N) (setB S) (setB S'):=by
 obtain⟨S',e1,e2,e3,e4⟩:=qiE (by omega:5<=fuel) hl hL hN (G:=setB S) qD 253 fuel S hS har oM oM (fun g h=>h) (fun Q h _=>h);refine⟨S',?_,e2,e3,e4⟩;unfold JS;rw[Nw (by cases S <;> simp_all),Nw (by cases N <;> simp_all),e1];unfold qD;rw[Nw (dT e2),Nw (dT ⟨e2,by simp⟩),Nw (dT e2)]
structure StR (ar:Int->Nat) (out:LB) (S:LI):Prop where
 nt:NT out
 ar:arW ar (fun g=>g∈out.map A1)
 len:S.length=252
 same:∀ g,g∈out.map A1↔setB S g
theorem StR.arB (h:StR ar out S):arW ar (setB S):=fun g hg=>h.ar g ((h.same g).2 hg)
theorem qiM {fuel:Nat} (hf:300<=fuel) {L:LN} (hl:L.length<=12) (hL:∀ r,r∈L->okL ar (toR r)) (h:StR ar out S) :
  ∃ out' S',consP fuel (L.map toR) out out=some out'/\JS fuel L S S=some S'/\StR ar out' S':=by
 obtain⟨out',a1,a2,a3,a4⟩:=qjA (L:=L.map toR) (fun r hr=>by
  obtain⟨q,hq,rfl⟩:=List.mem_map.1 hr
  exact hL q hq) (by rw[A6];exact hl) h.nt h.nt h.ar (by omega:253<=fuel)
 obtain⟨S',b1,b2,b3,b4⟩:=qdU hf hl hL h.len h.len h.arB;exact⟨out',S',a1,b1,a2,a3,b2,a4.same b4 h.same h.same⟩
theorem qjd {fuel:Nat} (hf:300<=fuel) (h:StR ar out S):∃ S',JS fuel [] S S=some S'/\StR ar out S':=by
 obtain⟨S',b1,b2,b3,b4⟩:=qdU (L:=[]) hf (by simp) (fun r hr=>by simp at hr) h.len h.len h.arB;refine⟨S',b1,h.nt,h.ar,b2,fun g=>?_⟩;rw[h.same];exact⟨b4.sub g,b4.least (setB S) (fun g h=>h) (fun r hr=>by simp at hr) g⟩
def inS (v:LA) (k:Nat) (r:rf3Rule):Bool:=v.getD r.qf.qc.toNat 0 == (k:Int)
def partS (v:LA) (k:Nat) (l:LN):LN:=l.filter (inS v k)
theorem idx6 (hv:v.length=6) {n:Int} (h:rel6 n):idx v n=some (v.getD n.toNat 0):=by
 have:=h.1;have:=h.2;unfold idx;rw[if_pos h.1,A5,C0 (by omega)];rfl
theorem qaT {v:LA} (hv:v.length=6) {b:Bool} (k1:Nat) (K:LJ->Ll):∀ (l:LN) (k:Nat) (acc:LJ),(∀ r,r∈l->rel6 r.qf.qc)->acc.length+l.length<=1000->QA k1 (v,b) K (l.map toR) k acc=K (acc++(partS v k1 l).map toR)
 | [],k,acc,_,_=>by rw[List.map_nil,QA];simp[partS]
 | r::l,k,acc,h,hl=>by
  have hr:=h r (A2 ..)
  have h':∀ q,q∈l->rel6 q.qf.qc:=fun q hq=>h q (A3 _ hq)
  rw[A4]at hl;rw[A7,QA];show (idx v r.qf.qc).bind _=_;rw[idx6 hv hr];simp only[A0];unfold Zs partS;rw[List.filter_cons]
  cases hq:inS v k1 r with
  | true =>
   have hq':(v.getD r.qf.qc.toNat 0 == (k1:Int))=true:=hq;rw[hq',cT,Nw (QP (by omega) (by simp;omega)),qaT hv k1 K l (k+1) _ h' (by simp;omega)];simp[partS]
  | false =>
   have hq':(v.getD r.qf.qc.toNat 0 == (k1:Int))=false:=hq;rw[hq',cN,qaT hv k1 K l (k+1) _ h' (by omega)];simp[partS]
theorem Ht {v:LA} (hv:v.length=6) {b:Int} (k1:Nat) (K:LN->Lo):∀ (l:LN) (k:Nat) (acc:LN),(∀ r,r∈l->rel6 r.qf.qc)->acc.length+l.length<=1000->Qe k1 (v,b) K l k acc=K (acc++partS v k1 l)
 | [],k,acc,_,_=>by rw[Qe];simp[partS]
 | r::l,k,acc,h,hl=>by
  have hr:=h r (A2 ..)
  have h':∀ q,q∈l->rel6 q.qf.qc:=fun q hq=>h q (A3 _ hq)
  rw[A4]at hl;rw[Qe];show (idx v r.qf.qc).bind _=_;rw[idx6 hv hr];simp only[A0];unfold YI partS;rw[List.filter_cons]
  cases hq:inS v k1 r with
  | true =>
   have hq':(v.getD r.qf.qc.toNat 0 == (k1:Int))=true:=hq;rw[hq',cT,Nw (QP (by omega) (by simp;omega)),Ht hv k1 K l (k+1) _ h' (by simp;omega)];simp[partS]
  | false =>
   have hq':(v.getD r.qf.qc.toNat 0 == (k1:Int))=false:=hq;rw[hq',cN,Ht hv k1 K l (k+1) _ h' (by omega)];simp[partS]
theorem qin {ar:Int->Nat} {fuel:Nat} (hf:300<=fuel) {l:LN} (hl:l.length<=12) (hr:∀ r,r∈l->rel6 r.qf.qc) {v:LA} (hv:v.length=6) {b:Int}:∀ (L:LQ) (k:Nat) (out:LB) (S:LI),StR ar out S->(∀ j,k<=j->partS v j l=[]) ->
  ∃ S',Ji fuel l (v,b) JB L k S=some (S',0)/\StR ar out S'
 | [],k,out,S,h,_=>by
  refine⟨S,?_,h⟩;rw[Ji];unfold JB;rw[Nw (dT h.len),Nw (dT ⟨h.len,by simp⟩),Nw (dT h.len)]
 | x::L,k,out,S,h,he=>by
  obtain⟨S1,s1,s2⟩:=qjd hf h
  obtain⟨S2,q1,q2⟩:=qin hf hl hr hv L (k+1) out S1 s2 fun j hj=>he j oM
  refine⟨S2,?_,q2⟩;rw[Ji,Nw (qM (by omega)),Ht hv k _ l 0 [] hr (by simp;omega),he k (by omega)];unfold Xj;rw[Nw (dT h.len),Nw (dT h.len),List.append_nil,s1];simp only[A0];rw[Nw (dT ⟨s2.len,h.len⟩)];exact q1
theorem qgc {ar:Int->Nat} {fuel:Nat} (hf:300<=fuel) {l:LN} (hl:l.length<=12) (hL:∀ r,r∈l->okL ar (toR r)) {v:LA} (hv:v.length=6) {b:Int} {c:Bool}:∀ (L L':LQ) (k:Nat) (out:LB) (S:LI),StR ar out S->L.length<=L'.length->(∀ j,k+L.length<=j->partS v j l=[]) ->
  ∃ out' S',Qh fuel (l.map toR) (v,c) QY L k out=some (out',true)/\Ji fuel l (v,b) JB L' k S=some (S',0)/\StR ar out' S'
 | [],L',k,out,S,h,_,he=>by
  obtain⟨S',s1,s2⟩:=qin (b:=b) hf hl (fun r hr=>YQ (hL r hr).head.1) hv L' k out S h fun j hj=>he j (by simpa using hj)
  exact⟨out,S',by rw[Qh];rfl,s1,s2⟩
 | x::L,[],k,out,S,h,hlen,he=>by simp at hlen
 | x::L,y::L',k,out,S,h,hlen,he=>by
  have hrel:∀ r,r∈l->rel6 r.qf.qc:=fun r hr=>YQ (hL r hr).head.1
  have hp:(partS v k l).length<=12:=E9 (F9 ..) hl;obtain⟨o1,S1,a1,a2,a3⟩:=qiM hf hp (fun r hr=>hL r (List.mem_filter.1 hr).1) h
  obtain⟨o2,S2,b1,b2,b3⟩:=qgc hf hl hL hv (b:=b) (c:=c) L L' (k+1) o1 S1 a3 (by simpa using hlen) fun j hj=>he j (by rw[A4];omega)
  refine⟨o2,S2,?_,?_,b3⟩
  .rw[Qh,Nw (qM (by rw[A6];omega)),qaT hv k _ l 0 [] hrel (by simp;omega)];unfold Yn Vs;rw[D0,a1];simp only[A0];exact b1
  rw[Ji,Nw (qM (by omega)),Ht hv k _ l 0 [] hrel (by simp;omega)];unfold Xj;rw[Nw (dT h.len),Nw (dT h.len),D0,a2];simp only[A0];rw[Nw (dT ⟨a3.len,h.len⟩)];exact b2
def toF (f:apiFact):rufact:=mkF f.qc f.qa
theorem XY {f:apiFact} (h:groundP f):okU1 (toF f)/\argsF (toF f)=f.qa:=qku h.1 h.2.1 h.2.2
theorem qfd {f:apiFact} (h:groundP f):Ni f=some (toF f):=by
 have e:f=apiF (toF f):=by rw[VS,(XY h).2];rfl
 calc Ni f=Ni (apiF (toF f)):=by rw[<- e]
  _=some (toF f):=qlv
theorem HX (K:LB->Option LB):∀ (l:LG) (k:Nat) (acc:LB),(∀ f,f∈l->groundP f)->NT acc->acc.length+l.length<=1000->Xy K l k acc=K (addF acc (l.map toF))
 | [],k,acc,_,_,_=>by rw[Xy];rfl
 | f::l,k,acc,h,hn,hl=>by
  have hf:=h f (A2 ..);rw[A4]at hl;have hw:=(XY hf).1.wf;unfold wfF at hw;obtain⟨m1,m2,m3,m4⟩:=hn.mset (toF f)
  have hlen:(mset qh (toF f) true acc).length<=acc.length+1:=by
   by_cases hm:toF f∈acc.map A1
   .have:∀ {l:LB},toF f∈l.map A1->(mset qh (toF f) true l).length=l.length:=by
     intro l
     induction l with
     | nil=>intro h;simp at h
     | cons p r ih =>
      intro h;unfold mset
      cases hq:qh p.1 (toF f) with
      | true=>rfl
      | false =>
       rw[cN,A4,A4,ih];rw[A7]at h
       rcases List.mem_cons.1 h with h | h
       .exact absurd h.symm (Zk.1 hq)
       exact h
    rw[this hm];omega
   rw[m4 hm];omega
  rw[Xy,qfd hf];simp only[A0];rw[Nw hw,Nw (by rw[Nat.blt_eq];omega),HX K l (k+1) _ (fun g hg=>h g (A3 _ hg)) m1 (by omega)];rfl
theorem qkc (K:LI->Lm):∀ (l:LG) (k:Nat) (S:LI),(∀ f,f∈l->groundP f)->S.length=252->∃ S',Zh K l k S=K S'/\S'.length=252/\∀ g,setB S' g↔setB S g\/g∈l.map toF
 | [],k,S,_,hS=>⟨S,by rw[Zh],hS,fun g=>by simp⟩
 | f::l,k,S,h,hS=>by
  have hf:=h f (A2 ..);obtain⟨h1,h2⟩:=XY hf;have hlt:=QO h1;obtain⟨S',e1,e2,e3⟩:=qkc K l (k+1) (S.set (codeF (toF f)) true) (fun g hg=>h g (A3 _ hg)) (by rw[D2,hS]);refine⟨S',?_,e2,fun g=>?_⟩
  .have hc:=qcV h1;rw[h2]at hc;replace hc:Qq f.qc f.qa=_:=hc;rw[Zh,hc];simp only[A0];rw[Nw (dT ⟨by omega,by omega,by omega⟩),Nw (dT (by omega)),D3,A9,A8];exact e1
  rw[e3,qch hS h1,A7,D4];constructor
  .rintro ((h | h) | h)
   .exact .inl h
   .exact .inr (.inl h)
   exact .inr (.inr h)
  rintro (h | h | h)
  .exact .inl (.inl h)
  .exact .inl (.inr h)
  exact .inr h
theorem DJ {l:LG} (hl:l.length<=100) (h:∀ f,f∈l->groundP f) (har:∀ f,f∈l->f.qa.length=ar f.qc):∃ out S,YE l=some out/\qaU l=some S/\StR ar out S:=by
 obtain⟨S,e1,e2,e3⟩:=qkc VG l 0 (D5 252 false) h (by simp);obtain⟨a1,a2,a3,a4⟩:=NT.empty.add (fr:=l.map toF)
 have hm:∀ g,g∈(addF [] (l.map toF)).map A1↔g∈l.map toF:=fun g=>by rw[a2];simp
 have h0:∀ g,¬ setB (D5 252 false) g:=fun g hg=>by
  have:=hg.2;rw[A5,G0]at this;split at this <;> simp at this
 refine⟨addF [] (l.map toF),S,?_,?_,a1,fun g hg=>?_,e2,fun g=>?_⟩
 .unfold YE;rw[Nw (qM (by omega)),HX _ l 0 [] h NT.empty (by simp;omega)];rfl
 .unfold qaU;rw[Nw (qM (by omega)),e1];unfold VG;rw[Nw (dT e2),Nw (dT ⟨e2,by simp⟩),Nw (dT e2)]
 .obtain⟨f,hf,rfl⟩:=List.mem_map.1 ((hm g).1 hg);obtain⟨h1,h2⟩:=XY (h f hf);exact⟨h1,by rw[h2];exact har f hf⟩
 rw[hm,e3];exact⟨.inr,fun q=>q.resolve_left (h0 g)⟩
def arOf (S:Lg) (rel:Int):Nat:=match S.find? fun s=>s.f_0 == rel with
 | some s=>s.f_1.toNat
 | none=>1
theorem qgQ {S:Lg} (hS:conP S) {s:qq} (hs:s∈S):arOf S s.f_0=s.f_1.toNat:=by
 unfold arOf
 cases hf:S.find? fun t=>t.f_0 == s.f_0 with
 | none =>
  have:=List.find?_eq_none.1 hf s hs;simp at this
 | some t =>
  have h1:=List.mem_of_find?_eq_some hf
  have h2:t.f_0=s.f_0:=by simpa using List.find?_some hf
  show t.f_1.toNat=s.f_1.toNat;rw[hS t h1 s hs h2]
abbrev szVR (l:LN) (facts:LG):Lg:=facts.map szF++l.flatMap sizesR
abbrev arVR (l:LN) (facts:LG):Int->Nat:=arOf (szVR l facts)
theorem VR.facts_ar (h:VR l facts):∀ f,f∈facts->f.qa.length=arVR l facts f.qc:=fun f hf=>by
 have:=qgQ h.2.2.2.2 (s:=szF f) (List.mem_append_left _ (List.mem_map.2 ⟨f,hf,rfl⟩));show _=arOf _ (szF f).f_0;rw[this];rfl
theorem VR.okL {l:LN} {facts:LG} (h:VR l facts):∀ r,r∈l->okL (arVR l facts) (toR r):=fun r hr=>by
 have h1:=h.2.2.2.1 r hr
 have h2:okU (toR r):=by rw[<- qkQ h1];exact (qiq r).2 h1
 refine⟨h2,fun a ha=>?_⟩
 have key:∀ t:rf2Atom,szA t∈sizesR r->t.qa.length=arVR l facts t.qc:=fun t ht=>by
  have:=qgQ h.2.2.2.2 (s:=szA t) (List.mem_append_right _ (List.mem_flatMap.2 ⟨r,hr,ht⟩));show _=arOf _ (szA t).f_0;rw[this];rfl
 rcases List.mem_cons.1 ha with rfl | ha
 .exact key r.qf (A2 ..)
 obtain⟨x,hx,rfl⟩:=List.mem_map.1 ha;obtain⟨y,hy,rfl⟩:=List.mem_map.1 hx;exact key y.qe (A3 _ (List.mem_map.2 ⟨y,hy,rfl⟩))
theorem qkh (h:∀ r,r∈l->Go.AM.okL ar (toR r)):relsR l:=fun r hr=>by
 have h1:=h r hr;refine⟨YQ h1.head.1,by have:=h1.1.1;simpa[toR] using this,fun b hb=>YQ (h1.body (toL b) (List.mem_map.2 ⟨b,hb,rfl⟩)).1⟩
theorem qkg (h:∀ r,r∈l->Go.AM.okL ar (toR r)):relsU (l.map toR):=fun q hq=>by
 obtain⟨r,hr,rfl⟩:=List.mem_map.1 hq;have h1:=h r hr;exact⟨YQ h1.head.1,h1.1.1,fun b hb=>YQ (h1.body b hb).1⟩
theorem qkP (l:LN):edgesU (l.map toR)=edgesR l:=by
 unfold edgesU edgesR;rw[List.flatMap_map];simp only[toR,List.map_map,Function.comp_def,toL,toA]
theorem qhA {fuel:Nat} (hf:300<=fuel) (hl:l.length<=10) (hL:∀ r,r∈l->Go.AM.okL ar (toR r)) (h2:facts.length<=100) (h3:∀ f,f∈facts->groundP f) (har:∀ f,f∈facts->f.qa.length=ar f.qc) :
  (∃ out S,Ye fuel (l.map toR) facts=some (out,true)/\ZL fuel l facts=some (S,0)/\StR ar out S)\/(Ye fuel (l.map toR) facts=some ([],false)/\ZL fuel l facts=some (D5 252 false,8)):=by
 obtain⟨o0,S0,g1,g2,g3⟩:=DJ h2 h3 har
 rcases qfD (by omega:100<=fuel) hl (by rw[A6];exact hl) (qkh hL) (qkg hL) (qkP l) with ⟨v,hv,_,s1,s2⟩ | ⟨s1,s2⟩
 .left;obtain⟨M,m1,m2,m3⟩:=qgd (by omega:10<=fuel) hv.1;obtain⟨i,hi,he⟩:=List.getElem_of_mem m2
  have hM:0<=M/\M<=5:=by
   have:=hv.2 i;rw[A5,C0 hi]at this;rw[<- he];exact this
  have hn:(E0 (B1 (D9 .i64 (M+1)))).length=M.toNat+1:=by
   rw[wrap64 (by omega) (by omega),List.length_range];omega
  obtain⟨o,S,a1,a2,a3⟩:=qgc (b:=0) (c:=true) hf (by omega:l.length<=12) hL hv.1 (E0 (B1 (D9 .i64 (M+1)))) (E0 (B1 6)) 0 o0 S0 g3 (by rw[hn,List.length_range];omega) (fun j hj=>by
   rw[hn]at hj;unfold partS;rw[List.filter_eq_nil_iff];intro r hr hq;have hrr:rel6 r.qf.qc:=YQ (hL r hr).head.1;have:=m3 r.qf.qc.toNat (by have:=hrr.1;have:=hrr.2;omega)
   have hq:v.getD r.qf.qc.toNat 0=(j:Int):=by simpa[inS] using hq
   omega)
  refine⟨o,S,?_,?_,a3⟩
  .unfold Ye;rw[s2];simp only[A0,C7,cN];rw[g1];simp only[A0];rw[m1];simp only[A0];rw[Nw (qM (by rw[hn];omega))];exact a1
  unfold ZL;rw[s1];simp only[A0];rw[g2];simp only[A0];rw[Nw (dT ⟨g3.len,by simp⟩)];simp only[bne_self_eq_false,cN];rw[Nw (qM (by simp))];exact a2
 right;refine⟨?_,?_⟩
 .unfold Ye;rw[s2];rfl
 unfold ZL;rw[s1];simp only[A0];rw[g2];simp only[A0];rw[Nw (dT ⟨g3.len,by simp⟩)];rfl
end Go.AM
namespace Go.AM
open Go.Proofs Go.Sort
open Classical
def keyOf (n:Nat):LA:=(decF n).qm::argsF (decF n)
theorem qiV {f:apiFact} (h:f.qa.length<=1000):Za f f=some true:=by
 have key:∀ (r:LA) (k:Nat),(∃ p:LA,p.length=k/\f.qa=p++r)->JP f.qa XF r k=some true:=by
  intro r
  induction r with
  | nil=>intro k _;rw[JP];rfl
  | cons x r ih =>
   rintro k ⟨p,hp,h2⟩
   have hi:idx f.qa (k:Int)=some x:=by
    unfold idx;rw[if_pos (by omega),A8,h2,G1 (by omega),hp,Nat.sub_self];rfl
   rw[JP,hi];simp only[A0,bne_self_eq_false,cN];exact ih (k+1) ⟨p++[x],by simp[hp],by rw[h2];simp⟩
 unfold Za Vw;rw[beq_self_eq_true,cT,bne_self_eq_false,cN,Nw (qM (by omega)),key f.qa 0 ⟨[],rfl,rfl⟩];rfl
theorem qfK {l:LG} (hl:l.length<=1000) (h:∀ f,f∈l->f.qa.length<=1000):Uf l l=some true:=by
 have key:∀ (r:LG) (k:Nat),(∃ p:LG,p.length=k/\l=p++r)->jn l (fun y0 y1=>Za y0 y1) Jw r k=some true:=by
  intro r
  induction r with
  | nil=>intro k _;rw[jn];rfl
  | cons x r ih =>
   rintro k ⟨p,hp,h2⟩
   have hi:idx l (k:Int)=some x:=by
    unfold idx;rw[if_pos (by omega),A8,h2,G1 (by omega),hp,Nat.sub_self];rfl
   rw[jn,hi];simp only[A0];rw[qiV (h x (by rw[h2];simp))];simp only[A0,C7,cN];exact ih (k+1) ⟨p++[x],by simp[hp],by rw[h2];simp⟩
 unfold Uf QW;rw[bne_self_eq_false,cN,Nw (qM (by omega)),key l 0 ⟨[],rfl,rfl⟩];rfl
abbrev awR:LJ:=[(ruRule.mk (qo.mk 1 [0]) [(ruLit.mk false (qo.mk 0 [0]))])]
abbrev awF:LG:=[(apiFact.mk 0 [3])]
theorem qgK (n:Nat):Yc (n+30) awR awF=some true:=by rfl
theorem qgL (n:Nat):Ye (n+30) awR awF=some ([(⟨0,3,0⟩,true),(⟨1,3,0⟩,true)],true):=by rfl
theorem qhT:sortF (apis [((⟨0,3,0⟩:rufact),true),(⟨1,3,0⟩,true)])=[⟨0,[3]⟩,⟨1,[3]⟩]:=by
 show sortF [⟨0,[3]⟩,⟨1,[3]⟩]=_;unfold sortF;refine List.mergeSort_of_pairwise ?_;simp only[List.pairwise_cons,D4,List.not_mem_nil,or_false,forall_eq,false_implies,implies_true,List.Pairwise.nil,and_true,Bool.not_eq_true'];rw[ltFf]
 decide
theorem qhU:Vg [((⟨0,3,0⟩:rufact),true),(⟨1,3,0⟩,true)]=some [⟨0,[3]⟩,⟨1,[3]⟩]:=by
 unfold Vg;rw[Nw (by rfl),qhT]
theorem qjG (n:Nat):QS (n+30)=some true:=by
 unfold QS qaf;rw[qgK];simp only[A0,C7,cN];rw[qgL];simp only[A0,C7,cN];rw[qhU];simp only[A0];rw[show ((0:Int) == 0)=true from rfl,cT,qfK (by simp) (by simp)];rfl
end Go.AM
namespace Go.AM
open Go.Proofs Go.Proofs.Ytdghpfejmlpjhaa Go.ChangeShapes Go.WideShapes Go.ChangeAt Go.RowKit
abbrev wA (l:LA):Prop:=l.length<=maxLen/\∀ x,x∈l->wfI .i64 x=true
abbrev wAt (a:rf2Atom):Prop:=wfI .i64 a.qc=true/\wA a.qa
abbrev wFa (f:apiFact):Prop:=wfI .i64 f.qc=true/\wA f.qa
abbrev wRu (r:rf3Rule):Prop:=wAt r.qf/\r.qd.length<=maxLen/\∀ b,b∈r.qd->wAt b.qe
theorem qcs:Reads Try.prog 3 (AV.int .i64) (fun n=>wfI .i64 n=true):=qja (P:=Try.prog) (t:=3) (k:=.i64) kR
theorem qdR:Reads Try.prog 39 (encL 3 1 (AV.int .i64)) wA :=
 Ux kR kR (by decide) qcs (fun _=>rfl) (fun _=>rfl)
theorem qdS:Reads Try.prog 41 qP wFa :=
 Vz (P := Try.prog) (size := 2) (fs := #[Field.mk "Rel" 3 0 false "" "" 0, Field.mk "Args" 39 1 false "" "" 8]) (fun b : Int × LA × Unit => (⟨b.1, b.2.1⟩ : apiFact)) kR kR
  (Xh (f:=AV.int .i64) (ok:=fun n=>wfI .i64 n=true) (n:=1) (off':=1) rfl kR rfl qcs (Xh (f:=encL 3 1 (AV.int .i64)) (ok:=wA) (n:=1) (off':=2) rfl kR rfl qdR (UC rfl)))
  (fun b=>rfl) (fun b h=>⟨h.1,h.2.1⟩)
theorem qdT:Reads Try.prog 91 qbf wAt :=
 Vz (P := Try.prog) (size := 2) (fs := #[Field.mk "Rel" 3 0 false "" "" 0, Field.mk "Args" 39 1 false "" "" 8]) (fun b : Int × LA × Unit => (⟨b.1, b.2.1⟩ : rf2Atom)) kR kR
  (Xh (f:=AV.int .i64) (ok:=fun n=>wfI .i64 n=true) (n:=1) (off':=1) rfl kR rfl qcs (Xh (f:=encL 3 1 (AV.int .i64)) (ok:=wA) (n:=1) (off':=2) rfl kR rfl qdR (UC rfl)))
  (fun b=>rfl) (fun b h=>⟨h.1,h.2.1⟩)
theorem qki:Reads Try.prog 96 JL (fun b=>wAt b.qe) :=
 Vz (P := Try.prog) (size := 3) (fs := #[Field.mk "Not" 4 0 false "" "" 0, Field.mk "Atom" 91 1 false "" "" 8]) (fun b : Bool × rf2Atom × Unit => (⟨b.1, b.2.1⟩ : rf3Lit)) kR kR
  (Xh (f:=AV.bool) (ok:=fun _=>True) (n:=1) (off':=1) rfl kR rfl (qhj kR) (Xh (f:=qbf) (ok:=wAt) (n:=2) (off':=3) rfl kR rfl qdT (UC rfl)))
  (fun b=>rfl) (fun b h=>h.2.1)
theorem qjc:Reads Try.prog 92 (encL 96 3 JL) (fun l=>l.length<=maxLen/\∀ b,b∈l->wAt b.qe) :=
 Ux kR kR (by decide) qki (fun _=>rfl) (fun _=>rfl)
theorem qjb:Reads Try.prog 94 Jk wRu :=
 Vz (P := Try.prog) (size := 3) (fs := #[Field.mk "Head" 91 0 false "" "" 0, Field.mk "Body" 92 2 false "" "" 32]) (fun b : rf2Atom × Lp × Unit => (⟨b.1, b.2.1⟩ : rf3Rule)) kR kR
  (Xh (f:=qbf) (ok:=wAt) (n:=2) (off':=2) rfl kR rfl qdT (Xh (f:=encL 96 3 JL) (ok:=fun l=>l.length<=maxLen/\∀ b,b∈l->wAt b.qe) (n:=1) (off':=3) rfl kR rfl qjc (UC rfl)))
  (fun b=>rfl) (fun b h=>⟨h.1,h.2.1⟩)
theorem qhk:Reads Try.prog 22 (encL 94 3 Jk) (fun l=>l.length<=maxLen/\∀ r,r∈l->wRu r) :=
 Ux kR kR (by decide) qjb (fun _=>rfl) (fun _=>rfl)
theorem qhl:Reads Try.prog 23 (encL 41 2 qP) (fun l=>l.length<=maxLen/\∀ f,f∈l->wFa f) :=
 Ux kR kR (by decide) qdS (fun _=>rfl) (fun _=>rfl)
theorem HO {α:Type} {l:List α} (h:l.length<=maxLen):lenOk l=true:=Nat.ble_eq_true_of_le (by unfold maxLen at h;omega)
theorem own:ownKnob Try.prog.godebug=none:=by kernel_rfl
theorem mixed:Try.prog.follows .mixedOrders=true:=by kernel_rfl
theorem laid:laidOutB Try.prog=true:=by kernel_rfl
end Go.AM
namespace Go.AM
open Go.Proofs
variable {lev:Int->Nat} {L:LJ} {x:ruLit}
theorem Hw {l:LA} (h:wA l):okArgs l:=⟨HO h.1,h.2⟩
theorem qhv {l:LN} (h:l.length<=maxLen/\∀ r,r∈l->wRu r):okRules l :=
 ⟨HO h.1,fun r hr=>⟨⟨(h.2 r hr).1.1,Hw (h.2 r hr).1.2⟩,HO (h.2 r hr).2.1,fun b hb=>⟨((h.2 r hr).2.2 b hb).1,Hw ((h.2 r hr).2.2 b hb).2⟩⟩⟩
theorem qhw {l:LG} (h:l.length<=maxLen/\∀ f,f∈l->wFa f):okFacts l :=
 ⟨HO h.1,fun f hf=>⟨(h.2 f hf).1,Hw (h.2 f hf).2⟩⟩
theorem qjl {f:apiFact} (h:wFa f):okFact f:=⟨h.1,Hw h.2⟩
def bigFuel:Nat:=500
theorem big400:400<=bigFuel:=by decide
open Classical
theorem Hn {P Q:rufact->Prop}:∀ {body:LS} {v w:LA},(∀ x,x∈body->x.qu=false->∀ g,P g->g.qm=x.qe.qc->Q g)->InstP P body v w->InstP Q body v w
 | [],v,w,_,hi=>hi
 | x::body,v,w,h,hi=>by
  have h':=fun y (hy:y∈body)=>h y (A3 _ hy)
  rcases hi with ⟨hn,hi⟩ | ⟨hn,g,u,hg,h1,h2,h3,h4⟩
  .exact .inl ⟨hn,Hn h' hi⟩
  exact .inr ⟨hn,g,u,h x (A2 ..) hn g hg h1,h1,h2,h3,Hn h' h4⟩
def Strat (lev:Int->Nat) (L:LJ):Prop:=∀ r,r∈L->∀ x,x∈r.qd->lev x.qe.qc+(if x.qu=true then 1 else 0)<=lev r.qf.qc
theorem Strat.le (h:Strat lev L) {r:ruRule} (hr:r∈L) (hx:x∈r.qd):lev x.qe.qc<=lev r.qf.qc:=by
 have:=h r hr x hx;omega
theorem Strat.lt (h:Strat lev L) {r:ruRule} (hr:r∈L) (hx:x∈r.qd) (hn:x.qu=true):lev x.qe.qc<lev r.qf.qc:=by
 have:=h r hr x hx;rw[if_pos hn]at this;omega
def partU (lev:Int->Nat) (k:Nat) (L:LJ):LJ:=L.filter fun r=>lev r.qf.qc == k
theorem qaV {k:Nat} {r:ruRule}:r∈partU lev k L↔r∈L/\lev r.qf.qc=k:=by
 unfold partU;rw[List.mem_filter,beq_iff_eq]
def StepsP (lev:Int->Nat) (L:LJ):Nat->Nat->(rufact->Prop)->(rufact->Prop)->Prop
 | _,0,X,Y=>X=Y
 | k,n+1,X,Y=>∃ Z,LeastR (partU lev k L) X X Z/\StepsP lev L (k+1) n Z Y
theorem StepsP.spec {lev:Int->Nat} {L:LJ} (hs:Strat lev L):∀ (n k:Nat) (X Y:rufact->Prop),StepsP lev L k n X Y->(∀ r,r∈L->lev r.qf.qc<k+n) ->
  (∀ g,X g->Y g)/\(∀ g,Y g->lev g.qm<k->X g)/\(∀ r,r∈L->k<=lev r.qf.qc->∀ w,InstP Y r.qd v0 w->FreeP Y w r.qd->Y (groundF w r.qf)) /\
   ∀ Q:rufact->Prop,(∀ g,X g->Q g)->(∀ r,r∈L->k<=lev r.qf.qc->∀ w,InstP Q r.qd v0 w->FreeP Y w r.qd->Q (groundF w r.qf))->∀ g,Y g->Q g
 | 0,k,X,Y,h,hk=>by
  have h:X=Y:=h;subst h;exact⟨fun _ h=>h,fun _ h _=>h,fun r hr hq=>by have:=hk r hr;omega,fun Q h _ g hg=>h g hg⟩
 | n+1,k,X,Y,⟨Z,hZ,h⟩,hk=>by
  obtain⟨i1,i2,i3,i4⟩:=StepsP.spec hs n (k+1) Z Y h fun r hr=>by have:=hk r hr;omega
  have hZk:∀ g,Z g->X g\/lev g.qm=k:=hZ.least _ (fun g h=>.inl h) fun r hr w _ _=>.inr (qaV.1 hr).2
  have hlow:∀ g,Y g->lev g.qm<k->X g:=fun g hg hl=>by
   rcases hZk g (i2 g hg oM) with h | h
   .exact h
   omega
  have hXY:∀ g,X g->Y g:=fun g hg=>i1 g (hZ.sub g hg)
  have hfree:∀ r,r∈L->lev r.qf.qc=k->∀ w,FreeP X w r.qd->FreeP Y w r.qd:=fun r hr hl w hf x hx hn hy=>hf x hx hn (hlow _ hy (by
   have:=hs.lt hr hx hn;show lev x.qe.qc<k
   omega))
  refine⟨hXY,hlow,fun r hr hq w hi hf=>?_,fun Q h1 h2=>?_⟩
  .by_cases hl:lev r.qf.qc=k
   .refine i1 _ (hZ.closed r (qaV.2 ⟨hr,hl⟩) w (Hn (fun x hx hn g hg hrel=>i2 g hg ?_) hi) fun x hx hn hy=>hf x hx hn (hXY _ hy));have:=hs.le hr hx;rw[hrel];omega
   exact i3 r hr oM w hi hf
  refine i4 Q (hZ.least Q h1 fun r hr w hi hf=>?_) fun r hr hq=>h2 r hr oM
  obtain⟨hr,hl⟩:=qaV.1 hr;exact h2 r hr oM w hi (hfree r hr hl w hf)
theorem StepsP.stable (hs:Strat lev L) {n:Nat} {X Y:rufact->Prop} (h:StepsP lev L 0 n X Y) (hk:∀ r,r∈L->lev r.qf.qc<n):LeastR L Y X Y:=by
 obtain⟨i1,i2,i3,i4⟩:=StepsP.spec hs n 0 X Y h (by simpa using hk);exact⟨i1,fun r hr w=>i3 r hr (Nat.zero_le _) w,fun Q h1 h2=>i4 Q h1 fun r hr _ w=>h2 r hr w⟩
end Go.AM
namespace Go.AM
open Go.RowKit Go.Sort Go.Proofs Go.Lib
end Go.AM
namespace Go.AM
open Go.Proofs
end Go.AM
namespace Go.AM
open Go.Proofs
inductive ruProof where
 | mk (qp:Int) (qi:apiFact) (ql:(List ruProof))
def ruProof.qp:ruProof->Int
 | .mk a0 a1 a2=>a0
def ruProof.qi:ruProof->apiFact
 | .mk a0 a1 a2=>a1
def ruProof.ql:ruProof->(List ruProof)
 | .mk a0 a1 a2=>a2
mutual
def Xv:ruProof->AV
 | .mk a0 a1 a2=>.agg [.int .i64 a0,.int .i64 a1.qc,l3 none a1.qa,.lst 77 4 none (Ul a2)]
def Ul:List ruProof->LM
 | []=>[]
 | x::r=>Xv x::Ul r
end
def l77 (c:LP) (l:List ruProof):AV:=.lst 77 4 c (E7 Xv l)
theorem Hb:∀ l:List ruProof,Ul l=E7 Xv l
 | []=>by rw[Ul];rfl
 | x::r=>by rw[Ul,Hb r];rfl
theorem qaw (x:ruProof):Xv x=.agg [.int .i64 x.qp,.int .i64 x.qi.qc,l3 none x.qi.qa,l77 none x.ql]:=by
 obtain⟨a0,a1,a2⟩:=x;rw[Xv,Hb];rfl
inductive qw where
 | mk (qp:Int) (qi:apiFact) (ql:(List qw))
def qw.qp:qw->Int
 | .mk a0 a1 a2=>a0
def qw.qi:qw->apiFact
 | .mk a0 a1 a2=>a1
def qw.ql:qw->(List qw)
 | .mk a0 a1 a2=>a2
mutual
def js:qw->AV
 | .mk a0 a1 a2=>.agg [.int .i64 a0,.int .i64 a1.qc,l3 none a1.qa,.lst 85 4 none (Vp a2)]
def Vp:List qw->LM
 | []=>[]
 | x::r=>js x::Vp r
end
def l85 (c:LP) (l:List qw):AV:=.lst 85 4 c (E7 js l)
theorem ND:∀ l:List qw,Vp l=E7 js l
 | []=>by rw[Vp];rfl
 | x::r=>by rw[Vp,ND r];rfl
theorem XV (x:qw):js x=.agg [.int .i64 x.qp,.int .i64 x.qi.qc,l3 none x.qi.qa,l85 none x.ql]:=by
 obtain⟨a0,a1,a2⟩:=x;rw[js,ND];rfl
end Go.AM
namespace Go
open AM
abbrev Le:=List ruProof
end Go
