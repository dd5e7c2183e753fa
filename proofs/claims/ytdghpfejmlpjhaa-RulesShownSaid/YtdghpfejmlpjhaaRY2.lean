import Derived.Test.YtdghpfejmlpjhaaRL9
import Derived.Test.YtdghpfejmlpjhaaRows
set_option linter.all false
set_option maxRecDepth 100000
open Option renaming bind_some→A0
open Prod renaming fst→A1
open List renaming mem_cons_self→A2, mem_cons_of_mem→A3, length_cons→A4, length_map→A7, getD_eq_getElem?_getD→A8, map_cons→A9, replicate→B1, map→C0, getElem?_eq_getElem→D0, nil_append→D2, range→D4, length_append→D5, length_set→D6, mem_cons→D8, range'→D9, length_filter_le→F6, length_range→F7, drop_eq_getElem_cons→F8, getElem?_set_self→F9, getElem?_set_ne→G0, getElem?_replicate→G1, getElem?_append_right→G2
open Go.IntKind renaming wrap→A5
open Int renaming toNat→A6, toNat_natCast→C7
open Bool renaming not_true→D1
open Nat renaming mul_one→D3, zero_add→D7, succ_mul→E0, pow_succ→E7, le_trans→E8, pow_le_pow_right→E9
namespace Go.AM
open Go.Proofs
open Classical
variable {a:rf2Atom} {S:LM} {rel:Int} {args v w:LA} {f:rufact} {L:LH} {ar:Int->Nat} {P:rufact->Prop} {out:LB} {l:LN} {facts:LG}
def toA (a:rf2Atom):qo:=⟨a.qc,a.qa⟩
def toL (x:rf3Lit):ruLit:=⟨x.qw,toA x.qg⟩
def toR (r:rf3Rule):ruRule:=⟨toA r.qi,r.qe.map toL⟩
theorem qlq (h:fitP a.qc a.qa):cvA a=toA a:=by
 unfold cvA toA;rw[Dq h]
theorem qlo {r:rf3Rule} (h:okR r):cvR r=toR r:=by
 unfold cvR toR;rw[qlq h.1,List.take_of_length_le (by have:=h.2.1;omega)]
 congr 1
 refine List.map_congr_left fun x hx=>?_
 unfold cvL toL;rw[qlq (h.2.2.1 x hx)]
def InstP (P:rufact->Prop):LQ->LA->LA->Prop
 | [],v,w=>w=v
 | x::body,v,w=>(x.qw=true/\InstP P body v w)\/(x.qw=false/\∃ g u,P g/\g.qn=x.qg.qc/\(argsF g).length=x.qg.qa.length/\fitA v x.qg.qa (argsF g)=some u/\InstP P body u w)
def partR (S:LM) (rel:Int) (args v:LA) (G:LA->Li) (n:Nat):Li :=
 if S.getD n false=true/\(decF n).qn=rel/\(argsF (decF n)).length=args.length then (match fitA v args (argsF (decF n)) with | some u=>G u | none=>[]) else []
def instR (S:LM):LQ->LA->Li
 | [],v=>[v]
 | x::body,v=>if x.qw=true then instR S body v else (D9 0 252).flatMap (partR S x.qg.qc x.qg.qa v (instR S body))
theorem qgR {α β:Type} {f:α->List β} {B:Nat}:∀ {l:List α},(∀ x,x∈l->(f x).length<=B)->(l.flatMap f).length<=l.length * B
 | [],_=>by simp
 | a::l,h=>by
  have h1:=h a (A2 ..)
  have h2:=qgR (l:=l) fun x hx=>h x (A3 _ hx)
  rw[List.flatMap_cons,D5,A4,E0];omega
theorem qjL {G:LA->Li} {B:Nat} (h:∀ u,(G u).length<=B) (n:Nat):(partR S rel args v G n).length<=B:=by
 unfold partR;split
 .split
  .exact h _
  simp
 simp
theorem Vv (S:LM):∀ (body:LQ) (v:LA),(instR S body v).length<=252 ^ body.length
 | [],v=>by simp[instR]
 | x::body,v=>by
  unfold instR;split
  .have:=Vv S body v;rw[A4,E7];omega
  have:=qgR (l:=D9 0 252) (f:=partR S x.qg.qc x.qg.qa v (instR S body)) (B:=252 ^ body.length) fun n _=>qjL (Vv S body) n
  rw[List.length_range']at this;rw[A4,E7];omega
def setB (S:LM) (g:rufact):Prop:=okU1 g/\S.getD (codeF g) false=true
theorem Vu {S:LM}:∀ (body:LQ) (v w:LA),w∈instR S body v↔InstP (setB S) body v w
 | [],v,w=>by simp[instR,InstP]
 | x::body,v,w=>by
  unfold instR InstP
  cases hn:x.qw with
  | true=>simp[Vu body v w]
  | false =>
   simp only[Bool.false_eq_true,if_false,false_and,false_or,true_and];rw[List.mem_flatMap];constructor
   .rintro⟨n,hn,hw⟩
    have hn:n<252:=by have:=List.mem_range'_1.1 hn;omega
    unfold partR at hw;split at hw
    .rename_i hc
     cases hf:fitA v x.qg.qa (argsF (decF n)) with
     | none=>rw[hf]at hw;simp at hw
     | some u =>
      rw[hf]at hw;exact⟨decF n,u,⟨qlZ hn,by rw[qls hn];exact hc.1⟩,hc.2.1,hc.2.2,hf,(Vu body u w).1 hw⟩
    simp at hw
   rintro⟨g,u,hg,h1,h2,h3,h4⟩
   refine⟨codeF g,List.mem_range'_1.2 ⟨by omega,by have:=QM hg.1;omega⟩,?_⟩;unfold partR;rw[qdp hg.1,if_pos ⟨hg.2,h1,h2⟩,h3];exact (Vu body u w).2 h4
theorem Ho (w31:apiFact) (K:LA->Bool->La):∀ (args:LA) (k:Nat) (v:LA),arg7 args->k+args.length<=w31.qa.length->v.length=8->∃ u,qK w31 K args k v false=K u false
 | [],k,v,_,_,_=>⟨v,by rw[qK]⟩
 | x::args,k,v,ha,hk,hv=>by
  rw[A4]at hk;have hx:=ha x (A2 ..)
  have ha':arg7 args:=fun y hy=>ha y (A3 _ hy)
  have hi:idx w31.qa (k:Int)=some w31.qa[k]:=by unfold idx;simp[show k<w31.qa.length by omega]
  rw[qK];unfold Js;by_cases hneg:x<0
  .rw[dT hneg,cT,cN];exact Ho w31 K args (k+1) v ha' oM hv
  rw[dF hneg,cN,NH (dec8 (by omega) hx.2),get8 hv (by omega) hx.2];simp only[A0];by_cases hz:v.getD x.toNat 0=0
  .rw[show (v.getD x.toNat 0 != 0)=false by simp only[hz,bne_self_eq_false],cN,hi];simp only[A0];rw[NH (dec8 (by omega) hx.2),NH (dT (by omega))];exact Ho w31 K args (k+1) _ ha' oM (by rw[D6,hv])
  rw[show (v.getD x.toNat 0 != 0)=true from bne_iff_ne.2 hz,cT,cN];exact Ho w31 K args (k+1) v ha' oM hv
theorem qaL (w31:apiFact) (K:LA->Bool->La):∀ (args:LA) (k:Nat) (v:LA),arg7 args->k+args.length<=w31.qa.length->v.length=8 ->
  match fitA v args (w31.qa.drop k) with
  | some u=>qK w31 K args k v true=K u true
  | none=>∃ u,qK w31 K args k v true=K u false
 | [],k,v,_,_,_=>by
  rw[fitA];show qK w31 K [] k v true=_;rw[qK]
 | x::args,k,v,ha,hk,hv=>by
  rw[A4]at hk;have hx:=ha x (A2 ..)
  have ha':arg7 args:=fun y hy=>ha y (A3 _ hy)
  have hi:idx w31.qa (k:Int)=some w31.qa[k]:=by unfold idx;simp[show k<w31.qa.length by omega]
  have hd:w31.qa.drop k=w31.qa[k]::w31.qa.drop (k+1):=F8 oM;rw[qK,hd];unfold Js fitA;by_cases hneg:x<0
  .rw[dT hneg,cT,cT,hi,if_pos hneg,wrap64 (by omega) (by omega)];simp only[A0];by_cases hq:0 - x=w31.qa[k]
   .rw[if_pos hq,show (w31.qa[k] == 0 - x)=true from beq_iff_eq.2 hq.symm];exact qaL w31 K args (k+1) v ha' oM hv
   rw[if_neg hq,show (w31.qa[k] == 0 - x)=false from beq_eq_false_iff_ne.2 (fun h=>hq h.symm)];exact Ho w31 K args (k+1) v ha' oM hv
  rw[dF hneg,cN,if_neg hneg,NH (dec8 (by omega) hx.2),get8 hv (by omega) hx.2];simp only[A0];by_cases hz:v.getD x.toNat 0=0
  .rw[show (v.getD x.toNat 0 != 0)=false by simp only[hz,bne_self_eq_false],cN,hi,if_neg (fun h=>h.1 hz)];simp only[A0];rw[NH (dec8 (by omega) hx.2),NH (dT (by omega)),D7,D3];exact qaL w31 K args (k+1) _ ha' oM (by rw[D6,hv])
  rw[show (v.getD x.toNat 0 != 0)=true from bne_iff_ne.2 hz,cT,cT,hi];simp only[A0];rw[NH (dec8 (by omega) hx.2)];by_cases hq:v.getD x.toNat 0=w31.qa[k]
  .rw[if_neg (fun h=>h.2 hq),show (w31.qa[k] == v.getD x.toNat 0)=true from beq_iff_eq.2 hq.symm,set8 hq];exact qaL w31 K args (k+1) v ha' oM hv
  rw[if_pos ⟨hz,hq⟩,show (w31.qa[k] == v.getD x.toNat 0)=false from beq_eq_false_iff_ne.2 (fun h=>hq h.symm)];exact Ho w31 K args (k+1) v ha' oM hv
theorem qfz {r:rf3Rule} {S:LM} (hS:S.length=252) {i:Int} {v:LA} (hv:v.length=8) {x:rf3Lit} (hx:arg7 x.qg.qa) (hx2:x.qg.qa.length<=2) {K0:rf3Rule->LM->Int->LA->La} (K22:Li->La) {G:LA->Li} {B:Nat}
  (hG:∀ u,u.length=8->K0 r S (A5 .i64 (i+1)) u=some (G u)) (hGl:∀ u,(G u).length<=B):∀ (L:LP) (k:Nat) (acc:Li),k+L.length=252->acc.length+L.length * B<=1000000000 ->
  jL r S i v x K0 K22 L k acc=K22 (acc++(D9 k L.length).flatMap (partR S x.qg.qc x.qg.qa v G))
 | [],k,acc,_,_=>by rw[jL];simp
 | y::L,k,acc,hk,hb=>by
  rw[A4]at hk hb;rw[E0]at hb
  have hk2:k<252:=by omega
  have hg:S[A6 (k:Int) * 1]? = some (S.getD k false):=by
   rw[C7,D3,A8,D0 (by omega)];rfl
  rw[jL,NH (dT ⟨by omega,by omega⟩),hg,qlD hk2,Vz];simp only[A0];rw[A4,List.range'_succ,List.flatMap_cons,<- List.append_assoc]
  have no:partR S x.qg.qc x.qg.qa v G k=[]->Jt r S i v x acc ⟨(decF k).qn,argsF (decF k)⟩ K0 (Ju (jL r S i v x K0 K22 L (k+1))) true=K22 ((acc++partR S x.qg.qc x.qg.qa v G k)++(D9 (k+1) L.length).flatMap (partR S x.qg.qc x.qg.qa v G)):=fun h=>by
   rw[h,List.append_nil];unfold Jt Ju;rw[cT];exact qfz hS hv hx hx2 K22 hG hGl L (k+1) acc oM oM
  cases hs:S.getD k false with
  | false =>
   simp only[Bool.not_false,cT];exact no (by unfold partR;rw[if_neg (by rw[hs];simp)])
  | true =>
   simp only[D1,cN];by_cases hr:(decF k).qn=x.qg.qc
   .rw[show ((decF k).qn != x.qg.qc)=false by rw[hr];exact bne_self_eq_false ..,cN];by_cases hl:(argsF (decF k)).length=x.qg.qa.length
    .rw[show (((argsF (decF k)).length:Int) != (x.qg.qa.length:Int))=false by rw[hl];exact bne_self_eq_false ..];unfold Jt;rw[cN,NH (dT hv),NH (dT ⟨hv,by simp⟩),NH (qy (by omega))];have h2:=qaL ⟨(decF k).qn,argsF (decF k)⟩ (XA r S i acc K0 (Ju (jL r S i v x K0 K22 L (k+1)))) x.qg.qa 0 v hx (by simp only;omega) hv;rw[List.drop_zero]at h2;simp only at h2
     cases hf:fitA v x.qg.qa (argsF (decF k)) with
     | none =>
      rw[hf]at h2;obtain⟨u,h2⟩:=h2;rw[h2]
      have e:partR S x.qg.qc x.qg.qa v G k=[]:=by
       unfold partR;rw[hf];simp
      have:=no e;unfold Jt at this;rw[cT]at this;unfold XA;rw[cN];exact this
     | some u =>
      rw[hf]at h2;replace h2:qK _ _ x.qg.qa 0 v true=_:=h2;rw[h2]
      have e:partR S x.qg.qc x.qg.qa v G k=G u:=by
       unfold partR;rw[hf,if_pos ⟨hs,hr,hl⟩]
      have hu:u.length=8:=by rw[qaO hf,hv]
      have hlu:=hGl u;unfold XA Ju;rw[cT,NH (dT hS),NH (dT hu),hG u hu];simp only[A0];rw[NH (Xc (by omega) (by rw[D5];omega)),e];exact qfz hS hv hx hx2 K22 hG hGl L (k+1) (acc++G u) oM (by rw[D5];omega)
    rw[show (((argsF (decF k)).length:Int) != (x.qg.qa.length:Int))=true from bne_iff_ne.2 (by omega)];exact no (by unfold partR;rw[if_neg (fun h=>hl h.2.2)])
   rw[show ((decF k).qn != x.qg.qc)=true from bne_iff_ne.2 hr,cT];exact no (by unfold partR;rw[if_neg (fun h=>hr h.2.1)])
theorem Yt {r:rf3Rule} (hb:r.qe.length<=3) (hx:∀ x,x∈r.qe->arg7 x.qg.qa/\x.qg.qa.length<=2) {S:LM} (hS:S.length=252):∀ (n fuel i:Nat) (v:LA),i+n=r.qe.length->n+1<=fuel->v.length=8->jV fuel r S (i:Int) v=some (instR S ((r.qe.drop i).map toL) v)
 | 0,fuel+1,i,v,hi,hf,hv=>by
  rw[jV,NH (by cases S <;> simp_all),NH (by cases v <;> simp_all),show ((i:Int) == (r.qe.length:Int))=true from beq_iff_eq.2 (by omega),cT,NH (dT hv),NH (dT hv),List.drop_of_length_le (by omega)];rfl
 | n+1,fuel+1,i,v,hi,hf,hv=>by
  have hil:i<r.qe.length:=by omega
  have hid:idx r.qe (i:Int)=some r.qe[i]:=by unfold idx;simp[hil]
  have hd:r.qe.drop i=r.qe[i]::r.qe.drop (i+1):=F8 hil;have hxi:=hx _ (List.getElem_mem hil)
  have ew:A5 .i64 ((i:Int)+1)=((i+1:Nat):Int):=by rw[wrap64 (by omega) (by omega)];omega
  rw[jV,NH (by cases S <;> simp_all),NH (by cases v <;> simp_all),show ((i:Int) == (r.qe.length:Int))=false from beq_eq_false_iff_ne.2 (by omega),cN,hid,hd];simp only[A0,A9];unfold instR;have en:(toL r.qe[i]).qw=r.qe[i].qw:=rfl;rw[en]
  cases hn:r.qe[i].qw with
  | true =>
   rw[cT,NH (dT hS),NH (dT hv),ew,Yt hb hx hS n fuel (i+1) v (by omega) (by omega) hv];rfl
  | false =>
   rw[cN,NH (dT hS),NH (qy (by simp))]
   have hlen:(r.qe.drop (i+1)).length<=2:=by rw[List.length_drop];omega
   rw[qfz hS hv hxi.1 hxi.2 YW (G:=instR S ((r.qe.drop (i+1)).map toL)) (B:=63504) (fun u hu=>by rw[ew];exact Yt hb hx hS n fuel (i+1) u (by omega) (by omega) hu) (fun u=>by
    have h1:=Vv S ((r.qe.drop (i+1)).map toL) u;rw[A7]at h1;have h2:252 ^ (r.qe.drop (i+1)).length<=252 ^ 2:=E9 (by omega) hlen
    have:252 ^ 2=63504:=by decide
    omega) (D4 (A6 252)) 0 [] (by simp) (by simp)]
   unfold YW;rw[D2];simp;rfl
def V8 (v:LA):Prop:=v.length=8/\∀ i,0<=v.getD i 0/\v.getD i 0<=6
def es16 (es:LA):Prop:=∀ e,e∈es->1<=e/\e<=6
def bnd (w args:LA):Prop:=∀ x,x∈args->0<=x->w.getD x.toNat 0≠0
theorem ZV (h:okU1 f):es16 (argsF f):=by
 have:=h.a1;have:=h.a6;have:=h.b0;have:=h.b6;unfold argsF;split
 .intro e he;simp at he;subst he;omega
 intro e he;simp only[D8,List.not_mem_nil,or_false]at he
 rcases he with rfl | rfl <;> omega
theorem Va (n i:Nat) (e:Int) (h:n<v.length):(v.set n e).getD i 0=if i=n then e else v.getD i 0:=by
 simp only[A8];by_cases hi:i=n
 .subst hi;rw[F9 h,if_pos rfl];rfl
 rw[G0 (fun q=>hi q.symm),if_neg hi]
theorem QB:∀ {xs es v u:LA},fitA v xs es=some u->V8 v->arg7 xs->es16 es->V8 u/\(∀ i,v.getD i 0≠0->u.getD i 0≠0)/\bnd u xs
 | [],es,v,u,h,hv,_,_=>by
  rw[fitA]at h;cases h;exact⟨hv,fun i hi=>hi,fun x hx=>by simp at hx⟩
 | x::xs,[],v,u,h,_,_,_=>by cases h
 | x::xs,e::es,v,u,h,hv,ha,he=>by
  have hx:=ha x (A2 ..)
  have ha':arg7 xs:=fun y hy=>ha y (A3 _ hy)
  have h1:=he e (A2 ..)
  have he':es16 es:=fun y hy=>he y (A3 _ hy)
  unfold fitA at h;split at h
  .rename_i hneg;split at h
   .obtain⟨a,b,c⟩:=QB h hv ha' he';refine⟨a,b,fun y hy h0=>?_⟩
    rcases List.mem_cons.1 hy with rfl | hy
    .omega
    exact c y hy h0
   cases h
  rename_i hneg;split at h
  .cases h
  have hlt:x.toNat<v.length:=by rw[hv.1];omega
  have hv':V8 (v.set x.toNat e):=⟨by rw[D6,hv.1],fun i=>by
   rw[Va _ _ _ hlt];have:=hv.2 i
   split <;> omega⟩
  obtain⟨a,b,c⟩:=QB h hv' ha' he'
  have hq:∀ i,v.getD i 0≠0->(v.set x.toNat e).getD i 0≠0:=fun i hi=>by
   rw[Va _ _ _ hlt];split
   .omega
   exact hi
  refine⟨a,fun i hi=>b i (hq i hi),fun y hy h0=>?_⟩
  rcases List.mem_cons.1 hy with rfl | hy
  .exact b _ (by rw[Va _ _ _ hlt,if_pos rfl];omega)
  exact c y hy h0
def okW (P:rufact->Prop):Prop:=∀ g,P g->okU1 g
theorem qao {P:rufact->Prop} (hP:okW P):∀ {body:LQ} {v w:LA},InstP P body v w->V8 v->(∀ x,x∈body->arg7 x.qg.qa)->V8 w/\(∀ i,v.getD i 0≠0->w.getD i 0≠0)/\∀ x,x∈body->x.qw=false->bnd w x.qg.qa
 | [],v,w,h,hv,_=>by
  have h:w=v:=h;subst h;exact⟨hv,fun i hi=>hi,fun x hx=>by simp at hx⟩
 | x::body,v,w,h,hv,ha=>by
  have ha':∀ y,y∈body->arg7 y.qg.qa:=fun y hy=>ha y (A3 _ hy)
  rcases h with ⟨hn,h⟩ | ⟨hn,g,u,hg,h1,h2,h3,h4⟩
  .obtain⟨a,b,c⟩:=qao hP h hv ha';refine⟨a,b,fun y hy h0=>?_⟩
   rcases List.mem_cons.1 hy with rfl | hy
   .rw[hn]at h0;cases h0
   exact c y hy h0
  obtain⟨a1,b1,c1⟩:=QB h3 hv (ha x (A2 ..)) (ZV (hP g hg));obtain⟨a,b,c⟩:=qao hP h4 a1 ha';refine⟨a,fun i hi=>b i (b1 i hi),fun y hy h0=>?_⟩
  rcases List.mem_cons.1 hy with rfl | hy
  .exact fun z hz h0=>b _ (c1 z hz h0)
  exact c y hy h0
theorem NG {P Q:rufact->Prop} (h:∀ g,P g->Q g):∀ {body:LQ} {v w:LA},InstP P body v w->InstP Q body v w
 | [],v,w,hi=>hi
 | x::body,v,w,hi=>by
  rcases hi with ⟨hn,hi⟩ | ⟨hn,g,u,hg,h1,h2,h3,h4⟩
  .exact .inl ⟨hn,NG h hi⟩
  exact .inr ⟨hn,g,u,h g hg,h1,h2,h3,NG h h4⟩
theorem qii (hw:V8 w) (ha:arg7 args) (hb:bnd w args):es16 (groundA w args):=by
 intro e he;unfold groundA at he;obtain⟨x,hx,rfl⟩:=List.mem_map.1 he;have:=ha x hx;split
 .omega
 have h1:=hb x hx oM;have h2:=hw.2 x.toNat;omega
theorem qkW (hr:rel6 rel):∀ {g:LA},(1<=g.length/\g.length<=2)->es16 g->okU1 (mkF rel g)/\argsF (mkF rel g)=g
 | [],h,_=>by simp at h
 | [a],_,h=>by
  have h1:=h a (by simp);exact⟨⟨hr.1,hr.2,h1.1,h1.2,(show (0:Int)<=0 by decide),(show (0:Int)<=6 by decide)⟩,rfl⟩
 | [a,b],_,h=>by
  have h1:=h a (by simp);have h2:=h b (by simp);refine⟨⟨hr.1,hr.2,h1.1,h1.2,(show 0<=b by omega),h2.2⟩,?_⟩;show (if b=0 then [a] else [a,b])=[a,b];rw[if_neg (by omega)]
 | a::b::c::r,h,_=>by simp at h
theorem qI (h:fitP rel args):arg7 args:=h.2.2
theorem Xq (h:fitP rel args):rel6 rel:=h.1
theorem Jw {a:qo} (hw:V8 w) (ha:fitP a.qc a.qa) (hb:bnd w a.qa):okU1 (groundF w a)/\argsF (groundF w a)=groundA w a.qa/\(groundF w a).qn=a.qc:=by
 have h:=qkW (Xq ha) (g:=groundA w a.qa) (by unfold groundA;rw[A7];exact ha.2.1) (qii hw (qI ha) hb);exact⟨h.1,h.2,rfl⟩
theorem qda {w:LA} (hw:V8 w) (K:LA->LY):∀ (args:LA) (k:Nat) (acc:LA),arg7 args->acc.length+args.length<=1000->XY w K args k acc=K (acc++groundA w args)
 | [],k,acc,_,_=>by rw[XY];simp[groundA]
 | x::args,k,acc,ha,hl=>by
  have hx:=ha x (A2 ..)
  have ha':arg7 args:=fun y hy=>ha y (A3 _ hy)
  rw[A4]at hl;rw[XY];unfold Nm
  have e:acc++groundA w (x::args)=(acc++[if x<0 then 0 - x else w.getD x.toNat 0])++groundA w args:=by
   unfold groundA;simp
  by_cases hneg:x<0
  .rw[dT hneg,cT,wrap64 (by omega) (by omega),NH (Xc (by omega) (by simp;omega)),qda hw K args (k+1) _ ha' (by simp;omega),e,if_pos hneg]
  rw[dF hneg,cN,NH (dec8 (by omega) hx.2),get8 hw.1 (by omega) hx.2];simp only[A0];rw[NH (Xc (by omega) (by simp;omega)),qda hw K args (k+1) _ ha' (by simp;omega),e,if_neg hneg]
theorem Vw (hw:V8 w) (ha:fitP a.qc a.qa) (hb:bnd w a.qa):XZ a w=some (codeF (groundF w (toA a)):Int):=by
 have hne:w≠[]:=by intro h;have:=hw.1;rw[h]at this;cases this
 obtain⟨h1,h2,h3⟩:=Jw (a:=toA a) hw ha hb;unfold XZ;rw[NH (by cases w <;> simp_all),NH (qy (by have:=ha.2.1;omega)),qda hw _ _ _ _ (qI ha) (by have:=ha.2.1;simp;omega)];unfold qay;have:=qdr h1;rw[h2,h3]at this;rw[D2];replace this:QW a.qc (groundA w a.qa)=_:=this;rw[this];rfl
def FreeP (N:rufact->Prop) (w:LA) (body:LQ):Prop:=∀ x,x∈body->x.qw=true->¬ N (groundF w x.qg)
theorem qjb {w:LA} (hw:V8 w) {S:LM} (hS:S.length=252) (K:LD):∀ (body:Lq) (k:Nat),(∀ x,x∈body->x.qw=true->fitP x.qg.qc x.qg.qa/\bnd w x.qg.qa)->YJ w S K body k=if FreeP (setB S) w (body.map toL) then K else some false
 | [],k,_=>by rw[YJ,if_pos (show FreeP _ _ _ from fun x hx=>by simp at hx)]
 | x::body,k,h=>by
  have ih:=qjb hw hS K body (k+1) fun y hy=>h y (A3 _ hy)
  have hc:FreeP (setB S) w ((x::body).map toL)↔(x.qw=true->¬ setB S (groundF w (toA x.qg)))/\FreeP (setB S) w (body.map toL):=by
   unfold FreeP;simp only[A9,D8,forall_eq_or_imp];rfl
  rw[YJ];unfold Nn;rw[ih]
  cases hn:x.qw with
  | false =>
   rw[cN,cN];by_cases hq:FreeP (setB S) w (body.map toL)
   .rw[if_pos hq,if_pos (hc.2 ⟨fun h=>(by rw[hn]at h;cases h),hq⟩)]
   rw[if_neg hq,if_neg (fun h=>hq (hc.1 h).2)]
  | true =>
   obtain⟨h1,h2⟩:=h x (A2 ..) hn;have hok:=(Jw (a:=toA x.qg) hw h1 h2).1;have hlt:=QM hok;rw[cT,NH (dT hw.1),Vw hw h1 h2];simp only[A0];rw[NH (dT ⟨by omega,by omega,by omega⟩),D7,D3,C7,D0 (by omega)];simp only[A0]
   have hg:S[codeF (groundF w (toA x.qg))]=S.getD (codeF (groundF w (toA x.qg))) false:=by
    rw[A8,D0 (by omega)];rfl
   rw[hg]
   cases hs:S.getD (codeF (groundF w (toA x.qg))) false with
   | true =>
    rw[cT,if_neg (fun q=>(hc.1 q).1 hn ⟨hok,hs⟩)]
   | false =>
    rw[cN];by_cases hq:FreeP (setB S) w (body.map toL)
    .rw[if_pos hq,if_pos (hc.2 ⟨fun _ q=>(by have:=q.2;rw[hs]at this;cases this),hq⟩)]
    rw[if_neg hq,if_neg (fun h=>hq (hc.1 h).2)]
theorem qdf (hw:V8 w) (hS:S.length=252) {r:rf3Rule} (hl:r.qe.length<=3) (h:∀ x,x∈r.qe->x.qw=true->fitP x.qg.qc x.qg.qa/\bnd w x.qg.qa):NX r w S=some (decide (FreeP (setB S) w (toR r).qe)):=by
 unfold NX;rw[NH (by have:=hw.1;cases w <;> simp_all),NH (by cases S <;> simp_all),NH (qy (by omega)),qjb hw hS _ _ _ h];unfold qbK;show _=some (decide (FreeP (setB S) w (r.qe.map toL)));by_cases hq:FreeP (setB S) w (r.qe.map toL)
 .rw[if_pos hq,dT hq]
 rw[if_neg hq,dF hq]
theorem NO {i:Int} (h1 : -1000<=i) (h2:i<=1000):wfI .i64 i=true:=by
 unfold wfI Lit.wf;simp[IntKind.min,IntKind.max,IntKind.signed,IntKind.bits];omega
theorem Zr (hw:V8 w) {a:qo} (ha:fitP a.qc a.qa):wfF (groundF w a)=true:=by
 have hr:=Xq ha
 have hA:∀ e,e∈groundA w a.qa->0<=e/\e<=6:=fun e he=>by
  unfold groundA at he;obtain⟨x,hx,rfl⟩:=List.mem_map.1 he;have:=qI ha x hx;have:=hw.2 x.toNat;split <;> omega
 have hg:∀ i,0<=(groundA w a.qa).getD i 0/\(groundA w a.qa).getD i 0<=6:=fun i=>by
  rw[A8]
  cases hi:(groundA w a.qa)[i]? with
  | none=>exact⟨by decide,by decide⟩
  | some e=>exact hA e (List.mem_of_getElem? hi)
 have h0:=hg 0;have h1:=hg 1;have:=hr.1;have:=hr.2;unfold wfF
 have wf:∀ n:Int,0<=n->n<=6->wfI .i64 n=true:=fun n a b=>by
  exact NO oM oM
 show (wfI .i64 a.qc && wfI .i64 ((groundA w a.qa).getD 0 0) && wfI .i64 ((groundA w a.qa).getD 1 0))=true;rw[wf _ (by omega) (by omega),wf _ h0.1 h0.2,wf _ h1.1 h1.2];rfl
theorem qeJ {no:LB} (hno:NT no) {w:LA} (hw:V8 w):∀ (body:LQ),(∀ x,x∈body->fitP x.qg.qc x.qg.qa)->freeP no w body=some (decide (FreeP (fun g=>g∈no.map A1) w body))
 | [],_=>by unfold freeP;rw[dT (show FreeP _ _ _ from fun x hx=>by simp at hx)]
 | x::body,h=>by
  have ih:=qeJ hno hw body fun y hy=>h y (A3 _ hy)
  have hx:=h x (A2 ..)
  have hc:FreeP (fun g=>g∈no.map A1) w (x::body)↔(x.qw=true->groundF w x.qg ∉ no.map A1)/\FreeP (fun g=>g∈no.map A1) w body:=by
   unfold FreeP;simp only[D8,forall_eq_or_imp]
  unfold freeP
  cases hn:x.qw with
  | false =>
   rw[cN,ih]
   congr 1
   refine decide_eq_decide.2 ?_;rw[hc];exact⟨fun q=>⟨fun h=>(by rw[hn]at h;cases h),q⟩,fun q=>q.2⟩
  | true =>
   rw[cT,XQ hw.1 (qI hx) hx.2.1.2];simp only[A0];rw[NH (Zr hw hx)];by_cases hm:groundF w x.qg∈no.map A1
   .rw[(NT.mget hno.t _).2 hm,cT,dF (fun q=>(hc.1 q).1 hn hm)]
   rw[show mget qf false (groundF w x.qg) no=false by
    rw[<- Bool.not_eq_true];exact fun q=>hm ((NT.mget hno.t _).1 q),cN,ih]
   congr 1
   refine decide_eq_decide.2 ?_;rw[hc];exact⟨fun q=>⟨fun _=>hm,q⟩,fun q=>q.2⟩
theorem qim {xs:LA}:∀ {es fs v:LA},xs.length=es.length->fitA v xs (es++fs)=fitA v xs es:=by
 induction xs with
 | nil=>intro es fs v h;rw[fitA,fitA]
 | cons x xs ih =>
  intro es fs v h
  cases es with
  | nil=>cases h
  | cons e es =>
   rw[List.cons_append];unfold fitA
   have h:xs.length=es.length:=by simpa using h
   simp only[ih h]
theorem qjd (h:(argsF f).length=args.length):fitA v args [f.f_a,f.f_b]=fitA v args (argsF f):=by
 unfold argsF at h ⊢;split
 .rename_i hb;rw[if_pos hb]at h;exact qim (es:=[f.f_a]) (fs:=[f.f_b]) (by simpa using h.symm)
 rfl
theorem qgT {k:LA->La} {a:qo} (ha:arg7 a.qa) (hl:a.qa.length<=2) {v:LA} (hv:V8 v) {B:Nat} {Q:LA->LA->Prop} (hk:∀ u,V8 u->∃ d,k u=some d/\d.length<=B/\∀ w,w∈d↔Q u w):∀ (gs:LI),(∀ g,g∈gs->okU1 g/\g.qn=a.qc/\(argsF g).length=a.qa.length) ->
  ∃ o,fitL k a v gs=some o/\o.length<=gs.length * B/\∀ w,w∈o↔∃ g u,g∈gs/\fitA v a.qa (argsF g)=some u/\Q u w
 | [],_=>⟨[],rfl,by simp,fun w=>by simp⟩
 | g::gs,h=>by
  obtain⟨o,h1,h2,h3⟩:=qgT ha hl hv hk gs fun q hq=>h q (A3 _ hq)
  obtain⟨g1,g2,g3⟩:=h g (A2 ..);obtain⟨p,p1,p2,p3⟩:=qjZ (f:=g) (a:=a) g2.symm hv.1 ha hl;rw[qjd g3]at p2 p3;unfold fitL;rw[p1];simp only[A0]
  cases hf:fitA v a.qa (argsF g) with
  | none =>
   have:p.2=false:=by rw[<- Bool.not_eq_true,p2,hf];simp
   rw[this,cN];simp only[A0];rw[h1];simp only[A0];refine⟨_,rfl,by simp only[D2,A4,E0];omega,fun w=>?_⟩;rw[D2,h3];constructor
   .rintro⟨q,u,hq,r⟩;exact⟨q,u,A3 _ hq,r⟩
   rintro⟨q,u,hq,r1,r2⟩
   rcases List.mem_cons.1 hq with rfl | hq
   .rw[hf]at r1;cases r1
   exact⟨q,u,hq,r1,r2⟩
  | some u =>
   have:p.2=true:=by rw[p2,hf];rfl
   rw[this,cT,p3 u hf];obtain⟨hu,_,_⟩:=QB hf hv ha (ZV g1);obtain⟨d,d1,d2,d3⟩:=hk u hu;rw[d1];simp only[A0];rw[h1];simp only[A0];refine⟨_,rfl,by rw[D5,A4,E0];omega,fun w=>?_⟩;rw[List.mem_append,d3,h3];constructor
   .rintro (q | ⟨q,u',hq,r⟩)
    .exact⟨g,u,A2 ..,hf,q⟩
    exact⟨q,u',A3 _ hq,r⟩
   rintro⟨q,u',hq,r1,r2⟩
   rcases List.mem_cons.1 hq with rfl | hq
   .rw[hf]at r1;cases r1;exact .inl r2
   exact .inr ⟨q,u',hq,r1,r2⟩
def arW (ar:Int->Nat) (P:rufact->Prop):Prop:=∀ g,P g->okU1 g/\(argsF g).length=ar g.qn
theorem qct {ar:Int->Nat} {no:LB} (hno:NT no) {bl:Lf} {fs:LI} (hfs:fs.length<=252) (har:arW ar fun g=>g∈fs) (hbl:∀ rel,mget keq1 [] rel bl=fs.filter fun f=>f.qn == rel) {all:LQ} (hall:∀ x,x∈all->fitP x.qg.qc x.qg.qa):∀ (body:LQ) (v:LA),(∀ x,x∈body->fitP x.qg.qc x.qg.qa/\x.qg.qa.length=ar x.qg.qc)->V8 v ->
  ∃ d,tryP all no bl body v=some d/\d.length<=252 ^ body.length/\∀ w,w∈d↔InstP (fun g=>g∈fs) body v w/\FreeP (fun g=>g∈no.map A1) w all
 | [],v,_,hv=>by
  unfold tryP;rw[qeJ hno hv all hall];simp only[A0];refine⟨_,rfl,?_,fun w=>?_⟩
  .by_cases hq:FreeP (fun g=>g∈no.map A1) v all
   .rw[dT hq];simp
   rw[dF hq];simp
  show _↔w=v/\_;by_cases hq:FreeP (fun g=>g∈no.map A1) v all
  .rw[dT hq,cT,List.mem_singleton];exact⟨fun h=>⟨h,by rw[h];exact hq⟩,fun h=>h.1⟩
  rw[dF hq,cN];exact⟨fun h=>by simp at h,fun h=>absurd (h.1 ▸ h.2) hq⟩
 | x::body,v,h,hv=>by
  have hx:=h x (A2 ..)
  have ih:=fun u hu=>qct hno hfs har hbl hall body u (fun y hy=>h y (A3 _ hy)) hu
  unfold tryP
  cases hn:x.qw with
  | true =>
   rw[cT];obtain⟨d,d1,d2,d3⟩:=ih v hv;refine⟨d,d1,by rw[A4,E7];omega,fun w=>?_⟩;rw[d3,InstP.eq_2];simp only[hn,true_and,Bool.true_eq_false,false_and,or_false]
  | false =>
   have hr:=Xq hx.1;rw[cN,NH (NO (by have:=hr.1;omega) (by have:=hr.2;omega)),hbl]
   obtain⟨o,o1,o2,o3⟩:=qgT (k:=tryP all no bl body) (qI hx.1) hx.1.2.1.2 hv (B:=252 ^ body.length) (Q:=fun u w=>InstP (fun g=>g∈fs) body u w/\FreeP (fun g=>g∈no.map A1) w all) ih (fs.filter fun f=>f.qn == x.qg.qc) (fun g hg=>by
    obtain⟨g1,g2⟩:=List.mem_filter.1 hg
    have g2:g.qn=x.qg.qc:=by simpa using g2
    obtain⟨g3,g4⟩:=har g g1
    exact⟨g3,g2,by rw[g4,g2,hx.2]⟩)
   refine⟨o,o1,?_,fun w=>?_⟩
   .rw[A4,E7,Nat.mul_comm];have:(fs.filter fun f=>f.qn == x.qg.qc).length<=252:=E8 (F6 ..) hfs;exact E8 o2 (Nat.mul_le_mul_right _ this)
   rw[o3]
   have ei:InstP (fun g=>g∈fs) (x::body) v w↔∃ g u,g∈fs/\g.qn=x.qg.qc/\(argsF g).length=x.qg.qa.length/\fitA v x.qg.qa (argsF g)=some u/\InstP (fun g=>g∈fs) body u w:=by
    rw[InstP.eq_2];simp[hn]
   rw[ei];constructor
   .rintro⟨g,u,hg,h1,h2,h3⟩
    obtain⟨g1,g2⟩:=List.mem_filter.1 hg
    have g2:g.qn=x.qg.qc:=by simpa using g2
    exact⟨⟨g,u,g1,g2,by rw[(har g g1).2,g2,hx.2],h1,h2⟩,h3⟩
   rintro⟨⟨g,u,g1,g2,g3,h1,h2⟩,h3⟩
   exact⟨g,u,List.mem_filter.2 ⟨g1,by simp[g2]⟩,h1,h2,h3⟩
abbrev v0:LA:=B1 8 0
theorem V8_0:V8 v0:=⟨by simp,fun i=>by
 rw[A8,G1]
 split <;> simp⟩
def ClosedR (L:LH) (N X:rufact->Prop):Prop:=∀ r,r∈L->∀ w,InstP X r.qe v0 w->FreeP N w r.qe->X (groundF w r.qi)
structure LeastR (L:LH) (N G X:rufact->Prop):Prop where
 sub:∀ g,G g->X g
 closed:ClosedR L N X
 least:∀ Q:rufact->Prop,(∀ g,G g->Q g)->ClosedR L N Q->∀ g,X g->Q g
theorem LeastR.same {N N' G G' X X':rufact->Prop} (h:LeastR L N G X) (h':LeastR L N' G' X') (hN:∀ g,N g↔N' g) (hG:∀ g,G g↔G' g):∀ g,X g↔X' g:=by
 obtain rfl:N=N':=funext fun g=>propext (hN g)
 obtain rfl:G=G':=funext fun g=>propext (hG g)
 exact fun g=>⟨h.least X' h'.sub h'.closed g,h'.least X h.sub h.closed g⟩
def okL (ar:Int->Nat) (r:ruRule):Prop:=okU r/\∀ a,a∈atomsU r->a.qa.length=ar a.qc
theorem okL.body {r:ruRule} (h:okL ar r):∀ x,x∈r.qe->fitP x.qg.qc x.qg.qa/\x.qg.qa.length=ar x.qg.qc:=fun x hx =>
 have hm:x.qg∈atomsU r:=A3 _ (List.mem_map.2 ⟨x,hx,rfl⟩)
 ⟨h.1.2.2 _ hm,h.2 _ hm⟩
theorem okL.head {r:ruRule} (h:okL ar r):fitP r.qi.qc r.qi.qa/\r.qi.qa.length=ar r.qi.qc :=
 ⟨h.1.2.2 _ (A2 ..),h.2 _ (A2 ..)⟩
theorem okL.inst {r:ruRule} (h:okL ar r) (hP:okW P) (hi:InstP P r.qe v0 w):V8 w/\∀ a,a∈atomsU r->bnd w a.qa:=by
 obtain⟨a,b,c⟩:=qao hP hi V8_0 fun x hx=>qI (h.body x hx).1
 refine⟨a,fun t ht x hx h0=>?_⟩;obtain⟨y,y1,y2,y3⟩:=h.1.2.1 t ht x hx h0;exact c y y1 y2 x y3 h0
theorem okL.ground {r:ruRule} (h:okL ar r) (hP:okW P) (hi:InstP P r.qe v0 w):okU1 (groundF w r.qi)/\(argsF (groundF w r.qi)).length=ar (groundF w r.qi).qn:=by
 obtain⟨a,b⟩:=h.inst hP hi;obtain⟨c,d,e⟩:=Jw a h.head.1 (b _ (A2 ..));refine⟨c,?_⟩;rw[d,e];unfold groundA;rw[A7,h.head.2]
theorem arW.ok (h:arW ar P):okW P:=fun g hg=>(h g hg).1
theorem YO {fs:LI} (hn:fs.Nodup) (ho:∀ g,g∈fs->okU1 g):fs.length<=252:=by
 have:=pig 252 (fs.map codeF) (by
  rw[List.nodup_iff_pairwise_ne,List.pairwise_map];refine List.Pairwise.imp_of_mem ?_ hn;intro a b ha hb hne h
  exact hne (UV (ho a ha) (ho b hb) h)) (fun x hx=>by
   obtain⟨g,hg,rfl⟩:=List.mem_map.1 hx
   exact QM (ho g hg))
 simpa using this
theorem qdd {ar:Int->Nat} {no out:LB} (hno:NT no) (hout:NT out) (har:arW ar fun g=>g∈out.map A1):∀ (L:LH) (acc:LI),(∀ r,r∈L->okL ar r)->acc.length+16003008 * L.length<=900000000 ->
  ∃ fr,freshL no out L acc=some fr/\∀ f,f∈fr↔f∈acc\/(f ∉ out.map A1/\∃ r,r∈L/\∃ w,InstP (fun g=>g∈out.map A1) r.qe v0 w/\FreeP (fun g=>g∈no.map A1) w r.qe/\f=groundF w r.qi)
 | [],acc,_,_=>⟨acc,rfl,fun f=>by simp⟩
 | r::L,acc,hr,hb=>by
  have h1:=hr r (A2 ..);rw[A4]at hb
  have hfs:=YO hout.n fun g hg=>(har g hg).1
  obtain⟨d,d1,d2,d3⟩:=qct (bl:=byRelL out) hno (by simpa using hfs) har (fun rel=>ZC rel out) (all:=r.qe) (fun x hx=>(h1.body x hx).1) r.qe v0 h1.body V8_0
  have hd:d.length<=16003008:=by
   have:252 ^ r.qe.length<=252 ^ 3:=E9 oM h1.1.1
   have e:252 ^ 3=16003008:=by decide
   omega
  have hg:∀ w,w∈d->qA w r.qi=some (groundF w r.qi)/\wfF (groundF w r.qi)=true:=fun w hw=>by
   obtain⟨a,_⟩:=h1.inst har.ok ((d3 w).1 hw).1;exact⟨XQ a.1 (qI h1.head.1) h1.head.1.2.1.2,Zr a h1.head.1⟩
  have hh:headOk r.qi d=true:=by
   unfold headOk;rw[List.all_eq_true];intro w hw;obtain⟨a,b⟩:=hg w hw;rw[a];exact b
  have hlen:=qae out r.qi d;obtain⟨fr,f1,f2⟩:=qdd hno hout har L (acc++headsP out r.qi d) (fun q hq=>hr q (A3 _ hq)) (by rw[D5];omega);refine⟨fr,?_,fun f=>?_⟩
  .unfold freshL;rw[NH (dT (by have:=h1.1.1;omega)),d1];simp only[A0];rw[NH (by rw[hh,dT (by omega)];rfl)];exact f1
  rw[f2,List.mem_append]
  have hm:f∈headsP out r.qi d↔f ∉ out.map A1/\∃ w,InstP (fun g=>g∈out.map A1) r.qe v0 w/\FreeP (fun g=>g∈no.map A1) w r.qe/\f=groundF w r.qi:=by
   unfold headsP;rw[List.mem_filterMap];constructor
   .rintro⟨w,hw,he⟩
    rw[(hg w hw).1]at he;simp only[A0]at he;split at he
    .cases he
    rename_i hq;cases he;exact⟨fun hm=>hq ((NT.mget hout.t _).2 hm),w,((d3 w).1 hw).1,((d3 w).1 hw).2,rfl⟩
   rintro⟨hn,w,h2,h3,rfl⟩
   have hw:=(d3 w).2 ⟨h2,h3⟩;refine⟨w,hw,?_⟩;rw[(hg w hw).1];simp only[A0];rw[if_neg (fun q=>hn ((NT.mget hout.t _).1 q))]
  rw[hm];constructor
  .rintro ((h | ⟨hn,w,hw⟩) | ⟨hn,q,hq,hw⟩)
   .exact .inl h
   .exact .inr ⟨hn,r,A2 ..,w,hw⟩
   exact .inr ⟨hn,q,A3 _ hq,hw⟩
  rintro (h | ⟨hn,q,hq,w,hw⟩)
  .exact .inl (.inl h)
  rcases List.mem_cons.1 hq with rfl | hq
  .exact .inl (.inr ⟨hn,w,hw⟩)
  exact .inr ⟨hn,q,hq,w,hw⟩
theorem qeU {ar:Int->Nat} {L:LH} (hL:∀ r,r∈L->okL ar r) (hl:L.length<=12) {no:LB} (hno:NT no) {G:rufact->Prop}:∀ (n fuel:Nat) (out:LB),NT out->arW ar (fun g=>g∈out.map A1)->253<=out.length+n->n<=fuel->(∀ g,G g->g∈out.map A1)->(∀ Q:rufact->Prop,(∀ g,G g->Q g)->ClosedR L (fun g=>g∈no.map A1) Q->∀ g,g∈out.map A1->Q g) ->
  ∃ res,consR L no fuel out=some res/\NT res/\arW ar (fun g=>g∈res.map A1)/\LeastR L (fun g=>g∈no.map A1) G (fun g=>g∈res.map A1)
 | 0,fuel,out,hout,har,hn,hf,hG,hQ=>by
  have:=YO hout.n fun g hg=>(har g hg).1
  rw[A7]at this;omega
 | n+1,0,out,hout,har,hn,hf,hG,hQ=>by omega
 | n+1,fuel+1,out,hout,har,hn,hf,hG,hQ=>by
  have hsm:=YO hout.n fun g hg=>(har g hg).1
  rw[A7]at hsm;obtain⟨fr,f1,f2⟩:=qdd hno hout har L [] hL (by simp;omega);unfold consR;rw[NH (dT (by omega)),f1];simp only[A0]
  cases fr with
  | nil =>
   refine⟨out,rfl,hout,har,hG,fun r hr w h1 h2=>?_,hQ⟩
   refine Classical.byContradiction fun hq=>?_
   have:=(f2 (groundF w r.qi)).2 (.inr ⟨hq,r,hr,w,h1,h2,rfl⟩);simp at this
  | cons f fr =>
   obtain⟨a1,a2,a3,a4⟩:=hout.add (fr:=f::fr)
   have hmem:∀ g,g∈f::fr->g ∉ out.map A1/\∃ r,r∈L/\∃ w,InstP (fun g=>g∈out.map A1) r.qe v0 w/\FreeP (fun g=>g∈no.map A1) w r.qe/\g=groundF w r.qi:=fun g hg=>by
    rcases (f2 g).1 hg with h | h
    .simp at h
    exact h
   have hgrow:=a4 f (A2 ..) (hmem f (A2 ..)).1
   exact qeU hL hl hno n fuel (addF out (f::fr)) a1 (fun g hg=>by
    rcases (a2 g).1 hg with h | h
    .obtain⟨_,r,hr,w,h1,h2,rfl⟩:=hmem g h;exact (hL r hr).ground har.ok h1
    .exact har g h) oM oM (fun g hg=>(a2 g).2 (.inr (hG g hg))) (fun Q h1 h2 g hg=>by
    rcases (a2 g).1 hg with h | h
    .obtain⟨_,r,hr,w,q1,q2,rfl⟩:=hmem g h;exact h2 r hr w (NG (hQ Q h1 h2) q1) q2
    exact hQ Q h1 h2 g h)
theorem okU1.wf (h:okU1 f):wfF f=true:=by
 have:=h.r0;have:=h.r5;have:=h.a1;have:=h.a6;have:=h.b0;have:=h.b6;unfold wfF;rw[NO (by omega) (by omega),NO (by omega) (by omega),NO (by omega) (by omega)];rfl
theorem qeV (hL:∀ r,r∈L->okL ar r) (hl:L.length<=12) {gv no:LB} (hgv:NT gv) (hno:NT no) (har:arW ar (fun g=>g∈gv.map A1)) {fuel:Nat} (hf:253<=fuel) :
  ∃ res,consP fuel L gv no=some res/\NT res/\arW ar (fun g=>g∈res.map A1)/\LeastR L (fun g=>g∈no.map A1) (fun g=>g∈gv.map A1) (fun g=>g∈res.map A1):=by
 have hsm:=YO hgv.n fun g hg=>(har g hg).1
 rw[A7]at hsm;obtain⟨a1,a2,a3,a4⟩:=NT.empty.add (fr:=gv.map A1)
 have hm:∀ g,g∈(addF [] (gv.map A1)).map A1↔g∈gv.map A1:=fun g=>by rw[a2];simp
 unfold consP
 rw[NH (by
  rw[Bool.and_eq_true,List.all_eq_true,decide_eq_true_eq]
  exact⟨fun p hp=>(har p.1 (List.mem_map.2 ⟨p,hp,rfl⟩)).1.wf,by omega,by omega⟩)]
 exact qeU hL hl hno 253 fuel _ a1 (fun g hg=>har g ((hm g).1 hg)) oM hf (fun g hg=>(hm g).2 hg) (fun Q h1 h2 g hg=>h1 g ((hm g).1 hg))
def cntB:LM->Nat
 | []=>0
 | b::S=>(if b=true then 1 else 0)+cntB S
theorem qji:∀ (S:LM),cntB S<=S.length
 | []=>by simp[cntB]
 | b::S=>by
  have:=qji S;unfold cntB;rw[A4];split <;> omega
theorem qhc:∀ {S:LM} {n:Nat},n<S.length->S.getD n false=false->cntB (S.set n true)=cntB S+1
 | [],n,h,_=>by simp at h
 | b::S,0,h,hb=>by
  have hb:b=false:=hb;subst hb;show cntB (true::S)=cntB (false::S)+1;simp[cntB];omega
 | b::S,n+1,h,hb=>by
  have:=qhc (S:=S) (n:=n) (by simpa using h) (by simpa using hb);show cntB (b::S.set n true)=cntB (b::S)+1;unfold cntB;omega
theorem qlg {n:Nat} (hn:n<S.length) (m:Nat):(S.set n true).getD m false=if m=n then true else S.getD m false:=by
 simp only[A8];by_cases h:m=n
 .subst h;rw[F9 hn,if_pos rfl];rfl
 rw[G0 (fun q=>h q.symm),if_neg h]
theorem qcD (hS:S.length=252) {g:rufact} (hg:okU1 g) (h:rufact):setB (S.set (codeF g) true) h↔setB S h\/h=g:=by
 have hlt:=QM hg;unfold setB;rw[qlg (by omega)];constructor
 .rintro⟨h1,h2⟩
  split at h2
  .rename_i he;exact .inr (UV h1 hg he)
  exact .inl ⟨h1,h2⟩
 rintro (⟨h1,h2⟩ | rfl)
 .refine⟨h1,?_⟩;split
  .rfl
  exact h2
 exact⟨hg,by rw[if_pos rfl]⟩
theorem qco {ar:Int->Nat} {r:rf3Rule} (hr:okL ar (toR r)) {N:LM} (hN:N.length=252) (K:LM->Bool->Ln):∀ (ws:Li) (k:Nat) (S:LM) (ch:Bool),S.length=252->(∀ w,w∈ws->V8 w/\∀ a,a∈atomsU (toR r)->bnd w a.qa) ->
  ∃ S' ch',JB r N K ws k S ch=K S' ch'/\S'.length=252/\(∀ g,setB S' g↔setB S g\/∃ w,w∈ws/\FreeP (setB N) w (toR r).qe/\g=groundF w (toR r).qi)/\cntB S<=cntB S'/\(ch'=true->ch=true\/cntB S<cntB S')/\(ch'=false->ch=false/\S'=S)
 | [],k,S,ch,hS,_=>⟨S,ch,by rw[JB],hS,fun g=>by simp,Nat.le_refl _,.inl,fun h=>⟨h,rfl⟩⟩
 | w::ws,k,S,ch,hS,hw=>by
  obtain⟨w1,w2⟩:=hw w (A2 ..)
  have hw':∀ u,u∈ws->V8 u/\∀ a,a∈atomsU (toR r)->bnd u a.qa:=fun u hu=>hw u (A3 _ hu)
  have hh:=hr.head;have hgo:=(Jw w1 hh.1 (w2 _ (A2 ..))).1;have hlt:=QM hgo
  have hbl:r.qe.length<=3:=by have:=hr.1.1;simpa[toR] using this
  have hgv:XZ r.qi w=some (codeF (groundF w (toR r).qi):Int):=Vw w1 hh.1 (w2 _ (A2 ..))
  have hfr:=qdf w1 hN hbl fun x hx hn=>⟨(hr.body (toL x) (List.mem_map.2 ⟨x,hx,rfl⟩)).1,w2 (toL x).qg (A3 _ (List.mem_map.2 ⟨toL x,List.mem_map.2 ⟨x,hx,rfl⟩,rfl⟩))⟩
  have hgd:S[0+A6 (codeF (groundF w (toR r).qi):Int) * 1]? = some (S.getD (codeF (groundF w (toR r).qi)) false):=by
   rw[D7,D3,C7,A8,D0 (by omega)];rfl
  have hck:decide ((0:Int)<=(codeF (groundF w (toR r).qi):Int)/\(codeF (groundF w (toR r).qi):Int)<((252:Nat):Int)/\0<1)=true:=dT ⟨by omega,by omega,by omega⟩;rw[JB,NH (dT w1.1),NH (dT ⟨w1.1,by simp⟩),NH (dT w1.1),hgv];simp only[A0];rw[NH (dT w1.1),NH (dT hN),hfr];simp only[A0];unfold XJ XK;by_cases hq:FreeP (setB N) w (toR r).qe
  .rw[dT hq,cT,NH hck,hgd];simp only[A0]
   cases hs:S.getD (codeF (groundF w (toR r).qi)) false with
   | true =>
    rw[D1,cN];obtain⟨S',ch',e1,e2,e3,e4,e5,e6⟩:=qco hr hN K ws (k+1) S ch hS hw';refine⟨S',ch',e1,e2,fun g=>?_,e4,e5,e6⟩;rw[e3];constructor
    .rintro (h | ⟨u,hu,h⟩)
     .exact .inl h
     exact .inr ⟨u,A3 _ hu,h⟩
    rintro (h | ⟨u,hu,h,h2⟩)
    .exact .inl h
    rcases List.mem_cons.1 hu with rfl | hu
    .exact .inl ⟨by rw[h2];exact hgo,by rw[h2];exact hs⟩
    exact .inr ⟨u,hu,h,h2⟩
   | false =>
    rw[Bool.not_false,cT,NH hck,NH (dT (by omega)),D7,D3,C7];have hc:=qhc (S:=S) oM hs;obtain⟨S',ch',e1,e2,e3,e4,e5,e6⟩:=qco hr hN K ws (k+1) (S.set (codeF (groundF w (toR r).qi)) true) true (by rw[D6,hS]) hw';refine⟨S',ch',e1,e2,fun g=>?_,by omega,fun _=>.inr oM,fun h=>absurd (e6 h).1 (by simp)⟩;rw[e3,qcD hS hgo];constructor
    .rintro ((h | h) | ⟨u,hu,h⟩)
     .exact .inl h
     .exact .inr ⟨w,A2 ..,hq,h⟩
     exact .inr ⟨u,A3 _ hu,h⟩
    rintro (h | ⟨u,hu,h,h2⟩)
    .exact .inl (.inl h)
    rcases List.mem_cons.1 hu with rfl | hu
    .exact .inl (.inr h2)
    exact .inr ⟨u,hu,h,h2⟩
  rw[dF hq,cN,cN];obtain⟨S',ch',e1,e2,e3,e4,e5,e6⟩:=qco hr hN K ws (k+1) S ch hS hw';refine⟨S',ch',e1,e2,fun g=>?_,e4,e5,e6⟩;rw[e3];constructor
  .rintro (h | ⟨u,hu,h⟩)
   .exact .inl h
   exact .inr ⟨u,A3 _ hu,h⟩
  rintro (h | ⟨u,hu,h,h2⟩)
  .exact .inl h
  rcases List.mem_cons.1 hu with rfl | hu
  .exact absurd h hq
  exact .inr ⟨u,hu,h,h2⟩
theorem HX (S:LM):okW (setB S):=fun g h=>h.1
theorem qjg {ar:Int->Nat} {fuel:Nat} (hf:5<=fuel) {N:LM} (hN:N.length=252) (N1:LM->Bool->Ln):∀ (L:LN) (k:Nat) (S:LM) (ch:Bool),(∀ r,r∈L->okL ar (toR r))->S.length=252->arW ar (setB S) ->
  ∃ S' ch',JC fuel N N1 L k S ch=N1 S' ch'/\S'.length=252/\arW ar (setB S')/\(∀ g,setB S g->setB S' g)/\cntB S<=cntB S'/\(ch'=true->ch=true\/cntB S<cntB S')/\(ch'=false->ch=false/\S'=S/\ClosedR (L.map toR) (setB N) (setB S))/\(∀ Q:rufact->Prop,(∀ g,setB S g->Q g)->ClosedR (L.map toR) (setB N) Q->∀ g,setB S' g->Q g)
 | [],k,S,ch,_,hS,har=>⟨S,ch,by rw[JC],hS,har,fun g h=>h,Nat.le_refl _,.inl,fun h=>⟨h,rfl,fun r hr=>by simp at hr⟩,fun Q h _=>h⟩
 | r::L,k,S,ch,hL,hS,har=>by
  have hr:=hL r (A2 ..)
  have hbl:r.qe.length<=3:=by have:=hr.1.1;simpa[toR] using this
  have hiv:=Yt (r:=r) hbl (fun x hx=>by
   have:=(hr.body (toL x) (List.mem_map.2 ⟨x,hx,rfl⟩)).1
   exact⟨qI this,this.2.1.2⟩) hS r.qe.length fuel 0 v0 oM oM (by simp)
  rw[List.drop_zero]at hiv;replace hiv:jV fuel r S 0 (B1 8 0)=some (instR S (r.qe.map toL) v0):=hiv
  have hmem:∀ w,w∈instR S (r.qe.map toL) v0↔InstP (setB S) (toR r).qe v0 w:=fun w=>Vu _ _ _
  have hlen:(instR S (r.qe.map toL) v0).length<=16003008:=by
   have h1:=Vv S (r.qe.map toL) v0;rw[A7]at h1;have h2:252 ^ r.qe.length<=252 ^ 3:=E9 oM hbl
   have:252 ^ 3=16003008:=by decide
   omega
  rw[JC,NH (dT hS),hiv];simp only[A0];rw[NH (qy (by omega))]
  obtain⟨S1,c1,e1,e2,e3,e4,e5,e6⟩:=qco hr hN (XL (JC fuel N N1 L (k+1))) (instR S (r.qe.map toL) v0) 0 S ch hS fun w hw=>hr.inst (HX S) ((hmem w).1 hw)
  rw[e1];unfold XL
  have har1:arW ar (setB S1):=fun g hg=>by
   rcases (e3 g).1 hg with h | ⟨w,hw,_,rfl⟩
   .exact har g h
   exact hr.ground (HX S) ((hmem w).1 hw)
  obtain⟨S2,c2,g1,g2,g3,g4,g5,g6,g7,g8⟩:=qjg hf hN N1 L (k+1) S1 c1 (fun q hq=>hL q (A3 _ hq)) e2 har1;refine⟨S2,c2,g1,g2,g3,fun g h=>g4 g ((e3 g).2 (.inl h)),by omega,fun h=>?_,fun h=>?_,fun Q h1 h2=>?_⟩
  .rcases g6 h with h | h
   .rcases e5 h with h | h
    .exact .inl h
    exact .inr oM
   exact .inr oM
  .obtain⟨a1,a2,a3⟩:=g7 h;obtain⟨b1,b2⟩:=e6 a1;subst b2;refine⟨b1,a2,fun q hq w hw hfr=>?_⟩;rw[A9]at hq
   rcases List.mem_cons.1 hq with rfl | hq
   .exact (e3 _).2 (.inr ⟨w,(hmem w).2 hw,hfr,rfl⟩)
   exact a3 q hq w hw hfr
  refine g8 Q (fun g hg=>?_) (fun q hq=>h2 q (by rw[A9];exact A3 _ hq))
  rcases (e3 g).1 hg with h | ⟨w,hw,hfr,rfl⟩
  .exact h1 g h
  exact h2 (toR r) (by rw[A9];exact A2 ..) w (NG h1 ((hmem w).1 hw)) hfr
theorem qjh {ar:Int->Nat} {fuel:Nat} (hf:5<=fuel) {L:LN} (hl:L.length<=12) (hL:∀ r,r∈L->okL ar (toR r)) {N:LM} (hN:N.length=252) {G:rufact->Prop} (K:LM->Ln):∀ (n m:Nat) (S:LM),S.length=252->arW ar (setB S)->253<=cntB S+n->n+1<=m->(∀ g,G g->setB S g)->(∀ Q:rufact->Prop,(∀ g,G g->Q g)->ClosedR (L.map toR) (setB N) Q->∀ g,setB S g->Q g) ->
  ∃ S',JD fuel L N K m S true=K S'/\S'.length=252/\arW ar (setB S')/\LeastR (L.map toR) (setB N) G (setB S')
 | 0,m,S,hS,har,hn,hm,hG,hQ=>by have:=qji S;omega
 | n+1,0,S,hS,har,hn,hm,hG,hQ=>by omega
 | n+1,m+1,S,hS,har,hn,hm,hG,hQ=>by
  obtain⟨S2,c2,g1,g2,g3,g4,g5,g6,g7,g8⟩:=qjg hf hN (JD fuel L N K m) L 0 S false hL hS har;rw[JD,cT,NH (qy (by omega)),g1]
  cases c2 with
  | true =>
   rcases g6 rfl with h | h
   .cases h
   exact qjh hf hl hL hN K n m S2 g2 g3 oM oM (fun g hg=>g4 g (hG g hg)) (fun Q h1 h2=>g8 Q (hQ Q h1 h2) h2)
  | false =>
   obtain⟨_,rfl,h3⟩:=g7 rfl
   match m,hm with
   | m+1,_ =>
    rw[JD,cN];exact⟨S2,rfl,g2,g3,hG,h3,hQ⟩
theorem qem {fuel:Nat} (hf:300<=fuel) {L:LN} (hl:L.length<=12) (hL:∀ r,r∈L->okL ar (toR r)) {N:LM} (hS:S.length=252) (hN:N.length=252) (har:arW ar (setB S)) :
  ∃ S',QX fuel L S N=some S'/\S'.length=252/\arW ar (setB S')/\LeastR (L.map toR) (setB N) (setB S) (setB S'):=by
 obtain⟨S',e1,e2,e3,e4⟩:=qjh (by omega:5<=fuel) hl hL hN (G:=setB S) Yk 253 fuel S hS har oM oM (fun g h=>h) (fun Q h _=>h);refine⟨S',?_,e2,e3,e4⟩;unfold QX;rw[NH (by cases S <;> simp_all),NH (by cases N <;> simp_all),e1];unfold Yk;rw[NH (dT e2),NH (dT ⟨e2,by simp⟩),NH (dT e2)]
structure StR (ar:Int->Nat) (out:LB) (S:LM):Prop where
 nt:NT out
 ar:arW ar (fun g=>g∈out.map A1)
 len:S.length=252
 same:∀ g,g∈out.map A1↔setB S g
theorem StR.arB (h:StR ar out S):arW ar (setB S):=fun g hg=>h.ar g ((h.same g).2 hg)
theorem qjp {fuel:Nat} (hf:300<=fuel) {L:LN} (hl:L.length<=12) (hL:∀ r,r∈L->okL ar (toR r)) (h:StR ar out S) :
  ∃ out' S',consP fuel (L.map toR) out out=some out'/\QX fuel L S S=some S'/\StR ar out' S':=by
 obtain⟨out',a1,a2,a3,a4⟩:=qeV (L:=L.map toR) (fun r hr=>by
  obtain⟨q,hq,rfl⟩:=List.mem_map.1 hr
  exact hL q hq) (by rw[A7];exact hl) h.nt h.nt h.ar (by omega:253<=fuel)
 obtain⟨S',b1,b2,b3,b4⟩:=qem hf hl hL h.len h.len h.arB;exact⟨out',S',a1,b1,a2,a3,b2,a4.same b4 h.same h.same⟩
theorem qjG {fuel:Nat} (hf:300<=fuel) (h:StR ar out S):∃ S',QX fuel [] S S=some S'/\StR ar out S':=by
 obtain⟨S',b1,b2,b3,b4⟩:=qem (L:=[]) hf (by simp) (fun r hr=>by simp at hr) h.len h.len h.arB;refine⟨S',b1,h.nt,h.ar,b2,fun g=>?_⟩;rw[h.same];exact⟨b4.sub g,b4.least (setB S) (fun g h=>h) (fun r hr=>by simp at hr) g⟩
def inS (v:LA) (k:Nat) (r:rf3Rule):Bool:=v.getD r.qi.qc.toNat 0 == (k:Int)
def partS (v:LA) (k:Nat) (l:LN):LN:=l.filter (inS v k)
theorem idx6 (hv:v.length=6) {n:Int} (h:rel6 n):idx v n=some (v.getD n.toNat 0):=by
 have:=h.1;have:=h.2;unfold idx;rw[if_pos h.1,A8,D0 (by omega)];rfl
theorem Da {v:LA} (hv:v.length=6) {b:Bool} (k1:Nat) (K:LH->Lm):∀ (l:LN) (k:Nat) (acc:LH),(∀ r,r∈l->rel6 r.qi.qc)->acc.length+l.length<=1000->Qk k1 (v,b) K (l.map toR) k acc=K (acc++(partS v k1 l).map toR)
 | [],k,acc,_,_=>by rw[List.map_nil,Qk];simp[partS]
 | r::l,k,acc,h,hl=>by
  have hr:=h r (A2 ..)
  have h':∀ q,q∈l->rel6 q.qi.qc:=fun q hq=>h q (A3 _ hq)
  rw[A4]at hl;rw[A9,Qk];show (idx v r.qi.qc).bind _=_;rw[idx6 hv hr];simp only[A0];unfold YS partS;rw[List.filter_cons]
  cases hq:inS v k1 r with
  | true =>
   have hq':(v.getD r.qi.qc.toNat 0 == (k1:Int))=true:=hq;rw[hq',cT,NH (Xc (by omega) (by simp;omega)),Da hv k1 K l (k+1) _ h' (by simp;omega)];simp[partS]
  | false =>
   have hq':(v.getD r.qi.qc.toNat 0 == (k1:Int))=false:=hq;rw[hq',cN,Da hv k1 K l (k+1) _ h' (by omega)];simp[partS]
theorem Dc {v:LA} (hv:v.length=6) {b:Int} (k1:Nat) (K:LN->Lp):∀ (l:LN) (k:Nat) (acc:LN),(∀ r,r∈l->rel6 r.qi.qc)->acc.length+l.length<=1000->Ya k1 (v,b) K l k acc=K (acc++partS v k1 l)
 | [],k,acc,_,_=>by rw[Ya];simp[partS]
 | r::l,k,acc,h,hl=>by
  have hr:=h r (A2 ..)
  have h':∀ q,q∈l->rel6 q.qi.qc:=fun q hq=>h q (A3 _ hq)
  rw[A4]at hl;rw[Ya];show (idx v r.qi.qc).bind _=_;rw[idx6 hv hr];simp only[A0];unfold Ur partS;rw[List.filter_cons]
  cases hq:inS v k1 r with
  | true =>
   have hq':(v.getD r.qi.qc.toNat 0 == (k1:Int))=true:=hq;rw[hq',cT,NH (Xc (by omega) (by simp;omega)),Dc hv k1 K l (k+1) _ h' (by simp;omega)];simp[partS]
  | false =>
   have hq':(v.getD r.qi.qc.toNat 0 == (k1:Int))=false:=hq;rw[hq',cN,Dc hv k1 K l (k+1) _ h' (by omega)];simp[partS]
theorem qiL {ar:Int->Nat} {fuel:Nat} (hf:300<=fuel) {l:LN} (hl:l.length<=12) (hr:∀ r,r∈l->rel6 r.qi.qc) {v:LA} (hv:v.length=6) {b:Int}:∀ (L:LP) (k:Nat) (out:LB) (S:LM),StR ar out S->(∀ j,k<=j->partS v j l=[]) ->
  ∃ S',Xm fuel l (v,b) ZE L k S=some (S',0)/\StR ar out S'
 | [],k,out,S,h,_=>by
  refine⟨S,?_,h⟩;rw[Xm];unfold ZE;rw[NH (dT h.len),NH (dT ⟨h.len,by simp⟩),NH (dT h.len)]
 | x::L,k,out,S,h,he=>by
  obtain⟨S1,s1,s2⟩:=qjG hf h
  obtain⟨S2,q1,q2⟩:=qiL hf hl hr hv L (k+1) out S1 s2 fun j hj=>he j oM
  refine⟨S2,?_,q2⟩;rw[Xm,NH (qy (by omega)),Dc hv k _ l 0 [] hr (by simp;omega),he k (by omega)];unfold Us;rw[NH (dT h.len),NH (dT h.len),List.append_nil,s1];simp only[A0];rw[NH (dT ⟨s2.len,h.len⟩)];exact q1
theorem qgv {ar:Int->Nat} {fuel:Nat} (hf:300<=fuel) {l:LN} (hl:l.length<=12) (hL:∀ r,r∈l->okL ar (toR r)) {v:LA} (hv:v.length=6) {b:Int} {c:Bool}:∀ (L L':LP) (k:Nat) (out:LB) (S:LM),StR ar out S->L.length<=L'.length->(∀ j,k+L.length<=j->partS v j l=[]) ->
  ∃ out' S',jQ fuel (l.map toR) (v,c) Qg L k out=some (out',true)/\Xm fuel l (v,b) ZE L' k S=some (S',0)/\StR ar out' S'
 | [],L',k,out,S,h,_,he=>by
  obtain⟨S',s1,s2⟩:=qiL (b:=b) hf hl (fun r hr=>Xq (hL r hr).head.1) hv L' k out S h fun j hj=>he j (by simpa using hj)
  exact⟨out,S',by rw[jQ];rfl,s1,s2⟩
 | x::L,[],k,out,S,h,hlen,he=>by simp at hlen
 | x::L,y::L',k,out,S,h,hlen,he=>by
  have hrel:∀ r,r∈l->rel6 r.qi.qc:=fun r hr=>Xq (hL r hr).head.1
  have hp:(partS v k l).length<=12:=E8 (F6 ..) hl;obtain⟨o1,S1,a1,a2,a3⟩:=qjp hf hp (fun r hr=>hL r (List.mem_filter.1 hr).1) h
  obtain⟨o2,S2,b1,b2,b3⟩:=qgv hf hl hL hv (b:=b) (c:=c) L L' (k+1) o1 S1 a3 (by simpa using hlen) fun j hj=>he j (by rw[A4];omega)
  refine⟨o2,S2,?_,?_,b3⟩
  .rw[jQ,NH (qy (by rw[A7];omega)),Da hv k _ l 0 [] hrel (by simp;omega)];unfold Xl Yw;rw[D2,a1];simp only[A0];exact b1
  rw[Xm,NH (qy (by omega)),Dc hv k _ l 0 [] hrel (by simp;omega)];unfold Us;rw[NH (dT h.len),NH (dT h.len),D2,a2];simp only[A0];rw[NH (dT ⟨a3.len,h.len⟩)];exact b2
def toF (f:apiFact):rufact:=mkF f.qc f.qa
theorem Xz {f:apiFact} (h:groundP f):okU1 (toF f)/\argsF (toF f)=f.qa:=qkW h.1 h.2.1 h.2.2
theorem qcm {f:apiFact} (h:groundP f):VG f=some (toF f):=by
 have e:f=apiF (toF f):=by rw[Vz,(Xz h).2];rfl
 calc VG f=VG (apiF (toF f)):=by rw[<- e]
  _=some (toF f):=qlU
theorem UP (K:LB->Option LB):∀ (l:LG) (k:Nat) (acc:LB),(∀ f,f∈l->groundP f)->NT acc->acc.length+l.length<=1000->Xe K l k acc=K (addF acc (l.map toF))
 | [],k,acc,_,_,_=>by rw[Xe];rfl
 | f::l,k,acc,h,hn,hl=>by
  have hf:=h f (A2 ..);rw[A4]at hl;have hw:=(Xz hf).1.wf;unfold wfF at hw;obtain⟨m1,m2,m3,m4⟩:=hn.mset (toF f)
  have hlen:(mset qf (toF f) true acc).length<=acc.length+1:=by
   by_cases hm:toF f∈acc.map A1
   .have:∀ {l:LB},toF f∈l.map A1->(mset qf (toF f) true l).length=l.length:=by
     intro l
     induction l with
     | nil=>intro h;simp at h
     | cons p r ih =>
      intro h;unfold mset
      cases hq:qf p.1 (toF f) with
      | true=>rfl
      | false =>
       rw[cN,A4,A4,ih];rw[A9]at h
       rcases List.mem_cons.1 h with h | h
       .exact absurd h.symm (YL.1 hq)
       exact h
    rw[this hm];omega
   rw[m4 hm];omega
  rw[Xe,qcm hf];simp only[A0];rw[NH hw,NH (by rw[Nat.blt_eq];omega),UP K l (k+1) _ (fun g hg=>h g (A3 _ hg)) m1 (by omega)];rfl
theorem qkH (K:LM->Ln):∀ (l:LG) (k:Nat) (S:LM),(∀ f,f∈l->groundP f)->S.length=252->∃ S',UK K l k S=K S'/\S'.length=252/\∀ g,setB S' g↔setB S g\/g∈l.map toF
 | [],k,S,_,hS=>⟨S,by rw[UK],hS,fun g=>by simp⟩
 | f::l,k,S,h,hS=>by
  have hf:=h f (A2 ..);obtain⟨h1,h2⟩:=Xz hf;have hlt:=QM h1;obtain⟨S',e1,e2,e3⟩:=qkH K l (k+1) (S.set (codeF (toF f)) true) (fun g hg=>h g (A3 _ hg)) (by rw[D6,hS]);refine⟨S',?_,e2,fun g=>?_⟩
  .have hc:=qdr h1;rw[h2]at hc;replace hc:QW f.qc f.qa=_:=hc;rw[UK,hc];simp only[A0];rw[NH (dT ⟨by omega,by omega,by omega⟩),NH (dT (by omega)),D7,D3,C7];exact e1
  rw[e3,qcD hS h1,A9,D8];constructor
  .rintro ((h | h) | h)
   .exact .inl h
   .exact .inr (.inl h)
   exact .inr (.inr h)
  rintro (h | h | h)
  .exact .inl (.inl h)
  .exact .inl (.inr h)
  exact .inr h
theorem VQ {l:LG} (hl:l.length<=100) (h:∀ f,f∈l->groundP f) (har:∀ f,f∈l->f.qa.length=ar f.qc):∃ out S,QS l=some out/\qfs l=some S/\StR ar out S:=by
 obtain⟨S,e1,e2,e3⟩:=qkH qbn l 0 (B1 252 false) h (by simp);obtain⟨a1,a2,a3,a4⟩:=NT.empty.add (fr:=l.map toF)
 have hm:∀ g,g∈(addF [] (l.map toF)).map A1↔g∈l.map toF:=fun g=>by rw[a2];simp
 have h0:∀ g,¬ setB (B1 252 false) g:=fun g hg=>by
  have:=hg.2;rw[A8,G1]at this;split at this <;> simp at this
 refine⟨addF [] (l.map toF),S,?_,?_,a1,fun g hg=>?_,e2,fun g=>?_⟩
 .unfold QS;rw[NH (qy (by omega)),UP _ l 0 [] h NT.empty (by simp;omega)];rfl
 .unfold qfs;rw[NH (qy (by omega)),e1];unfold qbn;rw[NH (dT e2),NH (dT ⟨e2,by simp⟩),NH (dT e2)]
 .obtain⟨f,hf,rfl⟩:=List.mem_map.1 ((hm g).1 hg);obtain⟨h1,h2⟩:=Xz (h f hf);exact⟨h1,by rw[h2];exact har f hf⟩
 rw[hm,e3];exact⟨.inr,fun q=>q.resolve_left (h0 g)⟩
def arOf (S:List Jz) (rel:Int):Nat:=match S.find? fun s=>s.f_0 == rel with
 | some s=>s.f_1.toNat
 | none=>1
theorem qho {S:List Jz} (hS:conP S) {s:Jz} (hs:s∈S):arOf S s.f_0=s.f_1.toNat:=by
 unfold arOf
 cases hf:S.find? fun t=>t.f_0 == s.f_0 with
 | none =>
  have:=List.find?_eq_none.1 hf s hs;simp at this
 | some t =>
  have h1:=List.mem_of_find?_eq_some hf
  have h2:t.f_0=s.f_0:=by simpa using List.find?_some hf
  show t.f_1.toNat=s.f_1.toNat;rw[hS t h1 s hs h2]
abbrev szVR (l:LN) (facts:LG):List Jz:=facts.map szF++l.flatMap sizesR
abbrev arVR (l:LN) (facts:LG):Int->Nat:=arOf (szVR l facts)
theorem VR.facts_ar (h:VR l facts):∀ f,f∈facts->f.qa.length=arVR l facts f.qc:=fun f hf=>by
 have:=qho h.2.2.2.2 (s:=szF f) (List.mem_append_left _ (List.mem_map.2 ⟨f,hf,rfl⟩));show _=arOf _ (szF f).f_0;rw[this];rfl
theorem VR.okL {l:LN} {facts:LG} (h:VR l facts):∀ r,r∈l->okL (arVR l facts) (toR r):=fun r hr=>by
 have h1:=h.2.2.2.1 r hr
 have h2:okU (toR r):=by rw[<- qlo h1];exact (qiN r).2 h1
 refine⟨h2,fun a ha=>?_⟩
 have key:∀ t:rf2Atom,szA t∈sizesR r->t.qa.length=arVR l facts t.qc:=fun t ht=>by
  have:=qho h.2.2.2.2 (s:=szA t) (List.mem_append_right _ (List.mem_flatMap.2 ⟨r,hr,ht⟩));show _=arOf _ (szA t).f_0;rw[this];rfl
 rcases List.mem_cons.1 ha with rfl | ha
 .exact key r.qi (A2 ..)
 obtain⟨x,hx,rfl⟩:=List.mem_map.1 ha;obtain⟨y,hy,rfl⟩:=List.mem_map.1 hx;exact key y.qg (A3 _ (List.mem_map.2 ⟨y,hy,rfl⟩))
theorem qcM (h:∀ r,r∈l->Go.AM.okL ar (toR r)):relsR l:=fun r hr=>by
 have h1:=h r hr;refine⟨Xq h1.head.1,by have:=h1.1.1;simpa[toR] using this,fun b hb=>Xq (h1.body (toL b) (List.mem_map.2 ⟨b,hb,rfl⟩)).1⟩
theorem qgh (h:∀ r,r∈l->Go.AM.okL ar (toR r)):relsU (l.map toR):=fun q hq=>by
 obtain⟨r,hr,rfl⟩:=List.mem_map.1 hq;have h1:=h r hr;exact⟨Xq h1.head.1,h1.1.1,fun b hb=>Xq (h1.body b hb).1⟩
theorem qgY (l:LN):edgesU (l.map toR)=edgesR l:=by
 unfold edgesU edgesR;rw[List.flatMap_map];simp only[toR,List.map_map,Function.comp_def,toL,toA]
theorem qib {fuel:Nat} (hf:300<=fuel) (hl:l.length<=10) (hL:∀ r,r∈l->Go.AM.okL ar (toR r)) (h2:facts.length<=100) (h3:∀ f,f∈facts->groundP f) (har:∀ f,f∈facts->f.qa.length=ar f.qc) :
  (∃ out S,Qc fuel (l.map toR) facts=some (out,true)/\De fuel l facts=some (S,0)/\StR ar out S)\/(Qc fuel (l.map toR) facts=some ([],false)/\De fuel l facts=some (B1 252 false,8)):=by
 obtain⟨o0,S0,g1,g2,g3⟩:=VQ h2 h3 har
 rcases qbF (by omega:100<=fuel) hl (by rw[A7];exact hl) (qcM hL) (qgh hL) (qgY l) with ⟨v,hv,_,s1,s2⟩ | ⟨s1,s2⟩
 .left;obtain⟨M,m1,m2,m3⟩:=qcT (by omega:10<=fuel) hv.1;obtain⟨i,hi,he⟩:=List.getElem_of_mem m2
  have hM:0<=M/\M<=5:=by
   have:=hv.2 i;rw[A8,D0 hi]at this;rw[<- he];exact this
  have hn:(D4 (A6 (A5 .i64 (M+1)))).length=M.toNat+1:=by
   rw[wrap64 (by omega) (by omega),F7];omega
  obtain⟨o,S,a1,a2,a3⟩:=qgv (b:=0) (c:=true) hf (by omega:l.length<=12) hL hv.1 (D4 (A6 (A5 .i64 (M+1)))) (D4 (A6 6)) 0 o0 S0 g3 (by rw[hn,F7];omega) (fun j hj=>by
   rw[hn]at hj;unfold partS;rw[List.filter_eq_nil_iff];intro r hr hq;have hrr:rel6 r.qi.qc:=Xq (hL r hr).head.1;have:=m3 r.qi.qc.toNat (by have:=hrr.1;have:=hrr.2;omega)
   have hq:v.getD r.qi.qc.toNat 0=(j:Int):=by simpa[inS] using hq
   omega)
  refine⟨o,S,?_,?_,a3⟩
  .unfold Qc;rw[s2];simp only[A0,D1,cN];rw[g1];simp only[A0];rw[m1];simp only[A0];rw[NH (qy (by rw[hn];omega))];exact a1
  unfold De;rw[s1];simp only[A0];rw[g2];simp only[A0];rw[NH (dT ⟨g3.len,by simp⟩)];simp only[bne_self_eq_false,cN];rw[NH (qy (by simp))];exact a2
 right;refine⟨?_,?_⟩
 .unfold Qc;rw[s2];rfl
 unfold De;rw[s1];simp only[A0];rw[g2];simp only[A0];rw[NH (dT ⟨g3.len,by simp⟩)];rfl
end Go.AM
namespace Go.AM
open Go.Proofs Go.Sort
open Classical
def keyOf (n:Nat):LA:=(decF n).qn::argsF (decF n)
theorem qjy {f:apiFact} (h:f.qa.length<=1000):YD f f=some true:=by
 have key:∀ (r:LA) (k:Nat),(∃ p:LA,p.length=k/\f.qa=p++r)->jm f.qa Qx r k=some true:=by
  intro r
  induction r with
  | nil=>intro k _;rw[jm];rfl
  | cons x r ih =>
   rintro k ⟨p,hp,h2⟩
   have hi:idx f.qa (k:Int)=some x:=by
    unfold idx;rw[if_pos (by omega),C7,h2,G2 (by omega),hp,Nat.sub_self];rfl
   rw[jm,hi];simp only[A0,bne_self_eq_false,cN];exact ih (k+1) ⟨p++[x],by simp[hp],by rw[h2];simp⟩
 unfold YD Xh;rw[beq_self_eq_true,cT,bne_self_eq_false,cN,NH (qy (by omega)),key f.qa 0 ⟨[],rfl,rfl⟩];rfl
theorem qkD {l:LG} (hl:l.length<=1000) (h:∀ f,f∈l->f.qa.length<=1000):Hj l l=some true:=by
 have key:∀ (r:LG) (k:Nat),(∃ p:LG,p.length=k/\l=p++r)->qX l (fun y0 y1=>YD y0 y1) Ji r k=some true:=by
  intro r
  induction r with
  | nil=>intro k _;rw[qX];rfl
  | cons x r ih =>
   rintro k ⟨p,hp,h2⟩
   have hi:idx l (k:Int)=some x:=by
    unfold idx;rw[if_pos (by omega),C7,h2,G2 (by omega),hp,Nat.sub_self];rfl
   rw[qX,hi];simp only[A0];rw[qjy (h x (by rw[h2];simp))];simp only[A0,D1,cN];exact ih (k+1) ⟨p++[x],by simp[hp],by rw[h2];simp⟩
 unfold Hj QF;rw[bne_self_eq_false,cN,NH (qy (by omega)),key l 0 ⟨[],rfl,rfl⟩];rfl
abbrev awR:LH:=[(ruRule.mk (qo.mk 1 [0]) [(ruLit.mk false (qo.mk 0 [0]))])]
abbrev awF:LG:=[(apiFact.mk 0 [3])]
theorem qhi (n:Nat):Xp (n+30) awR awF=some true:=by rfl
theorem qhj (n:Nat):Qc (n+30) awR awF=some ([(⟨0,3,0⟩,true),(⟨1,3,0⟩,true)],true):=by rfl
theorem qir:sortF (apis [((⟨0,3,0⟩:rufact),true),(⟨1,3,0⟩,true)])=[⟨0,[3]⟩,⟨1,[3]⟩]:=by
 show sortF [⟨0,[3]⟩,⟨1,[3]⟩]=_;unfold sortF;refine List.mergeSort_of_pairwise ?_;simp only[List.pairwise_cons,D8,List.not_mem_nil,or_false,forall_eq,false_implies,implies_true,List.Pairwise.nil,and_true,Bool.not_eq_true'];rw[ltFf]
 decide
theorem qis:XG [((⟨0,3,0⟩:rufact),true),(⟨1,3,0⟩,true)]=some [⟨0,[3]⟩,⟨1,[3]⟩]:=by
 unfold XG;rw[NH (by rfl),qir]
theorem qkj (n:Nat):QZ (n+30)=some true:=by
 unfold QZ XH;rw[qhi];simp only[A0,D1,cN];rw[qhj];simp only[A0,D1,cN];rw[qis];simp only[A0];rw[show ((0:Int) == 0)=true from rfl,cT,qkD (by simp) (by simp)];rfl
end Go.AM
namespace Go.AM
open Go.Proofs Go.Proofs.Ytdghpfejmlpjhaa Go.ChangeShapes Go.WideShapes Go.ChangeAt Go.RowKit
abbrev wA (l:LA):Prop:=l.length<=maxLen/\∀ x,x∈l->wfI .i64 x=true
abbrev wAt (a:rf2Atom):Prop:=wfI .i64 a.qc=true/\wA a.qa
abbrev wFa (f:apiFact):Prop:=wfI .i64 f.qc=true/\wA f.qa
abbrev wRu (r:rf3Rule):Prop:=wAt r.qi/\r.qe.length<=maxLen/\∀ b,b∈r.qe->wAt b.qg
theorem qaA:Reads Try.prog 3 (AV.int .i64) (fun n=>wfI .i64 n=true):=qjD (P:=Try.prog) (t:=3) (k:=.i64) kR
theorem qej:Reads Try.prog 39 (encL 3 1 (AV.int .i64)) wA :=
 Ue kR kR (by decide) qaA (fun _=>rfl) (fun _=>rfl)
theorem qek:Reads Try.prog 41 qH wFa :=
 Vi (P := Try.prog) (size := 2) (fs := #[Field.mk "Rel" 3 0 false "" "" 0, Field.mk "Args" 39 1 false "" "" 8]) (fun b : Int × LA × Unit => (⟨b.1, b.2.1⟩ : apiFact)) kR kR
  (QL (f:=AV.int .i64) (ok:=fun n=>wfI .i64 n=true) (n:=1) (off':=1) rfl kR rfl qaA (QL (f:=encL 3 1 (AV.int .i64)) (ok:=wA) (n:=1) (off':=2) rfl kR rfl qej (Uk rfl)))
  (fun b=>rfl) (fun b h=>⟨h.1,h.2.1⟩)
theorem qel:Reads Try.prog 91 qbz wAt :=
 Vi (P := Try.prog) (size := 2) (fs := #[Field.mk "Rel" 3 0 false "" "" 0, Field.mk "Args" 39 1 false "" "" 8]) (fun b : Int × LA × Unit => (⟨b.1, b.2.1⟩ : rf2Atom)) kR kR
  (QL (f:=AV.int .i64) (ok:=fun n=>wfI .i64 n=true) (n:=1) (off':=1) rfl kR rfl qaA (QL (f:=encL 3 1 (AV.int .i64)) (ok:=wA) (n:=1) (off':=2) rfl kR rfl qej (Uk rfl)))
  (fun b=>rfl) (fun b h=>⟨h.1,h.2.1⟩)
theorem qkL:Reads Try.prog 96 UT (fun b=>wAt b.qg) :=
 Vi (P := Try.prog) (size := 3) (fs := #[Field.mk "Not" 4 0 false "" "" 0, Field.mk "Atom" 91 1 false "" "" 8]) (fun b : Bool × rf2Atom × Unit => (⟨b.1, b.2.1⟩ : rf3Lit)) kR kR
  (QL (f:=AV.bool) (ok:=fun _=>True) (n:=1) (off':=1) rfl kR rfl (qhI kR) (QL (f:=qbz) (ok:=wAt) (n:=2) (off':=3) rfl kR rfl qel (Uk rfl)))
  (fun b=>rfl) (fun b h=>h.2.1)
theorem qjF:Reads Try.prog 92 (encL 96 3 UT) (fun l=>l.length<=maxLen/\∀ b,b∈l->wAt b.qg) :=
 Ue kR kR (by decide) qkL (fun _=>rfl) (fun _=>rfl)
theorem qjE:Reads Try.prog 94 US wRu :=
 Vi (P := Try.prog) (size := 3) (fs := #[Field.mk "Head" 91 0 false "" "" 0, Field.mk "Body" 92 2 false "" "" 32]) (fun b : rf2Atom × Lq × Unit => (⟨b.1, b.2.1⟩ : rf3Rule)) kR kR
  (QL (f:=qbz) (ok:=wAt) (n:=2) (off':=2) rfl kR rfl qel (QL (f:=encL 96 3 UT) (ok:=fun l=>l.length<=maxLen/\∀ b,b∈l->wAt b.qg) (n:=1) (off':=3) rfl kR rfl qjF (Uk rfl)))
  (fun b=>rfl) (fun b h=>⟨h.1,h.2.1⟩)
theorem qhJ:Reads Try.prog 22 (encL 94 3 US) (fun l=>l.length<=maxLen/\∀ r,r∈l->wRu r) :=
 Ue kR kR (by decide) qjE (fun _=>rfl) (fun _=>rfl)
theorem qhL:Reads Try.prog 23 (encL 41 2 qH) (fun l=>l.length<=maxLen/\∀ f,f∈l->wFa f) :=
 Ue kR kR (by decide) qek (fun _=>rfl) (fun _=>rfl)
theorem UO {α:Type} {l:List α} (h:l.length<=maxLen):lenOk l=true:=Nat.ble_eq_true_of_le (by unfold maxLen at h;omega)
theorem own:ownKnob Try.prog.godebug=none:=by kernel_rfl
theorem mixed:Try.prog.follows .mixedOrders=true:=by kernel_rfl
theorem laid:laidOutB Try.prog=true:=by kernel_rfl
end Go.AM
namespace Go.AM
open Go.Proofs
variable {l:LN} {lev:Int->Nat} {L:LH} {x:ruLit} {v:LA}
theorem qbq {l:LA} (h:wA l):okArgs l:=⟨UO h.1,h.2⟩
theorem qhW (h:l.length<=maxLen/\∀ r,r∈l->wRu r):okRules l :=
 ⟨UO h.1,fun r hr=>⟨⟨(h.2 r hr).1.1,qbq (h.2 r hr).1.2⟩,UO (h.2 r hr).2.1,fun b hb=>⟨((h.2 r hr).2.2 b hb).1,qbq ((h.2 r hr).2.2 b hb).2⟩⟩⟩
theorem qhX {l:LG} (h:l.length<=maxLen/\∀ f,f∈l->wFa f):okFacts l :=
 ⟨UO h.1,fun f hf=>⟨(h.2 f hf).1,qbq (h.2 f hf).2⟩⟩
def bigFuel:Nat:=500
theorem big400:400<=bigFuel:=by decide
open Classical
theorem HM {P Q:rufact->Prop}:∀ {body:LQ} {v w:LA},(∀ x,x∈body->x.qw=false->∀ g,P g->g.qn=x.qg.qc->Q g)->InstP P body v w->InstP Q body v w
 | [],v,w,_,hi=>hi
 | x::body,v,w,h,hi=>by
  have h':=fun y (hy:y∈body)=>h y (A3 _ hy)
  rcases hi with ⟨hn,hi⟩ | ⟨hn,g,u,hg,h1,h2,h3,h4⟩
  .exact .inl ⟨hn,HM h' hi⟩
  exact .inr ⟨hn,g,u,h x (A2 ..) hn g hg h1,h1,h2,h3,HM h' h4⟩
def Strat (lev:Int->Nat) (L:LH):Prop:=∀ r,r∈L->∀ x,x∈r.qe->lev x.qg.qc+(if x.qw=true then 1 else 0)<=lev r.qi.qc
theorem Strat.le (h:Strat lev L) {r:ruRule} (hr:r∈L) (hx:x∈r.qe):lev x.qg.qc<=lev r.qi.qc:=by
 have:=h r hr x hx;omega
theorem Strat.lt (h:Strat lev L) {r:ruRule} (hr:r∈L) (hx:x∈r.qe) (hn:x.qw=true):lev x.qg.qc<lev r.qi.qc:=by
 have:=h r hr x hx;rw[if_pos hn]at this;omega
def partU (lev:Int->Nat) (k:Nat) (L:LH):LH:=L.filter fun r=>lev r.qi.qc == k
theorem qbo {k:Nat} {r:ruRule}:r∈partU lev k L↔r∈L/\lev r.qi.qc=k:=by
 unfold partU;rw[List.mem_filter,beq_iff_eq]
def StepsP (lev:Int->Nat) (L:LH):Nat->Nat->(rufact->Prop)->(rufact->Prop)->Prop
 | _,0,X,Y=>X=Y
 | k,n+1,X,Y=>∃ Z,LeastR (partU lev k L) X X Z/\StepsP lev L (k+1) n Z Y
theorem StepsP.spec {lev:Int->Nat} {L:LH} (hs:Strat lev L):∀ (n k:Nat) (X Y:rufact->Prop),StepsP lev L k n X Y->(∀ r,r∈L->lev r.qi.qc<k+n) ->
  (∀ g,X g->Y g)/\(∀ g,Y g->lev g.qn<k->X g)/\(∀ r,r∈L->k<=lev r.qi.qc->∀ w,InstP Y r.qe v0 w->FreeP Y w r.qe->Y (groundF w r.qi)) /\
   ∀ Q:rufact->Prop,(∀ g,X g->Q g)->(∀ r,r∈L->k<=lev r.qi.qc->∀ w,InstP Q r.qe v0 w->FreeP Y w r.qe->Q (groundF w r.qi))->∀ g,Y g->Q g
 | 0,k,X,Y,h,hk=>by
  have h:X=Y:=h;subst h;exact⟨fun _ h=>h,fun _ h _=>h,fun r hr hq=>by have:=hk r hr;omega,fun Q h _ g hg=>h g hg⟩
 | n+1,k,X,Y,⟨Z,hZ,h⟩,hk=>by
  obtain⟨i1,i2,i3,i4⟩:=StepsP.spec hs n (k+1) Z Y h fun r hr=>by have:=hk r hr;omega
  have hZk:∀ g,Z g->X g\/lev g.qn=k:=hZ.least _ (fun g h=>.inl h) fun r hr w _ _=>.inr (qbo.1 hr).2
  have hlow:∀ g,Y g->lev g.qn<k->X g:=fun g hg hl=>by
   rcases hZk g (i2 g hg oM) with h | h
   .exact h
   omega
  have hXY:∀ g,X g->Y g:=fun g hg=>i1 g (hZ.sub g hg)
  have hfree:∀ r,r∈L->lev r.qi.qc=k->∀ w,FreeP X w r.qe->FreeP Y w r.qe:=fun r hr hl w hf x hx hn hy=>hf x hx hn (hlow _ hy (by
   have:=hs.lt hr hx hn;show lev x.qg.qc<k
   omega))
  refine⟨hXY,hlow,fun r hr hq w hi hf=>?_,fun Q h1 h2=>?_⟩
  .by_cases hl:lev r.qi.qc=k
   .refine i1 _ (hZ.closed r (qbo.2 ⟨hr,hl⟩) w (HM (fun x hx hn g hg hrel=>i2 g hg ?_) hi) fun x hx hn hy=>hf x hx hn (hXY _ hy));have:=hs.le hr hx;rw[hrel];omega
   exact i3 r hr oM w hi hf
  refine i4 Q (hZ.least Q h1 fun r hr w hi hf=>?_) fun r hr hq=>h2 r hr oM
  obtain⟨hr,hl⟩:=qbo.1 hr;exact h2 r hr oM w hi (hfree r hr hl w hf)
theorem StepsP.stable (hs:Strat lev L) {n:Nat} {X Y:rufact->Prop} (h:StepsP lev L 0 n X Y) (hk:∀ r,r∈L->lev r.qi.qc<n):LeastR L Y X Y:=by
 obtain⟨i1,i2,i3,i4⟩:=StepsP.spec hs n 0 X Y h (by simpa using hk);exact⟨i1,fun r hr w=>i3 r hr (Nat.zero_le _) w,fun Q h1 h2=>i4 Q h1 fun r hr _ w=>h2 r hr w⟩
def levV (v:LA) (rel:Int):Nat:=(v.getD rel.toNat 0).toNat
theorem qku (hr:relsR l) (hv:∀ i,0<=v.getD i 0) (h:preE (edgesR l) fun i=>v.getD i 0):Strat (levV v) (l.map toR):=by
 intro r hr x hx;obtain⟨q,hq,rfl⟩:=List.mem_map.1 hr;obtain⟨y,hy,rfl⟩:=List.mem_map.1 hx;have h1:=h (edgeOf q.qi.qc y.qg.qc y.qw) (List.mem_flatMap.2 ⟨q,hq,List.mem_map.2 ⟨y,hy,rfl⟩⟩);have h2:=hv q.qi.qc.toNat;have h3:=hv y.qg.qc.toNat;simp only[edgeOf]at h1;by_cases hn:(toL y).qw=true
 .have hn':y.qw=true:=hn;rw[if_pos hn];rw[if_pos hn']at h1;show (v.getD y.qg.qc.toNat 0).toNat+1<=(v.getD q.qi.qc.toNat 0).toNat;omega
 have hn':¬ y.qw=true:=hn;rw[if_neg hn];rw[if_neg hn']at h1;show (v.getD y.qg.qc.toNat 0).toNat+0<=(v.getD q.qi.qc.toNat 0).toNat;omega
theorem qlR (hv:∀ i,0<=v.getD i 0) (k:Nat) (l:LN):(partS v k l).map toR=partU (levV v) k (l.map toR):=by
 unfold partS partU;rw[List.filter_map]
 congr 1
 refine List.filter_congr fun r _=>?_
 have:=hv r.qi.qc.toNat;unfold inS levV;simp only[Function.comp_def,toR,toA];rw[Bool.eq_iff_iff,beq_iff_eq,beq_iff_eq];omega
abbrev memO (out:LB):rufact->Prop:=fun g=>g∈out.map A1
theorem qes {ar:Int->Nat} {fuel:Nat} (hf:300<=fuel) {l:LN} (hl:l.length<=12) (hL:∀ r,r∈l->okL ar (toR r)) {v:LA} (hv:v.length=6) (h0:∀ i,0<=v.getD i 0) {c:Bool}:∀ (L:LP) (k:Nat) (out:LB),NT out->arW ar (memO out) ->
  ∃ out',jQ fuel (l.map toR) (v,c) Qg L k out=some (out',true)/\NT out'/\arW ar (memO out')/\StepsP (levV v) (l.map toR) k L.length (memO out) (memO out')
 | [],k,out,h1,h2=>⟨out,by rw[jQ];rfl,h1,h2,rfl⟩
 | x::L,k,out,h1,h2=>by
  have hrel:∀ r,r∈l->rel6 r.qi.qc:=fun r hr=>Xq (hL r hr).head.1
  have hp:(partS v k l).length<=12:=E8 (F6 ..) hl
  obtain⟨o1,a1,a2,a3,a4⟩:=qeV (L:=(partS v k l).map toR) (fun r hr=>by
   obtain⟨q,hq,rfl⟩:=List.mem_map.1 hr
   exact hL q (List.mem_filter.1 hq).1) (by rw[A7];exact hp) h1 h1 h2 (by omega:253<=fuel)
  obtain⟨o2,b1,b2,b3,b4⟩:=qes hf hl hL hv h0 (c:=c) L (k+1) o1 a2 a3;refine⟨o2,?_,b2,b3,memO o1,by rw[qlR h0]at a4;exact a4,b4⟩;rw[jQ,NH (qy (by rw[A7];omega)),Da hv k _ l 0 [] hrel (by simp;omega)];unfold Xl Yw;rw[D2,a1];simp only[A0];exact b1
theorem qhT {ar:Int->Nat} {fuel:Nat} (hf:300<=fuel) (hl:l.length<=10) (hL:∀ r,r∈l->Go.AM.okL ar (toR r)) {facts:LG} (h2:facts.length<=100) (h3:∀ f,f∈facts->groundP f) (har:∀ f,f∈facts->f.qa.length=ar f.qc) :
  (∃ v out,in6 v 5/\XU fuel (l.map toR)=some (v,true)/\Strat (levV v) (l.map toR)/\Qc fuel (l.map toR) facts=some (out,true)/\NT out/\arW ar (memO out)/\LeastR (l.map toR) (memO out) (fun g=>g∈facts.map toF) (memO out))\/(XU fuel (l.map toR)=some ([],false)/\Qc fuel (l.map toR) facts=some ([],false)):=by
 obtain⟨o0,S0,g1,g2,g3⟩:=VQ h2 h3 har
 have hg:∀ g,memO o0 g↔g∈facts.map toF:=fun g=>by
  obtain⟨a1,a2,a3,a4⟩:=NT.empty.add (fr:=facts.map toF)
  have:QS facts=some (addF [] (facts.map toF)):=by
   unfold QS;rw[NH (qy (by omega)),UP _ facts 0 [] h3 NT.empty (by simp;omega)];rfl
  rw[g1]at this;cases this;show g∈_↔_;rw[a2];simp
 rcases qbF (by omega:100<=fuel) hl (by rw[A7];exact hl) (qcM hL) (qgh hL) (qgY l) with ⟨v,hv,hpre,s1,s2⟩ | ⟨s1,s2⟩
 .left
  have h0:∀ i,0<=v.getD i 0:=fun i=>(hv.2 i).1
  have hst:=qku (qcM hL) h0 hpre;obtain⟨M,m1,m2,m3⟩:=qcT (by omega:10<=fuel) hv.1;obtain⟨i,hi,he⟩:=List.getElem_of_mem m2
  have hM:0<=M/\M<=5:=by
   have:=hv.2 i;rw[A8,D0 hi]at this;rw[<- he];exact this
  have hn:(D4 (A6 (A5 .i64 (M+1)))).length=M.toNat+1:=by
   rw[wrap64 (by omega) (by omega),F7];omega
  obtain⟨o,a1,a2,a3,a4⟩:=qes (c:=true) hf (by omega:l.length<=12) hL hv.1 h0 (D4 (A6 (A5 .i64 (M+1)))) 0 o0 g3.nt g3.ar
  have hstab:=a4.stable hst (fun r hr=>by
   obtain⟨q,hq,rfl⟩:=List.mem_map.1 hr;have hrr:rel6 q.qi.qc:=Xq (hL q hq).head.1;have:=m3 q.qi.qc.toNat (by have:=hrr.1;have:=hrr.2;omega);rw[hn];unfold levV;simp only[toR,toA]
   omega)
  refine⟨v,o,hv,s2,hst,?_,a2,a3,?_⟩
  .unfold Qc;rw[s2];simp only[A0,D1,cN];rw[g1];simp only[A0];rw[m1];simp only[A0];rw[NH (qy (by rw[hn];omega))];exact a1
  rw[show (fun g=>g∈facts.map toF)=memO o0 from funext fun g=>propext (hg g).symm];exact hstab
 right;refine⟨s2,?_⟩;unfold Qc;rw[s2];rfl
end Go.AM
namespace Go.AM
open Go.RowKit Go.Sort Go.Proofs Go.Lib
end Go.AM
namespace Go.AM
open Go.Proofs
end Go.AM
namespace Go.AM
open Go.Proofs
inductive ruProof where
 | mk (ql:Int) (qd:apiFact) (qj:(List ruProof))
def ruProof.ql:ruProof->Int
 | .mk a0 a1 a2=>a0
def ruProof.qd:ruProof->apiFact
 | .mk a0 a1 a2=>a1
def ruProof.qj:ruProof->(List ruProof)
 | .mk a0 a1 a2=>a2
mutual
def qZ:ruProof->AV
 | .mk a0 a1 a2=>.agg [.int .i64 a0,.int .i64 a1.qc,l3 none a1.qa,.lst 77 4 none (VT a2)]
def VT:List ruProof->LJ
 | []=>[]
 | x::r=>qZ x::VT r
end
def l77 (c:LR) (l:List ruProof):AV:=.lst 77 4 c (C0 qZ l)
theorem Hs:∀ l:List ruProof,VT l=C0 qZ l
 | []=>by rw[VT];rfl
 | x::r=>by rw[VT,Hs r];rfl
theorem Qh (x:ruProof):qZ x=.agg [.int .i64 x.ql,.int .i64 x.qd.qc,l3 none x.qd.qa,l77 none x.qj]:=by
 obtain⟨a0,a1,a2⟩:=x;rw[qZ,Hs];rfl
inductive qr where
 | mk (ql:Int) (qd:apiFact) (qj:(List qr))
def qr.ql:qr->Int
 | .mk a0 a1 a2=>a0
def qr.qd:qr->apiFact
 | .mk a0 a1 a2=>a1
def qr.qj:qr->(List qr)
 | .mk a0 a1 a2=>a2
mutual
def jv:qr->AV
 | .mk a0 a1 a2=>.agg [.int .i64 a0,.int .i64 a1.qc,l3 none a1.qa,.lst 85 4 none (ZS a2)]
def ZS:List qr->LJ
 | []=>[]
 | x::r=>jv x::ZS r
end
def l85 (c:LR) (l:List qr):AV:=.lst 85 4 c (C0 jv l)
theorem NM:∀ l:List qr,ZS l=C0 jv l
 | []=>by rw[ZS];rfl
 | x::r=>by rw[ZS,NM r];rfl
theorem Qm (x:qr):jv x=.agg [.int .i64 x.ql,.int .i64 x.qd.qc,l3 none x.qd.qa,l85 none x.qj]:=by
 obtain⟨a0,a1,a2⟩:=x;rw[jv,NM];rfl
def Qr (v19:Int):LY :=
 (some v19)
def jR (a3:Int) (K0:(ruProof->Int->Int->LY)) (K10:(Int->LY)):List ruProof->Nat->Int->LY
 | [],k1,v12=>(K10 v12)
 | x1::r1,k1,v12=>((K0 x1 v12 (A5 .i64 (a3 - 1))).bind fun w16=>(bif (decide (w16<0)) then (some (-1)) else ((jR a3 K0 K10 r1 (k1+1)) w16)))
def QG (a1:ruProof) (a2:Int) (a3:Int) (K0:(ruProof->Int->Int->LY)) (v7:Bool):LY :=
 (bif v7 then (some (-1)) else (chk (lenOk a1.qj) (jR a3 K0 (Qr) a1.qj 0 (A5 .i64 (a2 - 1)))))
def jD:Nat->ruProof->Int->Int->LY
 | 0,_,_,_=>none
 | fuel+1,a1,a2,a3=>(bif (decide (a2<1)) then ((QG a1 a2 a3 (jD fuel)) true) else ((QG a1 a2 a3 (jD fuel)) (decide (a3<1))))
theorem DQ:∀ (fuel:Nat) (a1:ruProof) (a2:Int) (a3:Int) (r:Int) (h:jD fuel a1 a2 a3=some r),Run Try.prog (.call 101 [.agg [I6 a1.ql,I6 a1.qd.qc,l3 none a1.qd.qa,l77 none a1.qj],I6 a2,I6 a3] (I6 r)):=by
 intro fuel
 induction fuel with
 | zero=>intro a1 a2 a3 r h;cases h
 | succ fuel ih =>
  intro a1 a2 a3 r h;refine cW Try.func101 rfl (env0:=[(0,.agg [I6 a1.ql,I6 a1.qd.qc,l3 none a1.qd.qa,l77 none a1.qj]),(1,I6 a2),(2,I6 a3)]) ?_;rw[jD.eq_2]at h;refine W.seq ?_;let y0:Env:=[(2,I6 a3),(3,.ptr (.agg [I6 a1.ql,I6 a1.qd.qc,l3 none a1.qd.qa,l77 none a1.qj]))];refine W.rT [1,2,3] [3] (e2:=((1,I6 a2)::y0)) ?_;refine W.seq<|W.seq ?_;let z0:=fun t=>EN ((1,I6 a2)::(2,I6 a3)::(3,.ptr (.agg [I6 a1.ql,I6 a1.qd.qc,l3 none a1.qd.qa,l77 none a1.qj]))::t);refine W.join (σ:=(Bool)) (fun s=>z0 [(14,.bool s)]) (fun s=>(QG a1 a2 a3 (jD fuel)) s=some r) (fun v7 h=>?_) (fun hK6=>?_)
  .unfold QG at h;refine W.ch v7 h (fun h=>?_) (fun h=>?_)
   .refine W.seq<|W.rt (e2:=[(6,I6 (-1))]) ?_;refine W.wk (e:=[(6,I6 (-1))]) ?_;cases h;exact W.rr
   refine W.sw (e:=((1,I6 a2)::y0)) ?_;refine W.seq<|W.rt (e2:=((1,I6 (W6 (a2 - 1)))::y0)) ?_;refine W.seq<|W.join (σ:=(Int)) (fun s=>[(1,I6 s)]) (fun s=>(Qr) s=some r) (fun v19 h=>?_) (fun hK10=>?_)
   .unfold Qr at h;refine W.seq<|W.rt (e2:=[(6,I6 v19)]) ?_;refine W.wk (e:=[(6,I6 v19)]) ?_;cases h;exact W.rr
   refine W.sr<|WO.pq 2 (jM qZ a1.qj) ?_;let z1:=fun t=>EN ((1,I6 (W6 (a2 - 1)))::(2,I6 a3)::(18,l77 none a1.qj)::(19,I6 (a1.qj.length:Int))::t);refine WO.fn (e2:=z1 [(20,.int .i64 0)]) ?_;refine W.block ?_;obtain⟨hl1,h⟩:=qm h;refine W.wk<|W.range (σ:=(Int)) a1.qj (fun k1 s=>[(1,I6 s),(2,I6 a3),(18,l77 none a1.qj),(19,I6 (a1.qj.length:Int)),(20,I6 (k1:Int))]) (fun r0 k0 s=>jR a3 (jD fuel) (Qr) r0 k0 s=some r) (fun v12 h=>?_) (fun x1 r1 k1 s hx1 hk1 h hN1=>?_) (W6 (a2 - 1)) h
   .rw[jR.eq_1]at h;refine W.sr<|WO.pq 0 (jB (ja (l:=a1.qj)))<|WO.fn (e2:=[(1,I6 v12),(2,I6 a3),(18,l77 none a1.qj),(19,I6 (a1.qj.length:Int)),(20,I6 ((a1.qj).length:Int)),(21,.bool false)]) ?_;exact W.seq<|W.cF<|W.exit<|W.wk (hK10 v12 h)
   obtain⟨v12,rfl⟩:∃ x,x=s:=⟨s,rfl⟩;rw[jR.eq_2]at h;refine W.sr<|WO.pq 0 (jB (jy hk1))<|WO.fn (e2:=[(1,I6 v12),(2,I6 a3),(18,l77 none a1.qj),(19,I6 (a1.qj.length:Int)),(20,I6 (k1:Int)),(21,.bool true)]) ?_;refine W.seq<|W.cT ?_;let y1:Env:=[(18,l77 none a1.qj),(19,I6 (a1.qj.length:Int)),(20,I6 (k1:Int))];refine W.sw (e:=((1,I6 v12)::(2,I6 a3)::y1)) ?_;refine W.seq<|W.block<|W.sr<|WO.pk 0 (if (0:Int)<=(k1:Int) then ((C0 qZ a1.qj)[A6 (k1:Int)]?).map AV.ptr else none) ((jA (f:=qZ) hx1).trans (congrArg (fun y=>some (AV.ptr y)) (Qh x1))) ?_;refine WO.fi [1,2,8,18,19,20] [8] (e2:=((1,I6 v12)::(2,I6 a3)::(8,.ptr (.agg [I6 x1.ql,I6 x1.qd.qc,l3 none x1.qd.qa,l77 none x1.qj]))::y1)) ?_;refine W.sr ?_;obtain⟨w16,hw16,h⟩:=qb h;refine WO.ck 4 (F:=101) (l:=[.agg [I6 x1.ql,I6 x1.qd.qc,l3 none x1.qd.qa,l77 none x1.qj],I6 v12,I6 (W6 (a3 - 1))]) (C:=[]) (r:=I6 w16) (ih x1 v12 (W6 (a3 - 1)) w16 hw16) ?_;let z2:=fun t=>EN ((1,I6 w16)::(2,I6 a3)::t);refine WO.fn (e2:=z2 y1) ?_;refine W.seq ?_;let z3:=fun t=>z2 ((18,l77 none a1.qj)::(19,I6 (a1.qj.length:Int))::t);refine W.rt (e2:=z3 [(20,I6 (k1:Int)),(30,.bool (decide (w16<0)))]) ?_;refine W.ch (decide (w16<0)) h (fun h=>?_) (fun h=>?_)
   .refine W.seq<|W.rt (e2:=[(6,I6 (-1))]) ?_;refine W.wk (e:=[(6,I6 (-1))]) ?_;cases h;exact W.rr
   refine W.sw (e:=z2 y1) ?_;exact W.rg<|WO.pq 0 (jI (qN hl1 hk1))<|WO.fn (hN1 w16 h)
  refine W.rg<|WO.bh 3 (fun b=>z0 [(9,I6 a2),(10,.bool b),(11,.bool b)]) (decide (a2<1)) h (fun h=>?_) (fun h=>?_)
  .exact WO.fn (hK6 true h)
  exact WO.fn (hK6 (decide (a3<1)) h)
def Yd (v14:Int):LY :=
 (some (if (A5 .i64 (v14+1))<41 then (A5 .i64 (v14+1)) else 41))
def QH (a2:Int) (K0:(qr->Int->LY)) (K8:(Int->LY)):List qr->Nat->Int->LY
 | [],k1,v10=>(K8 v10)
 | x1::r1,k1,v10=>((K0 x1 (A5 .i64 (a2 - 1))).bind fun w13=>((QH a2 K0 K8 r1 (k1+1)) (if w13 > v10 then w13 else v10)))
def Qo:Nat->qr->Int->LY
 | 0,_,_=>none
 | fuel+1,a1,a2=>(bif (a2 == 0) then (some 41) else (chk (lenOk a1.qj) (QH a2 (Qo fuel) (Yd) a1.qj 0 0)))
theorem DB:∀ (fuel:Nat) (a1:qr) (a2:Int) (r:Int) (h:Qo fuel a1 a2=some r),Run Try.prog (.call 51 [.agg [I6 a1.ql,I6 a1.qd.qc,l3 none a1.qd.qa,l85 none a1.qj],I6 a2] (I6 r)):=by
 intro fuel
 induction fuel with
 | zero=>intro a1 a2 r h;cases h
 | succ fuel ih =>
  intro a1 a2 r h;refine cW Try.func51 rfl (env0:=[(0,.agg [I6 a1.ql,I6 a1.qd.qc,l3 none a1.qd.qa,l85 none a1.qj]),(1,I6 a2)]) ?_;rw[Qo.eq_2]at h;refine W.seq ?_;let z0:=fun t=>EN ((1,I6 a2)::(2,.ptr (.agg [I6 a1.ql,I6 a1.qd.qc,l3 none a1.qd.qa,l85 none a1.qj]))::t);refine W.rT [1,2] [2] (e2:=z0 []) ?_;refine W.seq ?_;let y0:Env:=[(2,.ptr (.agg [I6 a1.ql,I6 a1.qd.qc,l3 none a1.qd.qa,l85 none a1.qj])),(5,.int .i64 0)];let z1:=fun t=>EN ((1,I6 a2)::t);refine W.rt (e2:=z1 y0) ?_;refine W.seq<|W.seq<|W.rt (e2:=z0 [(5,.int .i64 0),(9,.bool (a2 == 0))]) ?_;refine W.ch (a2 == 0) h (fun h=>?_) (fun h=>?_)
  .refine W.seq<|W.rt (e2:=[(4,.int .i64 41)]) ?_;refine W.wk (e:=[(4,.int .i64 41)]) ?_;cases h;exact W.rr
  refine W.sw (e:=z1 y0) ?_;refine W.seq<|W.join (σ:=(Int)) (fun s=>[(5,I6 s)]) (fun s=>(Yd) s=some r) (fun v14 h=>?_) (fun hK8=>?_)
  .unfold Yd at h;refine W.seq ?_;let z2:=fun t=>EN ((4,I6 (if (W6 (v14+1))<41 then (W6 (v14+1)) else 41))::t);refine W.rt (e2:=z2 []) ?_;refine W.wk (e:=z2 []) ?_;cases h;exact W.rr
  refine W.sr<|WO.pq 2 (jM jv a1.qj) ?_;let z3:=fun t=>z1 ((5,.int .i64 0)::(11,l85 none a1.qj)::(12,I6 (a1.qj.length:Int))::t);refine WO.fn (e2:=z3 [(13,.int .i64 0)]) ?_;refine W.block ?_;obtain⟨hl1,h⟩:=qm h;refine W.wk<|W.range (σ:=(Int)) a1.qj (fun k1 s=>z1 [(5,I6 s),(11,l85 none a1.qj),(12,I6 (a1.qj.length:Int)),(13,I6 (k1:Int))]) (fun r0 k0 s=>QH a2 (Qo fuel) (Yd) r0 k0 s=some r) (fun v10 h=>?_) (fun x1 r1 k1 s hx1 hk1 h hN1=>?_) 0 h
  .rw[QH.eq_1]at h;refine W.sr<|WO.pq 0 (jB (ja (l:=a1.qj)))<|WO.fn (e2:=z1 [(5,I6 v10),(11,l85 none a1.qj),(12,I6 (a1.qj.length:Int)),(13,I6 ((a1.qj).length:Int)),(14,.bool false)]) ?_;exact W.seq<|W.cF<|W.exit<|W.wk (hK8 v10 h)
  obtain⟨v10,rfl⟩:∃ x,x=s:=⟨s,rfl⟩;rw[QH.eq_2]at h;refine W.sr<|WO.pq 0 (jB (jy hk1))<|WO.fn (e2:=z1 [(5,I6 v10),(11,l85 none a1.qj),(12,I6 (a1.qj.length:Int)),(13,I6 (k1:Int)),(14,.bool true)]) ?_;refine W.seq<|W.cT ?_;let y1:Env:=[(11,l85 none a1.qj),(12,I6 (a1.qj.length:Int)),(13,I6 (k1:Int))];refine W.sw (e:=z1 ((5,I6 v10)::y1)) ?_;refine W.seq<|W.block<|W.sr<|WO.pk 0 (if (0:Int)<=(k1:Int) then ((C0 jv a1.qj)[A6 (k1:Int)]?).map AV.ptr else none) ((jA (f:=jv) hx1).trans (congrArg (fun y=>some (AV.ptr y)) (Qm x1))) ?_;refine WO.fi [1,5,7,11,12,13] [7] (e2:=z1 ((5,I6 v10)::(7,.ptr (.agg [I6 x1.ql,I6 x1.qd.qc,l3 none x1.qd.qa,l85 none x1.qj]))::y1)) ?_;refine W.rg ?_;obtain⟨w13,hw13,h⟩:=qb h;refine WO.ck 4 (F:=51) (l:=[.agg [I6 x1.ql,I6 x1.qd.qc,l3 none x1.qd.qa,l85 none x1.qj],I6 (W6 (a2 - 1))]) (C:=[]) (r:=I6 w13) (ih x1 (W6 (a2 - 1)) w13 hw13) ?_;let z4:=fun t=>z1 ((5,I6 (if w13 > v10 then w13 else v10))::t);refine WO.fn (e2:=z4 y1) ?_;exact W.rg<|WO.pq 0 (jI (qN hl1 hk1))<|WO.fn (hN1 (if w13 > v10 then w13 else v10) h)
def qbL (v13:Int):LY :=
 (some v13)
def ZN (K0:(qr->LY)) (K4:(Int->LY)):List qr->Nat->Int->LY
 | [],k1,v6=>(K4 v6)
 | x1::r1,k1,v6=>((K0 x1).bind fun w10=>(bif (decide ((A5 .i64 (v6+w10)) > 500)) then (some 501) else ((ZN K0 K4 r1 (k1+1)) (A5 .i64 (v6+w10)))))
def VI:Nat->qr->LY
 | 0,_=>none
 | fuel+1,a1=>(chk (lenOk a1.qj) (ZN (VI fuel) (qbL) a1.qj 0 1))
def Qa (v14:qr):Option qr :=
 (some v14)
def jJ (K0:(ruProof->Option qr)) (K4:(qr->Option qr)):List ruProof->Nat->Int->Int->LA->(List qr)->Option qr
 | [],k1,v6,v7,v8,v9=>(K4 (qr.mk v6 (apiFact.mk v7 v8) v9))
 | x1::r1,k1,v6,v7,v8,v9=>((K0 x1).bind fun w12=>(chk (capOk 64 ((v9++[w12])).length) ((jJ K0 K4 r1 (k1+1)) v6 v7 v8 (v9++[w12]))))
def Ja:Nat->ruProof->Option qr
 | 0,_=>none
 | fuel+1,a1=>(chk (lenOk a1.qj) (jJ (Ja fuel) (Qa) a1.qj 0 a1.ql a1.qd.qc a1.qd.qa ([]:(List qr))))
theorem UG:∀ (fuel:Nat) (a1:ruProof) (r:qr) (h:Ja fuel a1=some r),Run Try.prog (.call 49 [.agg [I6 a1.ql,I6 a1.qd.qc,l3 none a1.qd.qa,l77 none a1.qj]] (.agg [I6 r.ql,I6 r.qd.qc,l3 none r.qd.qa,l85 none r.qj])):=by
 intro fuel
 induction fuel with
 | zero=>intro a1 r h;cases h
 | succ fuel ih =>
  intro a1 r h;refine cW Try.func49 rfl (env0:=[(0,.agg [I6 a1.ql,I6 a1.qd.qc,l3 none a1.qd.qa,l77 none a1.qj])]) ?_;rw[Ja.eq_2]at h;refine W.seq ?_;let z0:=fun t=>EN ((1,.ptr (.agg [I6 a1.ql,I6 a1.qd.qc,l3 none a1.qd.qa,l77 none a1.qj]))::(2,.box [.int .i64 0,.int .i64 0,.nils,.nils])::t);refine W.rT [1,2] [1] (e2:=z0 []) ?_;refine W.seq<|W.rt (e2:=z0 [(3,.box [I6 a1.ql,I6 a1.qd.qc,l3 none a1.qd.qa,.nils])]) ?_;refine W.seq ?_;let z1:=fun t=>EN ((2,.box [.int .i64 0,.int .i64 0,.nils,.nils])::t);refine W.join (σ:=(qr)) (fun s=>z1 [(3,.ptr (.agg [I6 s.ql,I6 s.qd.qc,l3 none s.qd.qa,l85 none s.qj]))]) (fun s=>(Qa) s=some r) (fun v14 h=>?_) (fun hK4=>?_)
  .unfold Qa at h;refine W.seq ?_;let z2:=fun t=>EN ((2,.box [I6 v14.ql,I6 v14.qd.qc,l3 none v14.qd.qa,l85 none v14.qj])::t);refine W.rt (e2:=z2 []) ?_;refine W.wk (e:=z2 []) ?_;cases h;exact W.rr
  refine W.sr<|WO.pq 2 (jM qZ a1.qj)<|WO.fn (e2:=z1 [(3,.box [I6 a1.ql,I6 a1.qd.qc,l3 none a1.qd.qa,.nils]),(12,l77 none a1.qj),(13,I6 (a1.qj.length:Int)),(14,.int .i64 0)]) ?_;refine W.block ?_;obtain⟨hl1,h⟩:=qm h;refine W.weak [2,3,12,13,14] [] [(3,3,85,4,10303)] [] (env':=z1 [(3,.box [I6 a1.ql,I6 a1.qd.qc,l3 none a1.qd.qa,l85 (some 10303) ([]:(List qr))]),(12,l77 none a1.qj),(13,I6 (a1.qj.length:Int)),(14,I6 ((0:Nat):Int))]) kR<|W.range (σ:=(Int×Int×LA×(List qr))) a1.qj (fun k1 s=>z1 [(3,.box [I6 s.1,I6 s.2.1,l3 none s.2.2.1,l85 (some 10303) s.2.2.2]),(12,l77 none a1.qj),(13,I6 (a1.qj.length:Int)),(14,I6 (k1:Int))]) (fun r0 k0 s=>jJ (Ja fuel) (Qa) r0 k0 s.1 s.2.1 s.2.2.1 s.2.2.2=some r) (fun s h=>?_) (fun x1 r1 k1 s hx1 hk1 h hN1=>?_) (a1.ql,a1.qd.qc,a1.qd.qa,([]:(List qr))) h
  .obtain⟨v6,v7,v8,v9⟩:=s;have h:jJ (Ja fuel) (Qa) [] (a1.qj).length v6 v7 v8 v9=some r:=h;rw[jJ.eq_1]at h;refine W.sr<|WO.pq 0 (jB (ja (l:=a1.qj)))<|WO.fn (e2:=z1 [(3,.box [I6 v6,I6 v7,l3 none v8,l85 (some 10303) v9]),(12,l77 none a1.qj),(13,I6 (a1.qj.length:Int)),(14,I6 ((a1.qj).length:Int)),(15,.bool false)]) ?_;refine W.seq<|W.cF<|W.exit<|W.weak [2,3] [3] [] [] (env':=z1 [(3,.ptr (.agg [I6 (qr.mk v6 (apiFact.mk v7 v8) v9).ql,I6 (qr.mk v6 (apiFact.mk v7 v8) v9).qd.qc,l3 none (qr.mk v6 (apiFact.mk v7 v8) v9).qd.qa,l85 none (qr.mk v6 (apiFact.mk v7 v8) v9).qj]))]) kR ?_;exact hK4 (qr.mk v6 (apiFact.mk v7 v8) v9) h
  obtain⟨v6,v7,v8,v9⟩:=s;have h:jJ (Ja fuel) (Qa) (x1::r1) k1 v6 v7 v8 v9=some r:=h;rw[jJ.eq_2]at h;refine W.sr<|WO.pq 0 (jB (jy hk1)) ?_;let z3:=fun t=>z1 ((3,.box [I6 v6,I6 v7,l3 none v8,l85 (some 10303) v9])::t);refine WO.fn (e2:=z3 [(12,l77 none a1.qj),(13,I6 (a1.qj.length:Int)),(14,I6 (k1:Int)),(15,.bool true)]) ?_;refine W.seq<|W.cT ?_;let y0:Env:=[(12,l77 none a1.qj),(13,I6 (a1.qj.length:Int)),(14,I6 (k1:Int))];refine W.sw (e:=z3 y0) ?_;refine W.seq<|W.block<|W.sr<|WO.pk 0 (if (0:Int)<=(k1:Int) then ((C0 qZ a1.qj)[A6 (k1:Int)]?).map AV.ptr else none) ((jA (f:=qZ) hx1).trans (congrArg (fun y=>some (AV.ptr y)) (Qh x1))) ?_;let z4:=fun t=>z3 ((5,.ptr (.agg [I6 x1.ql,I6 x1.qd.qc,l3 none x1.qd.qa,l77 none x1.qj]))::t);refine WO.fi [2,3,5,12,13,14] [5] (e2:=z4 y0) ?_;refine W.rg ?_;obtain⟨w12,hw12,h⟩:=qb h;refine WO.ck 3 (F:=49) (l:=[.agg [I6 x1.ql,I6 x1.qd.qc,l3 none x1.qd.qa,l77 none x1.qj]]) (C:=[]) (r:=.agg [I6 w12.ql,I6 w12.qd.qc,l3 none w12.qd.qa,l85 none w12.qj]) (ih x1 w12 hw12)<|WO.steps 1 (e1:=z4 [(12,l77 none a1.qj),(13,I6 (a1.qj.length:Int)),(14,I6 (k1:Int)),(18,.pb 3 3),(19,l85 (some 10303) v9),(20,.agg [I6 x1.ql,I6 x1.qd.qc,l3 none x1.qd.qa,l77 none x1.qj]),(21,.agg [I6 w12.ql,I6 w12.qd.qc,l3 none w12.qd.qa,l85 none w12.qj]),(22,AV.lst 85 4 none [.agg [I6 w12.ql,I6 w12.qd.qc,l3 none w12.qd.qa,l85 none w12.qj]])]) kR ?_;rw[(congrArg (fun y=>AV.lst 85 4 none [y]) (Qm w12).symm:AV.lst 85 4 none [.agg [I6 w12.ql,I6 w12.qd.qc,l3 none w12.qd.qa,l85 none w12.qj]]=l85 none [w12])];obtain⟨hc13,h⟩:=qm h;refine WO.ak 0 23 85 4 jv v9 [w12] hc13<|WO.fn (e2:=z1 ((3,.box [I6 v6,I6 v7,l3 none v8,l85 (some 23) (v9++[w12])])::y0)) ?_;refine W.rg<|WO.pq 0 (jI (qN hl1 hk1))<|WO.fin [2,3,12,13,14] [] [] [(23,some 10303)] (e2:=z1 [(3,.box [I6 v6,I6 v7,l3 none v8,l85 (some 10303) (v9++[w12])]),(12,l77 none a1.qj),(13,I6 (a1.qj.length:Int)),(14,I6 ((k1+1:Nat):Int))]) kR (fun _ h=>h) ?_;exact hN1 (v6,v7,v8,(v9++[w12])) h
def Nl (v18:Bool):LD :=
 (some v18)
def Vf:LD :=
 (some false)
def Ni (N2:LD) (v76:Bool):LD :=
 (bif v76 then (some true) else N2)
def Nj (a4:qr) (N2:LD) (v73:Bool) (v74:Int):LD :=
 (bif v73 then ((Ni N2) (v74 == (a4.qj.length:Int))) else ((Ni N2) false))
def YV (N3:(Bool->Int->LD)) (v71:Bool) (v72:Int):LD :=
 (N3 v71 v72)
def Vd (v60:Int) (K61:(Bool->Int->LD)) (v70:Bool):LD :=
 (K61 v70 (A5 .i64 (v60+1)))
def Xf (x2:LA) (a4:qr) (K57:(Bool->Int->LD)):Lq->Nat->Bool->Int->LD
 | [],k3,v59,v60=>(K57 v59 v60)
 | x3::r3,k3,v59,v60=>(bif (!x3.qw) then (bif v59 then (bif (decide (v60<(a4.qj.length:Int))) then (chk (decide (x2.length=8)) ((XZ x3.qg x2).bind fun w66=>((idx a4.qj v60).bind fun e67=>((idx a4.qj v60).bind fun e68=>((QW e67.qd.qc e68.qd.qa).bind fun w69=>((Vd v60 (YV (Xf x2 a4 K57 r3 (k3+1)))) (w66 == w69))))))) else ((Vd v60 (YV (Xf x2 a4 K57 r3 (k3+1)))) false)) else ((Vd v60 (YV (Xf x2 a4 K57 r3 (k3+1)))) false)) else ((YV (Xf x2 a4 K57 r3 (k3+1))) v59 v60))
def Ve (x2:LA) (a4:qr) (e25:rf3Rule) (N2:LD) (v56:Bool):LD :=
 (chk (lenOk e25.qe) (Xf x2 a4 (Nj a4 N2) e25.qe 0 v56 0))
def Xg (a3:LM) (a4:qr) (e25:rf3Rule) (K41:LD):Li->Nat->LD
 | [],k2=>K41
 | x2::r2,k2=>(chk (decide (x2.length=8)) (chk (decide (x2.length=8/\(B1 8 0).length=8)) (chk (decide (x2.length=8)) (chk (decide (a3.length=252)) ((NX e25 x2 a3).bind fun w52=>(bif w52 then (chk (decide (x2.length=8)) ((XZ e25.qi x2).bind fun w54=>((QW a4.qd.qc a4.qd.qa).bind fun w55=>((Ve x2 a4 e25 (Xg a3 a4 e25 K41 r2 (k2+1))) (w54 == w55))))) else ((Ve x2 a4 e25 (Xg a3 a4 e25 K41 r2 (k2+1))) false)))))))
def Nk (fuel:Nat) (a3:LM) (a4:qr) (e25:rf3Rule) (v40:LM):LD :=
 (chk (decide (v40.length=252)) ((jV fuel e25 v40 0 (B1 8 0)).bind fun w44=>(chk (lenOk w44) (Xg a3 a4 e25 (Vf) w44 0))))
def YI (a1:LN) (a2:LM) (a3:LM) (K0:(LN->LM->LM->qr->LD)) (K26:(LM->LD)):List qr->Nat->LM->LD
 | [],k1,v28=>(K26 v28)
 | x1::r1,k1,v28=>(chk (decide (a2.length=252)) (chk (decide (a3.length=252)) ((K0 a1 a2 a3 x1).bind fun w35=>(bif (!w35) then (some false) else ((QW x1.qd.qc x1.qd.qa).bind fun w37=>(chk (decide ((0:Int)<=w37/\w37<((252:Nat):Int)/\0<1)) (chk (decide ((0+A6 w37 * 1)<v28.length)) ((YI a1 a2 a3 K0 K26 r1 (k1+1)) (v28.set (0+A6 w37 * 1) true)))))))))
def Vg (fuel:Nat) (a1:LN) (a2:LM) (a3:LM) (a4:qr) (K0:(LN->LM->LM->qr->LD)) (v21:Bool):LD :=
 (bif v21 then (some false) else ((idx a1 a4.ql).bind fun e25=>(chk (lenOk a4.qj) (YI a1 a2 a3 K0 (Nk fuel a3 a4 e25) a4.qj 0 (B1 252 false)))))
def UJ:Nat->LN->LM->LM->qr->LD
 | 0,_,_,_,_=>none
 | fuel+1,a1,a2,a3,a4=>(chk (!a2.isEmpty) (chk (!a3.isEmpty) ((DW a4.qd).bind fun w10=>(bif (!w10) then (some false) else (bif (a4.ql == (-1)) then (bif ((a4.qj.length:Int) == 0) then ((QW a4.qd.qc a4.qd.qa).bind fun w15=>(chk (decide ((0:Int)<=w15/\w15<((252:Nat):Int)/\0<1)) ((a2[(0+A6 w15 * 1)]?).bind fun e17=>((Nl) e17)))) else ((Nl) false)) else (bif (decide (a4.ql<0)) then ((Vg fuel a1 a2 a3 a4 (UJ fuel)) true) else ((Vg fuel a1 a2 a3 a4 (UJ fuel)) (decide (a4.ql >= (a1.length:Int))))))))))
def Vh (v13:Bool):LD :=
 (some v13)
def Dd (fuel:Nat) (a1:LN) (a2:LG) (a3:LM) (a4:qr):LD :=
 (chk (!a3.isEmpty) ((VI fuel a4).bind fun w8=>(bif (decide (w8<=500)) then ((Qo fuel a4 40).bind fun w9=>(bif (decide (w9<=40)) then ((qfs a2).bind fun w10=>(chk (decide (a3.length=252)) ((UJ fuel a1 w10 a3 a4).bind fun w12=>((Vh) w12)))) else ((Vh) false))) else ((Vh) false))))
end Go.AM
namespace Go
open AM
abbrev Lj:=Option (ruProof×Int)
end Go
namespace Go
open AM
abbrev LU:=List ruProof
end Go
namespace Go.AM
open Go.Proofs
def jd (v22:Int) (v23:ruProof):Lj :=
 (some (v23,v22))
def JV (x1:qr) (a2:Int) (v10:Int) (v11:Int) (v12:Int) (v13:LA) (v14:LU) (K0:(qr->Int->Int->Lj)) (N1:(Int->Int->Int->LA->LU->Lj)) (K8:(Int->ruProof->Lj)) (v19:Bool):Lj :=
 (bif v19 then (K8 v10 (ruProof.mk v11 (apiFact.mk v12 v13) v14)) else ((K0 x1 (A5 .i64 (a2 - 1)) v10).bind fun w20=>(chk (capOk 64 ((v14++[w20.1])).length) (N1 w20.2 v11 v12 v13 (v14++[w20.1])))))
def qT (a2:Int) (K0:(qr->Int->Int->Lj)) (K8:(Int->ruProof->Lj)):List qr->Nat->Int->Int->Int->LA->LU->Lj
 | [],k1,v10,v11,v12,v13,v14=>(K8 v10 (ruProof.mk v11 (apiFact.mk v12 v13) v14))
 | x1::r1,k1,v10,v11,v12,v13,v14=>(bif (decide (a2<1)) then ((JV x1 a2 v10 v11 v12 v13 v14 K0 (qT a2 K0 K8 r1 (k1+1)) K8) true) else (bif (decide ((k1:Int) > 5)) then ((JV x1 a2 v10 v11 v12 v13 v14 K0 (qT a2 K0 K8 r1 (k1+1)) K8) true) else ((JV x1 a2 v10 v11 v12 v13 v14 K0 (qT a2 K0 K8 r1 (k1+1)) K8) (decide (v10<1)))))
def js:Nat->qr->Int->Int->Lj
 | 0,_,_,_=>none
 | fuel+1,a1,a2,p3=>((Hi a1.qd).bind fun w7=>(chk (lenOk a1.qj) (qT a2 (js fuel) (jd) a1.qj 0 (A5 .i64 (p3 - 1)) a1.ql w7.qc w7.qa ([]:LU))))
theorem qaw:∀ (fuel:Nat) (a1:qr) (a2:Int) (p3:Int) (r:(ruProof×Int)) (h:js fuel a1 a2 p3=some r),Run Try.prog (.callM 100 [.agg [I6 a1.ql,I6 a1.qd.qc,l3 none a1.qd.qa,l85 none a1.qj],I6 a2,.pb 2000002 0] [(2000002,.box [I6 p3])] (.agg [I6 r.1.ql,I6 r.1.qd.qc,l3 none r.1.qd.qa,l77 none r.1.qj]) [(2000002,.box [I6 r.2])]):=by
 intro fuel
 induction fuel with
 | zero=>intro a1 a2 p3 r h;cases h
 | succ fuel ih =>
  intro a1 a2 p3 r h;refine cM Try.func100 rfl (env0:=[(0,.agg [I6 a1.ql,I6 a1.qd.qc,l3 none a1.qd.qa,l85 none a1.qj]),(1,I6 a2),(2,.pb 2000002 0),(2000002,.box [I6 p3])]) ?_;rw[js.eq_2]at h;refine W.seq ?_;let z0:=fun t=>EN ((1,I6 a2)::(2,.pb 2000002 0)::(3,.ptr (.agg [I6 a1.ql,I6 a1.qd.qc,l3 none a1.qd.qa,l85 none a1.qj]))::(6,.box [.int .i64 0,.int .i64 0,.nils,.nils])::t);refine W.rT [1,2,3,6,2000002] [3] (e2:=z0 [(2000002,.box [I6 p3])]) ?_;refine W.seq ?_;let y0:Env:=[(2000002,.box [I6 (W6 (p3 - 1))])];refine W.rt (e2:=z0 y0) ?_;refine W.seq ?_;obtain⟨w7,hw7,h⟩:=qb h;let z1:=fun t=>z0 ((7,.box [I6 a1.ql,I6 w7.qc,l3 none w7.qa,.nils])::t);refine W.regionA (e1:=z1 ((15,.ptr (I6 a1.ql))::(16,I6 a1.ql)::(17,.ptr (.agg [I6 a1.qd.qc,l3 none a1.qd.qa]))::(18,.agg [I6 a1.qd.qc,l3 none a1.qd.qa])::(19,.agg [I6 w7.qc,l3 none w7.qa])::(20,.agg [I6 a1.ql,I6 w7.qc,l3 none w7.qa,.nils])::y0)) kR ?_ ?_
  .exact Run.anyG (.cons (gcall 4 (F:=26) (l:=[.agg [I6 a1.qd.qc,l3 none a1.qd.qa]]) (C:=[]) (r:=.agg [I6 w7.qc,l3 none w7.qa]) (qfp a1.qd w7 hw7)) .nil)
  refine WO.fn (e2:=z1 y0) ?_;refine W.seq ?_;let z2:=fun t=>EN ((6,.box [.int .i64 0,.int .i64 0,.nils,.nils])::t);refine W.join (σ:=(Int×ruProof)) (fun s=>z2 [(7,.ptr (.agg [I6 s.2.ql,I6 s.2.qd.qc,l3 none s.2.qd.qa,l77 none s.2.qj])),(2000002,.box [I6 s.1])]) (fun s=>(jd) s.1 s.2=some r) (fun s h=>?_) (fun hK8=>?_)
  .obtain⟨v22,v23⟩:=s;have h:(jd) v22 v23=some r:=h;unfold jd at h;refine W.seq ?_;let z3:=fun t=>EN ((6,.box [I6 v23.ql,I6 v23.qd.qc,l3 none v23.qd.qa,l77 none v23.qj])::(2000002,.box [I6 v22])::t);refine W.rt (e2:=z3 []) ?_;refine W.wk (e:=z3 []) ?_;have hr:PostM Try.prog Try.f100 (.agg [I6 v23.ql,I6 v23.qd.qc,l3 none v23.qd.qa,l77 none v23.qj]) [(2000002,.box [I6 v22])] .ret [(6,.box [I6 v23.ql,I6 v23.qd.qc,l3 none v23.qd.qa,l77 none v23.qj]),(2000002,.box [I6 v22])]:=⟨by kernel_rfl,by kernel_rfl⟩;cases h;exact W.ret hr
  refine W.sr<|WO.pq 2 (jM jv a1.qj) ?_;let z4:=fun t=>EN ((1,I6 a2)::(2,.pb 2000002 0)::(6,.box [.int .i64 0,.int .i64 0,.nils,.nils])::t);refine WO.fn (e2:=z4 ((7,.box [I6 a1.ql,I6 w7.qc,l3 none w7.qa,.nils])::(22,l85 none a1.qj)::(23,I6 (a1.qj.length:Int))::(24,.int .i64 0)::y0)) ?_;refine W.block ?_;obtain⟨hl1,h⟩:=qm h;refine W.weak [1,2,6,7,22,23,24,2000002] [] [(7,3,77,4,10703)] [] (env':=z4 ((7,.box [I6 a1.ql,I6 w7.qc,l3 none w7.qa,l77 (some 10703) ([]:LU)])::(22,l85 none a1.qj)::(23,I6 (a1.qj.length:Int))::(24,I6 ((0:Nat):Int))::y0)) kR<|W.range (σ:=(Int×Int×Int×LA×LU)) a1.qj (fun k1 s=>z4 [(7,.box [I6 s.2.1,I6 s.2.2.1,l3 none s.2.2.2.1,l77 (some 10703) s.2.2.2.2]),(22,l85 none a1.qj),(23,I6 (a1.qj.length:Int)),(24,I6 (k1:Int)),(2000002,.box [I6 s.1])]) (fun r0 k0 s=>qT a2 (js fuel) (jd) r0 k0 s.1 s.2.1 s.2.2.1 s.2.2.2.1 s.2.2.2.2=some r) (fun s h=>?_) (fun x1 r1 k1 s hx1 hk1 h hN1=>?_) ((W6 (p3 - 1)),a1.ql,w7.qc,w7.qa,([]:LU)) h
  .obtain⟨v10,v11,v12,v13,v14⟩:=s;have h:qT a2 (js fuel) (jd) [] (a1.qj).length v10 v11 v12 v13 v14=some r:=h;rw[qT.eq_1]at h;refine W.sr<|WO.pq 0 (jB (ja (l:=a1.qj)))<|WO.fn (e2:=z4 [(7,.box [I6 v11,I6 v12,l3 none v13,l77 (some 10703) v14]),(22,l85 none a1.qj),(23,I6 (a1.qj.length:Int)),(24,I6 ((a1.qj).length:Int)),(25,.bool false),(2000002,.box [I6 v10])]) ?_;refine W.seq<|W.cF<|W.exit<|W.weak [6,7,2000002] [7] [] [] (env':=z2 [(7,.ptr (.agg [I6 (ruProof.mk v11 (apiFact.mk v12 v13) v14).ql,I6 (ruProof.mk v11 (apiFact.mk v12 v13) v14).qd.qc,l3 none (ruProof.mk v11 (apiFact.mk v12 v13) v14).qd.qa,l77 none (ruProof.mk v11 (apiFact.mk v12 v13) v14).qj])),(2000002,.box [I6 v10])]) kR ?_;exact hK8 (v10,(ruProof.mk v11 (apiFact.mk v12 v13) v14)) h
  obtain⟨v10,v11,v12,v13,v14⟩:=s;have h:qT a2 (js fuel) (jd) (x1::r1) k1 v10 v11 v12 v13 v14=some r:=h;rw[qT.eq_2]at h;refine W.sr<|WO.pq 0 (jB (jy hk1)) ?_;let y1:Env:=[(2000002,.box [I6 v10])];let z5:=fun t=>z4 ((7,.box [I6 v11,I6 v12,l3 none v13,l77 (some 10703) v14])::t);refine WO.fn (e2:=z5 ((22,l85 none a1.qj)::(23,I6 (a1.qj.length:Int))::(24,I6 (k1:Int))::(25,.bool true)::y1)) ?_;refine W.seq<|W.cT ?_;let y2:Env:=(22,l85 none a1.qj)::(23,I6 (a1.qj.length:Int))::(24,I6 (k1:Int))::y1;refine W.sw (e:=z5 y2) ?_;refine W.seq<|W.block<|W.sr<|WO.pk 1 (if (0:Int)<=(k1:Int) then ((C0 jv a1.qj)[A6 (k1:Int)]?).map AV.ptr else none) ((jA (f:=jv) hx1).trans (congrArg (fun y=>some (AV.ptr y)) (Qm x1))) ?_;let y3:Env:=(9,.ptr (.agg [I6 x1.ql,I6 x1.qd.qc,l3 none x1.qd.qa,l85 none x1.qj]))::y2;let z6:=fun t=>z5 ((8,I6 (k1:Int))::t);refine WO.fi [1,2,6,7,8,9,22,23,24,2000002] [9] (e2:=z6 y3) ?_;refine W.seq<|W.seq ?_;let z7:=fun t=>z5 ((9,.ptr (.agg [I6 x1.ql,I6 x1.qd.qc,l3 none x1.qd.qa,l85 none x1.qj]))::(22,l85 none a1.qj)::(23,I6 (a1.qj.length:Int))::(24,I6 (k1:Int))::t);refine W.join (σ:=(Bool)) (fun s=>z7 ((40,.bool s)::y1)) (fun s=>(JV x1 a2 v10 v11 v12 v13 v14 (js fuel) (qT a2 (js fuel) (jd) r1 (k1+1)) (jd)) s=some r) (fun v19 h=>?_) (fun hK18=>?_)
  .unfold JV at h;refine W.ch v19 h (fun h=>?_) (fun h=>?_)
   .refine W.exit<|W.weak [6,7,2000002] [7] [] [] (env':=z2 ((7,.ptr (.agg [I6 (ruProof.mk v11 (apiFact.mk v12 v13) v14).ql,I6 (ruProof.mk v11 (apiFact.mk v12 v13) v14).qd.qc,l3 none (ruProof.mk v11 (apiFact.mk v12 v13) v14).qd.qa,l77 none (ruProof.mk v11 (apiFact.mk v12 v13) v14).qj]))::y1)) kR ?_;exact hK8 (v10,(ruProof.mk v11 (apiFact.mk v12 v13) v14)) h
   refine W.sw (e:=z5 y3) ?_;obtain⟨w20,hw20,h⟩:=qb h;obtain⟨hc21,h⟩:=qm h;let z8:=fun t=>z4 ((7,.box [I6 v11,I6 v12,l3 none v13,l77 (some 49) (v14++[w20.1])])::t);refine W.regionA (e1:=z8 [(9,.ptr (.agg [I6 x1.ql,I6 x1.qd.qc,l3 none x1.qd.qa,l85 none x1.qj])),(22,l85 none a1.qj),(23,I6 (a1.qj.length:Int)),(24,I6 (k1:Int)),(41,.pb 7 3),(42,l77 none v14),(43,.agg [I6 x1.ql,I6 x1.qd.qc,l3 none x1.qd.qa,l85 none x1.qj]),(44,I6 a2),(45,I6 (W6 (a2 - 1))),(46,.pb 2000002 0),(47,.agg [I6 w20.1.ql,I6 w20.1.qd.qc,l3 none w20.1.qd.qa,l77 none w20.1.qj]),(48,l77 (some 48) [w20.1]),(49,l77 (some 49) (v14++[w20.1])),(50,.pb 7 3),(2000002,.box [I6 w20.2])]) kR ?_ ?_
   .generalize hall:Array.toList _=all;let y0:Nat×AV:=(1,I6 a2);let y1:Nat×AV:=(2,.pb 2000002 0);let y2:Nat×AV:=(6,.box [.int .i64 0,.int .i64 0,.nils,.nils]);let y3:Nat×AV:=(9,.ptr (.agg [I6 x1.ql,I6 x1.qd.qc,l3 none x1.qd.qa,l85 none x1.qj]));let y4:Nat×AV:=(22,l85 none a1.qj);let y5:Nat×AV:=(23,I6 (a1.qj.length:Int));let y6:Nat×AV:=(24,I6 (k1:Int));let y7:Nat×AV:=(44,I6 a2);let y8:Nat×AV:=(7,.box [I6 v11,I6 v12,l3 none v13,l77 (some 10703) v14]);let y9:Nat×AV:=(41,.pb 7 3);let y10:Nat×AV:=(2000002,.box [I6 v10]);let y11:Nat×AV:=(43,.agg [I6 x1.ql,I6 x1.qd.qc,l3 none x1.qd.qa,l85 none x1.qj]);let y12:Nat×AV:=(46,.pb 2000002 0);let y13:Nat×AV:=(45,I6 (W6 (a2 - 1)));let y14:Nat×AV:=(42,l77 (some 10703) v14);let y15:Nat×AV:=(2000002,.box [I6 w20.2]);let y16:Nat×AV:=(47,.agg [I6 w20.1.ql,I6 w20.1.qd.qc,l3 none w20.1.qd.qa,l77 none w20.1.qj]);let y17:Nat×AV:=(48,l77 (some 48) [w20.1]);let y18:Nat×AV:=(42,l77 none v14);let y19:Nat×AV:=(49,l77 (some 49) (v14++[w20.1]));let y20:Nat×AV:=(50,.pb 7 3);let y21:Nat×AV:=(7,.box [I6 v11,I6 v12,l3 none v13,l77 (some 49) (v14++[w20.1])]);let y22:Nat×AV:=(7,.box [I6 v11,I6 v12,l3 none v13,l77 none v14])
    let A:=fun R E=>Run Try.prog (.any 53 all R E ([y0,y1,y2,y21,y3,y4,y5,y6,y9,y18,y11,y7,y13,y12,y16,y17,y19,y20,y15]))
    have s_:A [] [y0,y1,y2,y21,y3,y4,y5,y6,y9,y18,y11,y7,y13,y12,y16,y17,y19,y20,y15]:=.anyNil;have s_10:A [10] [y0,y1,y2,y22,y3,y4,y5,y6,y9,y18,y11,y7,y13,y12,y16,y17,y19,y20,y15]:=.aM hall (.c 10 s_ .n);have s_9_10:A [9,10] [y0,y1,y2,y22,y3,y4,y5,y6,y9,y18,y11,y7,y13,y12,y16,y17,y19,y15]:=.aM hall (.c 9 s_10 .n)
    have s_8_9_10:A [8,9,10] [y0,y1,y2,y8,y3,y4,y5,y6,y9,y14,y11,y7,y13,y12,y16,y17,y15]:=by
     refine .aX hall (.c 8 s_9_10 .n) (.cons ?_ .nil)
     .refine⟨_,rfl,?_⟩;refine WO.ak 0 49 77 4 qZ v14 [w20.1] hc21 ?_;exact WO.nil rfl
    have s_7_8_9_10:A [7,8,9,10] [y0,y1,y2,y8,y3,y4,y5,y6,y9,y14,y11,y7,y13,y12,y16,y15]:=by
     refine .aX hall (.c 7 s_8_9_10 .n) (.cons ?_ .nil)
     .refine⟨_,rfl,?_⟩;refine WO.steps 1 (e1:=[y0,y1,y2,y8,y3,y4,y5,y6,y9,y14,y11,y7,y13,y12,y16,(48,AV.lst 77 4 (some 48) [.agg [I6 w20.1.ql,I6 w20.1.qd.qc,l3 none w20.1.qd.qa,l77 none w20.1.qj]]),y15]) kR ?_;rw[(congrArg (fun y=>AV.lst 77 4 (some 48) [y]) (Qh w20.1).symm:AV.lst 77 4 (some 48) [.agg [I6 w20.1.ql,I6 w20.1.qd.qc,l3 none w20.1.qd.qa,l77 none w20.1.qj]]=l77 (some 48) [w20.1])];exact WO.nil rfl
    have s_1_8_9_10:A [1,8,9,10] [y0,y1,y2,y8,y3,y4,y5,y6,y9,y11,y7,y13,y12,y16,y17,y15]:=.aM hall (.c 1 s_8_9_10 .n)
    have s_6_7_8_9_10:A [6,7,8,9,10] [y0,y1,y2,y8,y3,y4,y5,y6,y9,y14,y11,y7,y13,y12,y10]:=by
     refine .aX hall (.c 6 s_7_8_9_10 .n) (.cons ?_ .nil)
     .exact⟨_,rfl,WO.cm 0 [(2000002,2000002)] [] (F:=100) (args:=[.agg [I6 x1.ql,I6 x1.qd.qc,l3 none x1.qd.qa,l85 none x1.qj],I6 (W6 (a2 - 1)),.pb 2000002 0]) (hp:=[y10]) (hp2:=[y15]) (r:=.agg [I6 w20.1.ql,I6 w20.1.qd.qc,l3 none w20.1.qd.qa,l77 none w20.1.qj]) (ih x1 (W6 (a2 - 1)) v10 w20 hw20) (WO.nil rfl)⟩
    have s_1_7_8_9_10:A [1,7,8,9,10] [y0,y1,y2,y8,y3,y4,y5,y6,y9,y11,y7,y13,y12,y16,y15]:=by
     refine .aX hall (.c 1 s_7_8_9_10 (.c 7 s_1_8_9_10 .n)) (.cons ?_ (.cons ?_ .nil))
     .exact WO.s1 rfl
     refine⟨_,rfl,?_⟩;refine WO.steps 1 (e1:=[y0,y1,y2,y8,y3,y4,y5,y6,y9,y11,y7,y13,y12,y16,(48,AV.lst 77 4 (some 48) [.agg [I6 w20.1.ql,I6 w20.1.qd.qc,l3 none w20.1.qd.qa,l77 none w20.1.qj]]),y15]) kR ?_;rw[(congrArg (fun y=>AV.lst 77 4 (some 48) [y]) (Qh w20.1).symm:AV.lst 77 4 (some 48) [.agg [I6 w20.1.ql,I6 w20.1.qd.qc,l3 none w20.1.qd.qa,l77 none w20.1.qj]]=l77 (some 48) [w20.1])];exact WO.nil rfl
    have s_0_1_8_9_10:A [0,1,8,9,10] [y0,y1,y2,y8,y3,y4,y5,y6,y11,y7,y13,y12,y16,y17,y15]:=.aM hall (.c 0 s_1_8_9_10 .n);have s_5_6_7_8_9_10:A [5,6,7,8,9,10] [y0,y1,y2,y8,y3,y4,y5,y6,y9,y14,y11,y7,y13,y10]:=.aM hall (.c 5 s_6_7_8_9_10 .n);have s_4_6_7_8_9_10:A [4,6,7,8,9,10] [y0,y1,y2,y8,y3,y4,y5,y6,y9,y14,y11,y7,y12,y10]:=.aM hall (.c 4 s_6_7_8_9_10 .n);have s_2_6_7_8_9_10:A [2,6,7,8,9,10] [y0,y1,y2,y8,y3,y4,y5,y6,y9,y14,y7,y13,y12,y10]:=.aM hall (.c 2 s_6_7_8_9_10 .n)
    have s_1_6_7_8_9_10:A [1,6,7,8,9,10] [y0,y1,y2,y8,y3,y4,y5,y6,y9,y11,y7,y13,y12,y10]:=by
     refine .aX hall (.c 1 s_6_7_8_9_10 (.c 6 s_1_7_8_9_10 .n)) (.cons ?_ (.cons ?_ .nil))
     .exact WO.s1 rfl
     exact⟨_,rfl,WO.cm 0 [(2000002,2000002)] [] (F:=100) (args:=[.agg [I6 x1.ql,I6 x1.qd.qc,l3 none x1.qd.qa,l85 none x1.qj],I6 (W6 (a2 - 1)),.pb 2000002 0]) (hp:=[y10]) (hp2:=[y15]) (r:=.agg [I6 w20.1.ql,I6 w20.1.qd.qc,l3 none w20.1.qd.qa,l77 none w20.1.qj]) (ih x1 (W6 (a2 - 1)) v10 w20 hw20) (WO.nil rfl)⟩
    have s_0_1_7_8_9_10:A [0,1,7,8,9,10] [y0,y1,y2,y8,y3,y4,y5,y6,y11,y7,y13,y12,y16,y15]:=by
     refine .aX hall (.c 0 s_1_7_8_9_10 (.c 7 s_0_1_8_9_10 .n)) (.cons ?_ (.cons ?_ .nil))
     .exact WO.s1 rfl
     refine⟨_,rfl,?_⟩;refine WO.steps 1 (e1:=[y0,y1,y2,y8,y3,y4,y5,y6,y11,y7,y13,y12,y16,(48,AV.lst 77 4 (some 48) [.agg [I6 w20.1.ql,I6 w20.1.qd.qc,l3 none w20.1.qd.qa,l77 none w20.1.qj]]),y15]) kR ?_;rw[(congrArg (fun y=>AV.lst 77 4 (some 48) [y]) (Qh w20.1).symm:AV.lst 77 4 (some 48) [.agg [I6 w20.1.ql,I6 w20.1.qd.qc,l3 none w20.1.qd.qa,l77 none w20.1.qj]]=l77 (some 48) [w20.1])];exact WO.nil rfl
    have s_4_5_6_7_8_9_10:A [4,5,6,7,8,9,10] [y0,y1,y2,y8,y3,y4,y5,y6,y9,y14,y11,y7,y10]:=.aM hall (.c 4 s_5_6_7_8_9_10 (.c 5 s_4_6_7_8_9_10 .n));have s_3_4_6_7_8_9_10:A [3,4,6,7,8,9,10] [y0,y1,y2,y8,y3,y4,y5,y6,y9,y14,y11,y12,y10]:=.aM hall (.c 3 s_4_6_7_8_9_10 .n);have s_2_5_6_7_8_9_10:A [2,5,6,7,8,9,10] [y0,y1,y2,y8,y3,y4,y5,y6,y9,y14,y7,y13,y10]:=.aM hall (.c 2 s_5_6_7_8_9_10 (.c 5 s_2_6_7_8_9_10 .n));have s_2_4_6_7_8_9_10:A [2,4,6,7,8,9,10] [y0,y1,y2,y8,y3,y4,y5,y6,y9,y14,y7,y12,y10]:=.aM hall (.c 2 s_4_6_7_8_9_10 (.c 4 s_2_6_7_8_9_10 .n));have s_1_5_6_7_8_9_10:A [1,5,6,7,8,9,10] [y0,y1,y2,y8,y3,y4,y5,y6,y9,y11,y7,y13,y10]:=.aM hall (.c 1 s_5_6_7_8_9_10 (.c 5 s_1_6_7_8_9_10 .n));have s_1_4_6_7_8_9_10:A [1,4,6,7,8,9,10] [y0,y1,y2,y8,y3,y4,y5,y6,y9,y11,y7,y12,y10]:=.aM hall (.c 1 s_4_6_7_8_9_10 (.c 4 s_1_6_7_8_9_10 .n));have s_1_2_6_7_8_9_10:A [1,2,6,7,8,9,10] [y0,y1,y2,y8,y3,y4,y5,y6,y9,y7,y13,y12,y10]:=.aM hall (.c 1 s_2_6_7_8_9_10 (.c 2 s_1_6_7_8_9_10 .n))
    have s_0_1_6_7_8_9_10:A [0,1,6,7,8,9,10] [y0,y1,y2,y8,y3,y4,y5,y6,y11,y7,y13,y12,y10]:=by
     refine .aX hall (.c 0 s_1_6_7_8_9_10 (.c 6 s_0_1_7_8_9_10 .n)) (.cons ?_ (.cons ?_ .nil))
     .exact WO.s1 rfl
     exact⟨_,rfl,WO.cm 0 [(2000002,2000002)] [] (F:=100) (args:=[.agg [I6 x1.ql,I6 x1.qd.qc,l3 none x1.qd.qa,l85 none x1.qj],I6 (W6 (a2 - 1)),.pb 2000002 0]) (hp:=[y10]) (hp2:=[y15]) (r:=.agg [I6 w20.1.ql,I6 w20.1.qd.qc,l3 none w20.1.qd.qa,l77 none w20.1.qj]) (ih x1 (W6 (a2 - 1)) v10 w20 hw20) (WO.nil rfl)⟩
    have s_3_4_5_6_7_8_9_10:A [3,4,5,6,7,8,9,10] [y0,y1,y2,y8,y3,y4,y5,y6,y9,y14,y11,y10]:=.aM hall (.c 3 s_4_5_6_7_8_9_10 (.c 5 s_3_4_6_7_8_9_10 .n));have s_2_4_5_6_7_8_9_10:A [2,4,5,6,7,8,9,10] [y0,y1,y2,y8,y3,y4,y5,y6,y9,y14,y7,y10]:=.aM hall (.c 2 s_4_5_6_7_8_9_10 (.c 4 s_2_5_6_7_8_9_10 (.c 5 s_2_4_6_7_8_9_10 .n)));have s_2_3_4_6_7_8_9_10:A [2,3,4,6,7,8,9,10] [y0,y1,y2,y8,y3,y4,y5,y6,y9,y14,y12,y10]:=.aM hall (.c 2 s_3_4_6_7_8_9_10 (.c 3 s_2_4_6_7_8_9_10 .n));have s_1_4_5_6_7_8_9_10:A [1,4,5,6,7,8,9,10] [y0,y1,y2,y8,y3,y4,y5,y6,y9,y11,y7,y10]:=.aM hall (.c 1 s_4_5_6_7_8_9_10 (.c 4 s_1_5_6_7_8_9_10 (.c 5 s_1_4_6_7_8_9_10 .n)));have s_1_3_4_6_7_8_9_10:A [1,3,4,6,7,8,9,10] [y0,y1,y2,y8,y3,y4,y5,y6,y9,y11,y12,y10]:=.aM hall (.c 1 s_3_4_6_7_8_9_10 (.c 3 s_1_4_6_7_8_9_10 .n));have s_1_2_5_6_7_8_9_10:A [1,2,5,6,7,8,9,10] [y0,y1,y2,y8,y3,y4,y5,y6,y9,y7,y13,y10]:=.aM hall (.c 1 s_2_5_6_7_8_9_10 (.c 2 s_1_5_6_7_8_9_10 (.c 5 s_1_2_6_7_8_9_10 .n)));have s_1_2_4_6_7_8_9_10:A [1,2,4,6,7,8,9,10] [y0,y1,y2,y8,y3,y4,y5,y6,y9,y7,y12,y10]:=.aM hall (.c 1 s_2_4_6_7_8_9_10 (.c 2 s_1_4_6_7_8_9_10 (.c 4 s_1_2_6_7_8_9_10 .n)));have s_0_1_5_6_7_8_9_10:A [0,1,5,6,7,8,9,10] [y0,y1,y2,y8,y3,y4,y5,y6,y11,y7,y13,y10]:=.aM hall (.c 0 s_1_5_6_7_8_9_10 (.c 5 s_0_1_6_7_8_9_10 .n));have s_0_1_4_6_7_8_9_10:A [0,1,4,6,7,8,9,10] [y0,y1,y2,y8,y3,y4,y5,y6,y11,y7,y12,y10]:=.aM hall (.c 0 s_1_4_6_7_8_9_10 (.c 4 s_0_1_6_7_8_9_10 .n));have s_0_1_2_6_7_8_9_10:A [0,1,2,6,7,8,9,10] [y0,y1,y2,y8,y3,y4,y5,y6,y7,y13,y12,y10]:=.aM hall (.c 0 s_1_2_6_7_8_9_10 (.c 2 s_0_1_6_7_8_9_10 .n));have s_2_3_4_5_6_7_8_9_10:A [2,3,4,5,6,7,8,9,10] [y0,y1,y2,y8,y3,y4,y5,y6,y9,y14,y10]:=.aM hall (.c 2 s_3_4_5_6_7_8_9_10 (.c 3 s_2_4_5_6_7_8_9_10 (.c 5 s_2_3_4_6_7_8_9_10 .n)));have s_1_3_4_5_6_7_8_9_10:A [1,3,4,5,6,7,8,9,10] [y0,y1,y2,y8,y3,y4,y5,y6,y9,y11,y10]:=.aM hall (.c 1 s_3_4_5_6_7_8_9_10 (.c 3 s_1_4_5_6_7_8_9_10 (.c 5 s_1_3_4_6_7_8_9_10 .n)));have s_1_2_4_5_6_7_8_9_10:A [1,2,4,5,6,7,8,9,10] [y0,y1,y2,y8,y3,y4,y5,y6,y9,y7,y10]:=.aM hall (.c 1 s_2_4_5_6_7_8_9_10 (.c 2 s_1_4_5_6_7_8_9_10 (.c 4 s_1_2_5_6_7_8_9_10 (.c 5 s_1_2_4_6_7_8_9_10 .n))));have s_1_2_3_4_6_7_8_9_10:A [1,2,3,4,6,7,8,9,10] [y0,y1,y2,y8,y3,y4,y5,y6,y9,y12,y10]:=.aM hall (.c 1 s_2_3_4_6_7_8_9_10 (.c 2 s_1_3_4_6_7_8_9_10 (.c 3 s_1_2_4_6_7_8_9_10 .n)));have s_0_1_4_5_6_7_8_9_10:A [0,1,4,5,6,7,8,9,10] [y0,y1,y2,y8,y3,y4,y5,y6,y11,y7,y10]:=.aM hall (.c 0 s_1_4_5_6_7_8_9_10 (.c 4 s_0_1_5_6_7_8_9_10 (.c 5 s_0_1_4_6_7_8_9_10 .n)));have s_0_1_3_4_6_7_8_9_10:A [0,1,3,4,6,7,8,9,10] [y0,y1,y2,y8,y3,y4,y5,y6,y11,y12,y10]:=.aM hall (.c 0 s_1_3_4_6_7_8_9_10 (.c 3 s_0_1_4_6_7_8_9_10 .n));have s_0_1_2_5_6_7_8_9_10:A [0,1,2,5,6,7,8,9,10] [y0,y1,y2,y8,y3,y4,y5,y6,y7,y13,y10]:=.aM hall (.c 0 s_1_2_5_6_7_8_9_10 (.c 2 s_0_1_5_6_7_8_9_10 (.c 5 s_0_1_2_6_7_8_9_10 .n)));have s_0_1_2_4_6_7_8_9_10:A [0,1,2,4,6,7,8,9,10] [y0,y1,y2,y8,y3,y4,y5,y6,y7,y12,y10]:=.aM hall (.c 0 s_1_2_4_6_7_8_9_10 (.c 2 s_0_1_4_6_7_8_9_10 (.c 4 s_0_1_2_6_7_8_9_10 .n)));have s_1_2_3_4_5_6_7_8_9_10:A [1,2,3,4,5,6,7,8,9,10] [y0,y1,y2,y8,y3,y4,y5,y6,y9,y10]:=.aM hall (.c 1 s_2_3_4_5_6_7_8_9_10 (.c 2 s_1_3_4_5_6_7_8_9_10 (.c 3 s_1_2_4_5_6_7_8_9_10 (.c 5 s_1_2_3_4_6_7_8_9_10 .n))));have s_0_1_3_4_5_6_7_8_9_10:A [0,1,3,4,5,6,7,8,9,10] [y0,y1,y2,y8,y3,y4,y5,y6,y11,y10]:=.aM hall (.c 0 s_1_3_4_5_6_7_8_9_10 (.c 3 s_0_1_4_5_6_7_8_9_10 (.c 5 s_0_1_3_4_6_7_8_9_10 .n)));have s_0_1_2_4_5_6_7_8_9_10:A [0,1,2,4,5,6,7,8,9,10] [y0,y1,y2,y8,y3,y4,y5,y6,y7,y10]:=.aM hall (.c 0 s_1_2_4_5_6_7_8_9_10 (.c 2 s_0_1_4_5_6_7_8_9_10 (.c 4 s_0_1_2_5_6_7_8_9_10 (.c 5 s_0_1_2_4_6_7_8_9_10 .n))))
    have s_0_1_2_3_4_6_7_8_9_10:A [0,1,2,3,4,6,7,8,9,10] [y0,y1,y2,y8,y3,y4,y5,y6,y12,y10]:=.aM hall (.c 0 s_1_2_3_4_6_7_8_9_10 (.c 2 s_0_1_3_4_6_7_8_9_10 (.c 3 s_0_1_2_4_6_7_8_9_10 .n)));have s_0_1_2_3_4_5_6_7_8_9_10:A [0,1,2,3,4,5,6,7,8,9,10] [y0,y1,y2,y8,y3,y4,y5,y6,y10]:=.aM hall (.c 0 s_1_2_3_4_5_6_7_8_9_10 (.c 2 s_0_1_3_4_5_6_7_8_9_10 (.c 3 s_0_1_2_4_5_6_7_8_9_10 (.c 5 s_0_1_2_3_4_6_7_8_9_10 .n))));exact s_0_1_2_3_4_5_6_7_8_9_10
   refine WO.fn (e2:=z8 [(22,l85 none a1.qj),(23,I6 (a1.qj.length:Int)),(24,I6 (k1:Int)),(2000002,.box [I6 w20.2])]) ?_;refine W.rg<|WO.pq 0 (jI (qN hl1 hk1))<|WO.fin [1,2,6,7,22,23,24,2000002] [] [] [(49,some 10703)] (e2:=z4 [(7,.box [I6 v11,I6 v12,l3 none v13,l77 (some 10703) (v14++[w20.1])]),(22,l85 none a1.qj),(23,I6 (a1.qj.length:Int)),(24,I6 ((k1+1:Nat):Int)),(2000002,.box [I6 w20.2])]) kR (fun _ h=>h) ?_;exact hN1 (w20.2,v11,v12,v13,(v14++[w20.1])) h
  refine W.rg ?_;let z9:=fun t=>z6 ((9,.ptr (.agg [I6 x1.ql,I6 x1.qd.qc,l3 none x1.qd.qa,l85 none x1.qj]))::(22,l85 none a1.qj)::(23,I6 (a1.qj.length:Int))::(24,I6 (k1:Int))::(29,I6 a2)::t);refine WO.bh 3 (fun b=>z9 ((30,.bool b)::(31,.bool b)::y1)) (decide (a2<1)) h (fun h=>?_) (fun h=>?_)
  .exact WO.fn (hK18 true h)
  refine WO.bh 4 (fun b=>z9 ((30,.bool false)::(31,.bool false)::(32,I6 (k1:Int))::(33,.bool b)::(34,.bool b)::(35,.bool b)::y1)) (decide ((k1:Int) > 5)) h (fun h=>?_) (fun h=>?_)
  .exact WO.fn (hK18 true h)
  exact WO.fn (hK18 (decide (v10<1)) h)
end Go.AM
