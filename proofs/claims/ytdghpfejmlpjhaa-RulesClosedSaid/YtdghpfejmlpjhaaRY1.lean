import Derived.Test.YtdghpfejmlpjhaaRL9
import Derived.Test.YtdghpfejmlpjhaaASimP
import Derived.Test.YtdghpfejmlpjhaaRPT
import Derived.Test.YtdghpfejmlpjhaaChecked
import Derived.Test.YtdghpfejmlpjhaaRows
import Derived.ProofKit
import Derived.OpenShut
import Derived.Test.YtdghpfejmlpjhaaASimK
import Derived.Test.YtdghpfejmlpjhaaRSort
import Derived.Test.YtdghpfejmlpjhaaRInst
set_option linter.all false
set_option maxRecDepth 100000
open Option renaming bind_some→A0
open Prod renaming fst→A1
open List renaming mem_cons_self→A2, mem_cons_of_mem→A3, length_cons→A4, length_map→A5, getD_eq_getElem?_getD→A8, map_cons→A9, replicate→B1, getElem?_eq_getElem→C7, nil_append→D1, range→D3, length_append→D4, length_set→D5, mem_cons→D7, range'→D8, length_filter_le→E9, length_range→F6, drop_eq_getElem_cons→F7, getElem?_set_self→F8, getElem?_set_ne→F9, getElem?_replicate→G0, getElem?_append_right→G1
open Go.IntKind renaming wrap→A6
open Int renaming toNat→A7, toNat_natCast→C0
open Bool renaming not_true→D0
open Nat renaming mul_one→D2, zero_add→D6, succ_mul→D9, pow_succ→E0, le_trans→E7, pow_le_pow_right→E8
namespace Go.AM
open Go.Proofs
open Classical
variable {a:rf2Atom} {S:List Bool} {rel:Int} {args v w:List Int} {f:rufact} {L:List ruRule} {ar:Int->Nat} {P:rufact->Prop} {out:List (rufact×Bool)} {l:List rf3Rule} {facts:List apiFact}
def toA (a:rf2Atom):qm:=⟨a.qb,a.qa⟩
def toL (x:rf3Lit):ruLit:=⟨x.qr,toA x.qe⟩
def toR (r:rf3Rule):ruRule:=⟨toA r.qf,r.qc.map toL⟩
theorem qln (h:fitP a.qb a.qa):cvA a=toA a:=by
 unfold cvA toA;rw[Dd h]
theorem qll {r:rf3Rule} (h:okR r):cvR r=toR r:=by
 unfold cvR toR;rw[qln h.1,List.take_of_length_le (by have:=h.2.1;omega)]
 congr 1
 refine List.map_congr_left fun x hx=>?_
 unfold cvL toL;rw[qln (h.2.2.1 x hx)]
def InstP (P:rufact->Prop):List ruLit->List Int->List Int->Prop
 | [],v,w=>w=v
 | x::body,v,w=>(x.qr=true/\InstP P body v w)\/(x.qr=false/\∃ g u,P g/\g.qj=x.qe.qb/\(argsF g).length=x.qe.qa.length/\fitA v x.qe.qa (argsF g)=some u/\InstP P body u w)
def partR (S:List Bool) (rel:Int) (args v:List Int) (G:List Int->List (List Int)) (n:Nat):List (List Int) :=
 if S.getD n false=true/\(decF n).qj=rel/\(argsF (decF n)).length=args.length then (match fitA v args (argsF (decF n)) with | some u=>G u | none=>[]) else []
def instR (S:List Bool):List ruLit->List Int->List (List Int)
 | [],v=>[v]
 | x::body,v=>if x.qr=true then instR S body v else (D8 0 252).flatMap (partR S x.qe.qb x.qe.qa v (instR S body))
theorem qgN {α β:Type} {f:α->List β} {B:Nat}:∀ {l:List α},(∀ x,x∈l->(f x).length<=B)->(l.flatMap f).length<=l.length * B
 | [],_=>by simp
 | a::l,h=>by
  have h1:=h a (A2 ..)
  have h2:=qgN (l:=l) fun x hx=>h x (A3 _ hx)
  rw[List.flatMap_cons,D4,A4,D9];omega
theorem qjF {G:List Int->List (List Int)} {B:Nat} (h:∀ u,(G u).length<=B) (n:Nat):(partR S rel args v G n).length<=B:=by
 unfold partR;split
 ·split
  ·exact h _
  simp
 simp
theorem Vu (S:List Bool):∀ (body:List ruLit) (v:List Int),(instR S body v).length<=252 ^ body.length
 | [],v=>by simp[instR]
 | x::body,v=>by
  unfold instR;split
  ·have:=Vu S body v;rw[A4,E0];omega
  have:=qgN (l:=D8 0 252) (f:=partR S x.qe.qb x.qe.qa v (instR S body)) (B:=252 ^ body.length) fun n _=>qjF (Vu S body) n
  rw[List.length_range']at this;rw[A4,E0];omega
def setB (S:List Bool) (g:rufact):Prop:=okU1 g/\S.getD (codeF g) false=true
theorem Vt {S:List Bool}:∀ (body:List ruLit) (v w:List Int),w∈instR S body v↔InstP (setB S) body v w
 | [],v,w=>by simp[instR,InstP]
 | x::body,v,w=>by
  unfold instR InstP
  cases hn:x.qr with
  | true=>simp[Vt body v w]
  | false =>
   simp only[Bool.false_eq_true,if_false,false_and,false_or,true_and];rw[List.mem_flatMap];constructor
   ·rintro⟨n,hn,hw⟩
    have hn:n<252:=by have:=List.mem_range'_1.1 hn;omega
    unfold partR at hw;split at hw
    ·rename_i hc
     cases hf:fitA v x.qe.qa (argsF (decF n)) with
     | none=>rw[hf]at hw;simp at hw
     | some u =>
      rw[hf]at hw;exact⟨decF n,u,⟨qlW hn,by rw[qlp hn];exact hc.1⟩,hc.2.1,hc.2.2,hf,(Vt body u w).1 hw⟩
    simp at hw
   rintro⟨g,u,hg,h1,h2,h3,h4⟩
   refine⟨codeF g,List.mem_range'_1.2 ⟨by omega,by have:=QD hg.1;omega⟩,?_⟩;unfold partR;rw[qcY hg.1,if_pos ⟨hg.2,h1,h2⟩,h3];exact (Vt body u w).2 h4
theorem NZ (w31:apiFact) (K:List Int->Bool->Option (List (List Int))):∀ (args:List Int) (k:Nat) (v:List Int),arg7 args->k+args.length<=w31.qa.length->v.length=8->∃ u,qH w31 K args k v false=K u false
 | [],k,v,_,_,_=>⟨v,by rw[qH]⟩
 | x::args,k,v,ha,hk,hv=>by
  rw[A4]at hk;have hx:=ha x (A2 ..)
  have ha':arg7 args:=fun y hy=>ha y (A3 _ hy)
  have hi:idx w31.qa (k:Int)=some w31.qa[k]:=by unfold idx;simp[show k<w31.qa.length by omega]
  rw[qH];unfold Jm;by_cases hneg:x<0
  ·rw[dT hneg,cT,cN];exact NZ w31 K args (k+1) v ha' oM hv
  rw[dF hneg,cN,Nv (dec8 (by omega) hx.2),get8 hv (by omega) hx.2];simp only[A0];by_cases hz:v.getD x.toNat 0=0
  ·rw[show (v.getD x.toNat 0 != 0)=false by simp only[hz,bne_self_eq_false],cN,hi];simp only[A0];rw[Nv (dec8 (by omega) hx.2),Nv (dT (by omega))];exact NZ w31 K args (k+1) _ ha' oM (by rw[D5,hv])
  rw[show (v.getD x.toNat 0 != 0)=true from bne_iff_ne.2 hz,cT,cN];exact NZ w31 K args (k+1) v ha' oM hv
theorem qav (w31:apiFact) (K:List Int->Bool->Option (List (List Int))):∀ (args:List Int) (k:Nat) (v:List Int),arg7 args->k+args.length<=w31.qa.length->v.length=8 ->
  match fitA v args (w31.qa.drop k) with
  | some u=>qH w31 K args k v true=K u true
  | none=>∃ u,qH w31 K args k v true=K u false
 | [],k,v,_,_,_=>by
  rw[fitA];show qH w31 K [] k v true=_;rw[qH]
 | x::args,k,v,ha,hk,hv=>by
  rw[A4]at hk;have hx:=ha x (A2 ..)
  have ha':arg7 args:=fun y hy=>ha y (A3 _ hy)
  have hi:idx w31.qa (k:Int)=some w31.qa[k]:=by unfold idx;simp[show k<w31.qa.length by omega]
  have hd:w31.qa.drop k=w31.qa[k]::w31.qa.drop (k+1):=F7 oM;rw[qH,hd];unfold Jm fitA;by_cases hneg:x<0
  ·rw[dT hneg,cT,cT,hi,if_pos hneg,wrap64 (by omega) (by omega)];simp only[A0];by_cases hq:0 - x=w31.qa[k]
   ·rw[if_pos hq,show (w31.qa[k] == 0 - x)=true from beq_iff_eq.2 hq.symm];exact qav w31 K args (k+1) v ha' oM hv
   rw[if_neg hq,show (w31.qa[k] == 0 - x)=false from beq_eq_false_iff_ne.2 (fun h=>hq h.symm)];exact NZ w31 K args (k+1) v ha' oM hv
  rw[dF hneg,cN,if_neg hneg,Nv (dec8 (by omega) hx.2),get8 hv (by omega) hx.2];simp only[A0];by_cases hz:v.getD x.toNat 0=0
  ·rw[show (v.getD x.toNat 0 != 0)=false by simp only[hz,bne_self_eq_false],cN,hi,if_neg (fun h=>h.1 hz)];simp only[A0];rw[Nv (dec8 (by omega) hx.2),Nv (dT (by omega)),D6,D2];exact qav w31 K args (k+1) _ ha' oM (by rw[D5,hv])
  rw[show (v.getD x.toNat 0 != 0)=true from bne_iff_ne.2 hz,cT,cT,hi];simp only[A0];rw[Nv (dec8 (by omega) hx.2)];by_cases hq:v.getD x.toNat 0=w31.qa[k]
  ·rw[if_neg (fun h=>h.2 hq),show (w31.qa[k] == v.getD x.toNat 0)=true from beq_iff_eq.2 hq.symm,set8 hq];exact qav w31 K args (k+1) v ha' oM hv
  rw[if_pos ⟨hz,hq⟩,show (w31.qa[k] == v.getD x.toNat 0)=false from beq_eq_false_iff_ne.2 (fun h=>hq h.symm)];exact NZ w31 K args (k+1) v ha' oM hv
theorem qfn {r:rf3Rule} {S:List Bool} (hS:S.length=252) {i:Int} {v:List Int} (hv:v.length=8) {x:rf3Lit} (hx:arg7 x.qe.qa) (hx2:x.qe.qa.length<=2) {K0:rf3Rule->List Bool->Int->List Int->Option (List (List Int))} (K22:List (List Int)->Option (List (List Int))) {G:List Int->List (List Int)} {B:Nat}
  (hG:∀ u,u.length=8->K0 r S (A6 .i64 (i+1)) u=some (G u)) (hGl:∀ u,(G u).length<=B):∀ (L:List Nat) (k:Nat) (acc:List (List Int)),k+L.length=252->acc.length+L.length * B<=1000000000 ->
  jH r S i v x K0 K22 L k acc=K22 (acc++(D8 k L.length).flatMap (partR S x.qe.qb x.qe.qa v G))
 | [],k,acc,_,_=>by rw[jH];simp
 | y::L,k,acc,hk,hb=>by
  rw[A4]at hk hb;rw[D9]at hb
  have hk2:k<252:=by omega
  have hg:S[A7 (k:Int) * 1]? = some (S.getD k false):=by
   rw[C0,D2,A8,C7 (by omega)];rfl
  rw[jH,Nv (dT ⟨by omega,by omega⟩),hg,qlA hk2,ZC];simp only[A0];rw[A4,List.range'_succ,List.flatMap_cons,<- List.append_assoc]
  have no:partR S x.qe.qb x.qe.qa v G k=[]->Jn r S i v x acc ⟨(decF k).qj,argsF (decF k)⟩ K0 (Jo (jH r S i v x K0 K22 L (k+1))) true=K22 ((acc++partR S x.qe.qb x.qe.qa v G k)++(D8 (k+1) L.length).flatMap (partR S x.qe.qb x.qe.qa v G)):=fun h=>by
   rw[h,List.append_nil];unfold Jn Jo;rw[cT];exact qfn hS hv hx hx2 K22 hG hGl L (k+1) acc oM oM
  cases hs:S.getD k false with
  | false =>
   simp only[Bool.not_false,cT];exact no (by unfold partR;rw[if_neg (by rw[hs];simp)])
  | true =>
   simp only[D0,cN];by_cases hr:(decF k).qj=x.qe.qb
   ·rw[show ((decF k).qj != x.qe.qb)=false by rw[hr];exact bne_self_eq_false ..,cN];by_cases hl:(argsF (decF k)).length=x.qe.qa.length
    ·rw[show (((argsF (decF k)).length:Int) != (x.qe.qa.length:Int))=false by rw[hl];exact bne_self_eq_false ..];unfold Jn;rw[cN,Nv (dT hv),Nv (dT ⟨hv,by simp⟩),Nv (qu (by omega))];have h2:=qav ⟨(decF k).qj,argsF (decF k)⟩ (Xp r S i acc K0 (Jo (jH r S i v x K0 K22 L (k+1)))) x.qe.qa 0 v hx (by simp only;omega) hv;rw[List.drop_zero]at h2;simp only at h2
     cases hf:fitA v x.qe.qa (argsF (decF k)) with
     | none =>
      rw[hf]at h2;obtain⟨u,h2⟩:=h2;rw[h2]
      have e:partR S x.qe.qb x.qe.qa v G k=[]:=by
       unfold partR;rw[hf];simp
      have:=no e;unfold Jn at this;rw[cT]at this;unfold Xp;rw[cN];exact this
     | some u =>
      rw[hf]at h2;replace h2:qH _ _ x.qe.qa 0 v true=_:=h2;rw[h2]
      have e:partR S x.qe.qb x.qe.qa v G k=G u:=by
       unfold partR;rw[hf,if_pos ⟨hs,hr,hl⟩]
      have hu:u.length=8:=by rw[qcU hf,hv]
      have hlu:=hGl u;unfold Xp Jo;rw[cT,Nv (dT hS),Nv (dT hu),hG u hu];simp only[A0];rw[Nv (JO (by omega) (by rw[D4];omega)),e];exact qfn hS hv hx hx2 K22 hG hGl L (k+1) (acc++G u) oM (by rw[D4];omega)
    rw[show (((argsF (decF k)).length:Int) != (x.qe.qa.length:Int))=true from bne_iff_ne.2 (by omega)];exact no (by unfold partR;rw[if_neg (fun h=>hl h.2.2)])
   rw[show ((decF k).qj != x.qe.qb)=true from bne_iff_ne.2 hr,cT];exact no (by unfold partR;rw[if_neg (fun h=>hr h.2.1)])
theorem Yi {r:rf3Rule} (hb:r.qc.length<=3) (hx:∀ x,x∈r.qc->arg7 x.qe.qa/\x.qe.qa.length<=2) {S:List Bool} (hS:S.length=252):∀ (n fuel i:Nat) (v:List Int),i+n=r.qc.length->n+1<=fuel->v.length=8->jU fuel r S (i:Int) v=some (instR S ((r.qc.drop i).map toL) v)
 | 0,fuel+1,i,v,hi,hf,hv=>by
  rw[jU,Nv (by cases S <;> simp_all),Nv (by cases v <;> simp_all),show ((i:Int) == (r.qc.length:Int))=true from beq_iff_eq.2 (by omega),cT,Nv (dT hv),Nv (dT hv),List.drop_of_length_le (by omega)];rfl
 | n+1,fuel+1,i,v,hi,hf,hv=>by
  have hil:i<r.qc.length:=by omega
  have hid:idx r.qc (i:Int)=some r.qc[i]:=by unfold idx;simp[hil]
  have hd:r.qc.drop i=r.qc[i]::r.qc.drop (i+1):=F7 hil;have hxi:=hx _ (List.getElem_mem hil)
  have ew:A6 .i64 ((i:Int)+1)=((i+1:Nat):Int):=by rw[wrap64 (by omega) (by omega)];omega
  rw[jU,Nv (by cases S <;> simp_all),Nv (by cases v <;> simp_all),show ((i:Int) == (r.qc.length:Int))=false from beq_eq_false_iff_ne.2 (by omega),cN,hid,hd];simp only[A0,A9];unfold instR;have en:(toL r.qc[i]).qr=r.qc[i].qr:=rfl;rw[en]
  cases hn:r.qc[i].qr with
  | true =>
   rw[cT,Nv (dT hS),Nv (dT hv),ew,Yi hb hx hS n fuel (i+1) v (by omega) (by omega) hv];rfl
  | false =>
   rw[cN,Nv (dT hS),Nv (qu (by simp))]
   have hlen:(r.qc.drop (i+1)).length<=2:=by rw[List.length_drop];omega
   rw[qfn hS hv hxi.1 hxi.2 YP (G:=instR S ((r.qc.drop (i+1)).map toL)) (B:=63504) (fun u hu=>by rw[ew];exact Yi hb hx hS n fuel (i+1) u (by omega) (by omega) hu) (fun u=>by
    have h1:=Vu S ((r.qc.drop (i+1)).map toL) u;rw[A5]at h1;have h2:252 ^ (r.qc.drop (i+1)).length<=252 ^ 2:=E8 (by omega) hlen
    have:252 ^ 2=63504:=by decide
    omega) (D3 (A7 252)) 0 [] (by simp) (by simp)]
   unfold YP;rw[D1];simp;rfl
def V8 (v:List Int):Prop:=v.length=8/\∀ i,0<=v.getD i 0/\v.getD i 0<=6
def es16 (es:List Int):Prop:=∀ e,e∈es->1<=e/\e<=6
def bnd (w args:List Int):Prop:=∀ x,x∈args->0<=x->w.getD x.toNat 0≠0
theorem ZV (h:okU1 f):es16 (argsF f):=by
 have:=h.a1;have:=h.a6;have:=h.b0;have:=h.b6;unfold argsF;split
 ·intro e he;simp at he;subst he;omega
 intro e he;simp only[D7,List.not_mem_nil,or_false]at he
 rcases he with rfl | rfl <;> omega
theorem ZD (n i:Nat) (e:Int) (h:n<v.length):(v.set n e).getD i 0=if i=n then e else v.getD i 0:=by
 simp only[A8];by_cases hi:i=n
 ·subst hi;rw[F8 h,if_pos rfl];rfl
 rw[F9 (fun q=>hi q.symm),if_neg hi]
theorem Zt:∀ {xs es v u:List Int},fitA v xs es=some u->V8 v->arg7 xs->es16 es->V8 u/\(∀ i,v.getD i 0≠0->u.getD i 0≠0)/\bnd u xs
 | [],es,v,u,h,hv,_,_=>by
  rw[fitA]at h;cases h;exact⟨hv,fun i hi=>hi,fun x hx=>by simp at hx⟩
 | x::xs,[],v,u,h,_,_,_=>by cases h
 | x::xs,e::es,v,u,h,hv,ha,he=>by
  have hx:=ha x (A2 ..)
  have ha':arg7 xs:=fun y hy=>ha y (A3 _ hy)
  have h1:=he e (A2 ..)
  have he':es16 es:=fun y hy=>he y (A3 _ hy)
  unfold fitA at h;split at h
  ·rename_i hneg;split at h
   ·obtain⟨a,b,c⟩:=Zt h hv ha' he';refine⟨a,b,fun y hy h0=>?_⟩
    rcases List.mem_cons.1 hy with rfl | hy
    ·omega
    exact c y hy h0
   cases h
  rename_i hneg;split at h
  ·cases h
  have hlt:x.toNat<v.length:=by rw[hv.1];omega
  have hv':V8 (v.set x.toNat e):=⟨by rw[D5,hv.1],fun i=>by
   rw[ZD _ _ _ hlt];have:=hv.2 i
   split <;> omega⟩
  obtain⟨a,b,c⟩:=Zt h hv' ha' he'
  have hq:∀ i,v.getD i 0≠0->(v.set x.toNat e).getD i 0≠0:=fun i hi=>by
   rw[ZD _ _ _ hlt];split
   ·omega
   exact hi
  refine⟨a,fun i hi=>b i (hq i hi),fun y hy h0=>?_⟩
  rcases List.mem_cons.1 hy with rfl | hy
  ·exact b _ (by rw[ZD _ _ _ hlt,if_pos rfl];omega)
  exact c y hy h0
def okW (P:rufact->Prop):Prop:=∀ g,P g->okU1 g
theorem DW {P:rufact->Prop} (hP:okW P):∀ {body:List ruLit} {v w:List Int},InstP P body v w->V8 v->(∀ x,x∈body->arg7 x.qe.qa)->V8 w/\(∀ i,v.getD i 0≠0->w.getD i 0≠0)/\∀ x,x∈body->x.qr=false->bnd w x.qe.qa
 | [],v,w,h,hv,_=>by
  have h:w=v:=h;subst h;exact⟨hv,fun i hi=>hi,fun x hx=>by simp at hx⟩
 | x::body,v,w,h,hv,ha=>by
  have ha':∀ y,y∈body->arg7 y.qe.qa:=fun y hy=>ha y (A3 _ hy)
  rcases h with ⟨hn,h⟩ | ⟨hn,g,u,hg,h1,h2,h3,h4⟩
  ·obtain⟨a,b,c⟩:=DW hP h hv ha';refine⟨a,b,fun y hy h0=>?_⟩
   rcases List.mem_cons.1 hy with rfl | hy
   ·rw[hn]at h0;cases h0
   exact c y hy h0
  obtain⟨a1,b1,c1⟩:=Zt h3 hv (ha x (A2 ..)) (ZV (hP g hg));obtain⟨a,b,c⟩:=DW hP h4 a1 ha';refine⟨a,fun i hi=>b i (b1 i hi),fun y hy h0=>?_⟩
  rcases List.mem_cons.1 hy with rfl | hy
  ·exact fun z hz h0=>b _ (c1 z hz h0)
  exact c y hy h0
theorem Nu {P Q:rufact->Prop} (h:∀ g,P g->Q g):∀ {body:List ruLit} {v w:List Int},InstP P body v w->InstP Q body v w
 | [],v,w,hi=>hi
 | x::body,v,w,hi=>by
  rcases hi with ⟨hn,hi⟩ | ⟨hn,g,u,hg,h1,h2,h3,h4⟩
  ·exact .inl ⟨hn,Nu h hi⟩
  exact .inr ⟨hn,g,u,h g hg,h1,h2,h3,Nu h h4⟩
theorem qic (hw:V8 w) (ha:arg7 args) (hb:bnd w args):es16 (groundA w args):=by
 intro e he;unfold groundA at he;obtain⟨x,hx,rfl⟩:=List.mem_map.1 he;have:=ha x hx;split
 ·omega
 have h1:=hb x hx oM;have h2:=hw.2 x.toNat;omega
theorem qkR (hr:rel6 rel):∀ {g:List Int},(1<=g.length/\g.length<=2)->es16 g->okU1 (mkF rel g)/\argsF (mkF rel g)=g
 | [],h,_=>by simp at h
 | [a],_,h=>by
  have h1:=h a (by simp);exact⟨⟨hr.1,hr.2,h1.1,h1.2,(show (0:Int)<=0 by decide),(show (0:Int)<=6 by decide)⟩,rfl⟩
 | [a,b],_,h=>by
  have h1:=h a (by simp);have h2:=h b (by simp);refine⟨⟨hr.1,hr.2,h1.1,h1.2,(show 0<=b by omega),h2.2⟩,?_⟩;show (if b=0 then [a] else [a,b])=[a,b];rw[if_neg (by omega)]
 | a::b::c::r,h,_=>by simp at h
theorem jh (h:fitP rel args):arg7 args:=h.2.2
theorem Xe (h:fitP rel args):rel6 rel:=h.1
theorem Jr {a:qm} (hw:V8 w) (ha:fitP a.qb a.qa) (hb:bnd w a.qa):okU1 (groundF w a)/\argsF (groundF w a)=groundA w a.qa/\(groundF w a).qj=a.qb:=by
 have h:=qkR (Xe ha) (g:=groundA w a.qa) (by unfold groundA;rw[A5];exact ha.2.1) (qic hw (jh ha) hb);exact⟨h.1,h.2,rfl⟩
theorem qcK {w:List Int} (hw:V8 w) (K:List Int->Option Int):∀ (args:List Int) (k:Nat) (acc:List Int),arg7 args->acc.length+args.length<=1000->XN w K args k acc=K (acc++groundA w args)
 | [],k,acc,_,_=>by rw[XN];simp[groundA]
 | x::args,k,acc,ha,hl=>by
  have hx:=ha x (A2 ..)
  have ha':arg7 args:=fun y hy=>ha y (A3 _ hy)
  rw[A4]at hl;rw[XN];unfold Nc
  have e:acc++groundA w (x::args)=(acc++[if x<0 then 0 - x else w.getD x.toNat 0])++groundA w args:=by
   unfold groundA;simp
  by_cases hneg:x<0
  ·rw[dT hneg,cT,wrap64 (by omega) (by omega),Nv (JO (by omega) (by simp;omega)),qcK hw K args (k+1) _ ha' (by simp;omega),e,if_pos hneg]
  rw[dF hneg,cN,Nv (dec8 (by omega) hx.2),get8 hw.1 (by omega) hx.2];simp only[A0];rw[Nv (JO (by omega) (by simp;omega)),qcK hw K args (k+1) _ ha' (by simp;omega),e,if_neg hneg]
theorem Vw (hw:V8 w) (ha:fitP a.qb a.qa) (hb:bnd w a.qa):XO a w=some (codeF (groundF w (toA a)):Int):=by
 have hne:w≠[]:=by intro h;have:=hw.1;rw[h]at this;cases this
 obtain⟨h1,h2,h3⟩:=Jr (a:=toA a) hw ha hb;unfold XO;rw[Nv (by cases w <;> simp_all),Nv (qu (by have:=ha.2.1;omega)),qcK hw _ _ _ _ (jh ha) (by have:=ha.2.1;simp;omega)];unfold qaj;have:=qcZ h1;rw[h2,h3]at this;rw[D1];replace this:QK a.qb (groundA w a.qa)=_:=this;rw[this];rfl
def FreeP (N:rufact->Prop) (w:List Int) (body:List ruLit):Prop:=∀ x,x∈body->x.qr=true->¬ N (groundF w x.qe)
theorem qiV {w:List Int} (hw:V8 w) {S:List Bool} (hS:S.length=252) (K:Option Bool):∀ (body:List rf3Lit) (k:Nat),(∀ x,x∈body->x.qr=true->fitP x.qe.qb x.qe.qa/\bnd w x.qe.qa)->Yz w S K body k=if FreeP (setB S) w (body.map toL) then K else some false
 | [],k,_=>by rw[Yz,if_pos (show FreeP _ _ _ from fun x hx=>by simp at hx)]
 | x::body,k,h=>by
  have ih:=qiV hw hS K body (k+1) fun y hy=>h y (A3 _ hy)
  have hc:FreeP (setB S) w ((x::body).map toL)↔(x.qr=true->¬ setB S (groundF w (toA x.qe)))/\FreeP (setB S) w (body.map toL):=by
   unfold FreeP;simp only[A9,D7,forall_eq_or_imp];rfl
  rw[Yz];unfold Nd;rw[ih]
  cases hn:x.qr with
  | false =>
   rw[cN,cN];by_cases hq:FreeP (setB S) w (body.map toL)
   ·rw[if_pos hq,if_pos (hc.2 ⟨fun h=>(by rw[hn]at h;cases h),hq⟩)]
   rw[if_neg hq,if_neg (fun h=>hq (hc.1 h).2)]
  | true =>
   obtain⟨h1,h2⟩:=h x (A2 ..) hn;have hok:=(Jr (a:=toA x.qe) hw h1 h2).1;have hlt:=QD hok;rw[cT,Nv (dT hw.1),Vw hw h1 h2];simp only[A0];rw[Nv (dT ⟨by omega,by omega,by omega⟩),D6,D2,C0,C7 (by omega)];simp only[A0]
   have hg:S[codeF (groundF w (toA x.qe))]=S.getD (codeF (groundF w (toA x.qe))) false:=by
    rw[A8,C7 (by omega)];rfl
   rw[hg]
   cases hs:S.getD (codeF (groundF w (toA x.qe))) false with
   | true =>
    rw[cT,if_neg (fun q=>(hc.1 q).1 hn ⟨hok,hs⟩)]
   | false =>
    rw[cN];by_cases hq:FreeP (setB S) w (body.map toL)
    ·rw[if_pos hq,if_pos (hc.2 ⟨fun _ q=>(by have:=q.2;rw[hs]at this;cases this),hq⟩)]
    rw[if_neg hq,if_neg (fun h=>hq (hc.1 h).2)]
theorem qcO (hw:V8 w) (hS:S.length=252) {r:rf3Rule} (hl:r.qc.length<=3) (h:∀ x,x∈r.qc->x.qr=true->fitP x.qe.qb x.qe.qa/\bnd w x.qe.qa):NL r w S=some (decide (FreeP (setB S) w (toR r).qc)):=by
 unfold NL;rw[Nv (by have:=hw.1;cases w <;> simp_all),Nv (by cases S <;> simp_all),Nv (qu (by omega)),qiV hw hS _ _ _ h];unfold qbs;show _=some (decide (FreeP (setB S) w (r.qc.map toL)));by_cases hq:FreeP (setB S) w (r.qc.map toL)
 ·rw[if_pos hq,dT hq]
 rw[if_neg hq,dF hq]
theorem ND {i:Int} (h1 : -1000<=i) (h2:i<=1000):wfI .i64 i=true:=by
 unfold wfI Lit.wf;simp[IntKind.min,IntKind.max,IntKind.signed,IntKind.bits];omega
theorem Vv (hw:V8 w) {a:qm} (ha:fitP a.qb a.qa):wfF (groundF w a)=true:=by
 have hr:=Xe ha
 have hA:∀ e,e∈groundA w a.qa->0<=e/\e<=6:=fun e he=>by
  unfold groundA at he;obtain⟨x,hx,rfl⟩:=List.mem_map.1 he;have:=jh ha x hx;have:=hw.2 x.toNat;split <;> omega
 have hg:∀ i,0<=(groundA w a.qa).getD i 0/\(groundA w a.qa).getD i 0<=6:=fun i=>by
  rw[A8]
  cases hi:(groundA w a.qa)[i]? with
  | none=>exact⟨by decide,by decide⟩
  | some e=>exact hA e (List.mem_of_getElem? hi)
 have h0:=hg 0;have h1:=hg 1;have:=hr.1;have:=hr.2;unfold wfF
 have wf:∀ n:Int,0<=n->n<=6->wfI .i64 n=true:=fun n a b=>by
  exact ND oM oM
 show (wfI .i64 a.qb && wfI .i64 ((groundA w a.qa).getD 0 0) && wfI .i64 ((groundA w a.qa).getD 1 0))=true;rw[wf _ (by omega) (by omega),wf _ h0.1 h0.2,wf _ h1.1 h1.2];rfl
theorem qer {no:List (rufact×Bool)} (hno:NT no) {w:List Int} (hw:V8 w):∀ (body:List ruLit),(∀ x,x∈body->fitP x.qe.qb x.qe.qa)->freeP no w body=some (decide (FreeP (fun g=>g∈no.map A1) w body))
 | [],_=>by unfold freeP;rw[dT (show FreeP _ _ _ from fun x hx=>by simp at hx)]
 | x::body,h=>by
  have ih:=qer hno hw body fun y hy=>h y (A3 _ hy)
  have hx:=h x (A2 ..)
  have hc:FreeP (fun g=>g∈no.map A1) w (x::body)↔(x.qr=true->groundF w x.qe ∉ no.map A1)/\FreeP (fun g=>g∈no.map A1) w body:=by
   unfold FreeP;simp only[D7,forall_eq_or_imp]
  unfold freeP
  cases hn:x.qr with
  | false =>
   rw[cN,ih]
   congr 1
   refine decide_eq_decide.2 ?_;rw[hc];exact⟨fun q=>⟨fun h=>(by rw[hn]at h;cases h),q⟩,fun q=>q.2⟩
  | true =>
   rw[cT,YF hw.1 (jh hx) hx.2.1.2];simp only[A0];rw[Nv (Vv hw hx)];by_cases hm:groundF w x.qe∈no.map A1
   ·rw[(NT.mget hno.t _).2 hm,cT,dF (fun q=>(hc.1 q).1 hn hm)]
   rw[show mget qg false (groundF w x.qe) no=false by
    rw[<- Bool.not_eq_true];exact fun q=>hm ((NT.mget hno.t _).1 q),cN,ih]
   congr 1
   refine decide_eq_decide.2 ?_;rw[hc];exact⟨fun q=>⟨fun _=>hm,q⟩,fun q=>q.2⟩
theorem qih {xs:List Int}:∀ {es fs v:List Int},xs.length=es.length->fitA v xs (es++fs)=fitA v xs es:=by
 induction xs with
 | nil=>intro es fs v h;rw[fitA,fitA]
 | cons x xs ih =>
  intro es fs v h
  cases es with
  | nil=>cases h
  | cons e es =>
   rw[List.cons_append];unfold fitA
   have h:xs.length=es.length:=by simpa using h
   simp only[ih h]
theorem qlU (h:(argsF f).length=args.length):fitA v args [f.f_a,f.f_b]=fitA v args (argsF f):=by
 unfold argsF at h ⊢;split
 ·rename_i hb;rw[if_pos hb]at h;exact qih (es:=[f.f_a]) (fs:=[f.f_b]) (by simpa using h.symm)
 rfl
theorem qgQ {k:List Int->Option (List (List Int))} {a:qm} (ha:arg7 a.qa) (hl:a.qa.length<=2) {v:List Int} (hv:V8 v) {B:Nat} {Q:List Int->List Int->Prop} (hk:∀ u,V8 u->∃ d,k u=some d/\d.length<=B/\∀ w,w∈d↔Q u w):∀ (gs:List rufact),(∀ g,g∈gs->okU1 g/\g.qj=a.qb/\(argsF g).length=a.qa.length) ->
  ∃ o,fitL k a v gs=some o/\o.length<=gs.length * B/\∀ w,w∈o↔∃ g u,g∈gs/\fitA v a.qa (argsF g)=some u/\Q u w
 | [],_=>⟨[],rfl,by simp,fun w=>by simp⟩
 | g::gs,h=>by
  obtain⟨o,h1,h2,h3⟩:=qgQ ha hl hv hk gs fun q hq=>h q (A3 _ hq)
  obtain⟨g1,g2,g3⟩:=h g (A2 ..);obtain⟨p,p1,p2,p3⟩:=qjT (f:=g) (a:=a) g2.symm hv.1 ha hl;rw[qlU g3]at p2 p3;unfold fitL;rw[p1];simp only[A0]
  cases hf:fitA v a.qa (argsF g) with
  | none =>
   have:p.2=false:=by rw[<- Bool.not_eq_true,p2,hf];simp
   rw[this,cN];simp only[A0];rw[h1];simp only[A0];refine⟨_,rfl,by simp only[D1,A4,D9];omega,fun w=>?_⟩;rw[D1,h3];constructor
   ·rintro⟨q,u,hq,r⟩;exact⟨q,u,A3 _ hq,r⟩
   rintro⟨q,u,hq,r1,r2⟩
   rcases List.mem_cons.1 hq with rfl | hq
   ·rw[hf]at r1;cases r1
   exact⟨q,u,hq,r1,r2⟩
  | some u =>
   have:p.2=true:=by rw[p2,hf];rfl
   rw[this,cT,p3 u hf];obtain⟨hu,_,_⟩:=Zt hf hv ha (ZV g1);obtain⟨d,d1,d2,d3⟩:=hk u hu;rw[d1];simp only[A0];rw[h1];simp only[A0];refine⟨_,rfl,by rw[D4,A4,D9];omega,fun w=>?_⟩;rw[List.mem_append,d3,h3];constructor
   ·rintro (q | ⟨q,u',hq,r⟩)
    ·exact⟨g,u,A2 ..,hf,q⟩
    exact⟨q,u',A3 _ hq,r⟩
   rintro⟨q,u',hq,r1,r2⟩
   rcases List.mem_cons.1 hq with rfl | hq
   ·rw[hf]at r1;cases r1;exact .inl r2
   exact .inr ⟨q,u',hq,r1,r2⟩
def arW (ar:Int->Nat) (P:rufact->Prop):Prop:=∀ g,P g->okU1 g/\(argsF g).length=ar g.qj
theorem qca {ar:Int->Nat} {no:List (rufact×Bool)} (hno:NT no) {bl:List (Int×List rufact)} {fs:List rufact} (hfs:fs.length<=252) (har:arW ar fun g=>g∈fs) (hbl:∀ rel,mget keq1 [] rel bl=fs.filter fun f=>f.qj == rel) {all:List ruLit} (hall:∀ x,x∈all->fitP x.qe.qb x.qe.qa):∀ (body:List ruLit) (v:List Int),(∀ x,x∈body->fitP x.qe.qb x.qe.qa/\x.qe.qa.length=ar x.qe.qb)->V8 v ->
  ∃ d,tryP all no bl body v=some d/\d.length<=252 ^ body.length/\∀ w,w∈d↔InstP (fun g=>g∈fs) body v w/\FreeP (fun g=>g∈no.map A1) w all
 | [],v,_,hv=>by
  unfold tryP;rw[qer hno hv all hall];simp only[A0];refine⟨_,rfl,?_,fun w=>?_⟩
  ·by_cases hq:FreeP (fun g=>g∈no.map A1) v all
   ·rw[dT hq];simp
   rw[dF hq];simp
  show _↔w=v/\_;by_cases hq:FreeP (fun g=>g∈no.map A1) v all
  ·rw[dT hq,cT,List.mem_singleton];exact⟨fun h=>⟨h,by rw[h];exact hq⟩,fun h=>h.1⟩
  rw[dF hq,cN];exact⟨fun h=>by simp at h,fun h=>absurd (h.1 ▸ h.2) hq⟩
 | x::body,v,h,hv=>by
  have hx:=h x (A2 ..)
  have ih:=fun u hu=>qca hno hfs har hbl hall body u (fun y hy=>h y (A3 _ hy)) hu
  unfold tryP
  cases hn:x.qr with
  | true =>
   rw[cT];obtain⟨d,d1,d2,d3⟩:=ih v hv;refine⟨d,d1,by rw[A4,E0];omega,fun w=>?_⟩;rw[d3,InstP.eq_2];simp only[hn,true_and,Bool.true_eq_false,false_and,or_false]
  | false =>
   have hr:=Xe hx.1;rw[cN,Nv (ND (by have:=hr.1;omega) (by have:=hr.2;omega)),hbl]
   obtain⟨o,o1,o2,o3⟩:=qgQ (k:=tryP all no bl body) (jh hx.1) hx.1.2.1.2 hv (B:=252 ^ body.length) (Q:=fun u w=>InstP (fun g=>g∈fs) body u w/\FreeP (fun g=>g∈no.map A1) w all) ih (fs.filter fun f=>f.qj == x.qe.qb) (fun g hg=>by
    obtain⟨g1,g2⟩:=List.mem_filter.1 hg
    have g2:g.qj=x.qe.qb:=by simpa using g2
    obtain⟨g3,g4⟩:=har g g1
    exact⟨g3,g2,by rw[g4,g2,hx.2]⟩)
   refine⟨o,o1,?_,fun w=>?_⟩
   ·rw[A4,E0,Nat.mul_comm];have:(fs.filter fun f=>f.qj == x.qe.qb).length<=252:=E7 (E9 ..) hfs;exact E7 o2 (Nat.mul_le_mul_right _ this)
   rw[o3]
   have ei:InstP (fun g=>g∈fs) (x::body) v w↔∃ g u,g∈fs/\g.qj=x.qe.qb/\(argsF g).length=x.qe.qa.length/\fitA v x.qe.qa (argsF g)=some u/\InstP (fun g=>g∈fs) body u w:=by
    rw[InstP.eq_2];simp[hn]
   rw[ei];constructor
   ·rintro⟨g,u,hg,h1,h2,h3⟩
    obtain⟨g1,g2⟩:=List.mem_filter.1 hg
    have g2:g.qj=x.qe.qb:=by simpa using g2
    exact⟨⟨g,u,g1,g2,by rw[(har g g1).2,g2,hx.2],h1,h2⟩,h3⟩
   rintro⟨⟨g,u,g1,g2,g3,h1,h2⟩,h3⟩
   exact⟨g,u,List.mem_filter.2 ⟨g1,by simp[g2]⟩,h1,h2,h3⟩
abbrev v0:List Int:=B1 8 0
theorem V8_0:V8 v0:=⟨by simp,fun i=>by
 rw[A8,G0]
 split <;> simp⟩
def ClosedR (L:List ruRule) (N X:rufact->Prop):Prop:=∀ r,r∈L->∀ w,InstP X r.qc v0 w->FreeP N w r.qc->X (groundF w r.qf)
structure LeastR (L:List ruRule) (N G X:rufact->Prop):Prop where
 sub:∀ g,G g->X g
 closed:ClosedR L N X
 least:∀ Q:rufact->Prop,(∀ g,G g->Q g)->ClosedR L N Q->∀ g,X g->Q g
theorem LeastR.same {N N' G G' X X':rufact->Prop} (h:LeastR L N G X) (h':LeastR L N' G' X') (hN:∀ g,N g↔N' g) (hG:∀ g,G g↔G' g):∀ g,X g↔X' g:=by
 obtain rfl:N=N':=funext fun g=>propext (hN g)
 obtain rfl:G=G':=funext fun g=>propext (hG g)
 exact fun g=>⟨h.least X' h'.sub h'.closed g,h'.least X h.sub h.closed g⟩
def okL (ar:Int->Nat) (r:ruRule):Prop:=okU r/\∀ a,a∈atomsU r->a.qa.length=ar a.qb
theorem okL.body {r:ruRule} (h:okL ar r):∀ x,x∈r.qc->fitP x.qe.qb x.qe.qa/\x.qe.qa.length=ar x.qe.qb:=fun x hx =>
 have hm:x.qe∈atomsU r:=A3 _ (List.mem_map.2 ⟨x,hx,rfl⟩)
 ⟨h.1.2.2 _ hm,h.2 _ hm⟩
theorem okL.head {r:ruRule} (h:okL ar r):fitP r.qf.qb r.qf.qa/\r.qf.qa.length=ar r.qf.qb :=
 ⟨h.1.2.2 _ (A2 ..),h.2 _ (A2 ..)⟩
theorem okL.inst {r:ruRule} (h:okL ar r) (hP:okW P) (hi:InstP P r.qc v0 w):V8 w/\∀ a,a∈atomsU r->bnd w a.qa:=by
 obtain⟨a,b,c⟩:=DW hP hi V8_0 fun x hx=>jh (h.body x hx).1
 refine⟨a,fun t ht x hx h0=>?_⟩;obtain⟨y,y1,y2,y3⟩:=h.1.2.1 t ht x hx h0;exact c y y1 y2 x y3 h0
theorem okL.ground {r:ruRule} (h:okL ar r) (hP:okW P) (hi:InstP P r.qc v0 w):okU1 (groundF w r.qf)/\(argsF (groundF w r.qf)).length=ar (groundF w r.qf).qj:=by
 obtain⟨a,b⟩:=h.inst hP hi;obtain⟨c,d,e⟩:=Jr a h.head.1 (b _ (A2 ..));refine⟨c,?_⟩;rw[d,e];unfold groundA;rw[A5,h.head.2]
theorem arW.ok (h:arW ar P):okW P:=fun g hg=>(h g hg).1
theorem YI {fs:List rufact} (hn:fs.Nodup) (ho:∀ g,g∈fs->okU1 g):fs.length<=252:=by
 have:=pig 252 (fs.map codeF) (by
  rw[List.nodup_iff_pairwise_ne,List.pairwise_map];refine List.Pairwise.imp_of_mem ?_ hn;intro a b ha hb hne h
  exact hne (UP (ho a ha) (ho b hb) h)) (fun x hx=>by
   obtain⟨g,hg,rfl⟩:=List.mem_map.1 hx
   exact QD (ho g hg))
 simpa using this
theorem qcM {ar:Int->Nat} {no out:List (rufact×Bool)} (hno:NT no) (hout:NT out) (har:arW ar fun g=>g∈out.map A1):∀ (L:List ruRule) (acc:List rufact),(∀ r,r∈L->okL ar r)->acc.length+16003008 * L.length<=900000000 ->
  ∃ fr,freshL no out L acc=some fr/\∀ f,f∈fr↔f∈acc\/(f ∉ out.map A1/\∃ r,r∈L/\∃ w,InstP (fun g=>g∈out.map A1) r.qc v0 w/\FreeP (fun g=>g∈no.map A1) w r.qc/\f=groundF w r.qf)
 | [],acc,_,_=>⟨acc,rfl,fun f=>by simp⟩
 | r::L,acc,hr,hb=>by
  have h1:=hr r (A2 ..);rw[A4]at hb
  have hfs:=YI hout.n fun g hg=>(har g hg).1
  obtain⟨d,d1,d2,d3⟩:=qca (bl:=byRelL out) hno (by simpa using hfs) har (fun rel=>ZB rel out) (all:=r.qc) (fun x hx=>(h1.body x hx).1) r.qc v0 h1.body V8_0
  have hd:d.length<=16003008:=by
   have:252 ^ r.qc.length<=252 ^ 3:=E8 oM h1.1.1
   have e:252 ^ 3=16003008:=by decide
   omega
  have hg:∀ w,w∈d->qx w r.qf=some (groundF w r.qf)/\wfF (groundF w r.qf)=true:=fun w hw=>by
   obtain⟨a,_⟩:=h1.inst har.ok ((d3 w).1 hw).1;exact⟨YF a.1 (jh h1.head.1) h1.head.1.2.1.2,Vv a h1.head.1⟩
  have hh:headOk r.qf d=true:=by
   unfold headOk;rw[List.all_eq_true];intro w hw;obtain⟨a,b⟩:=hg w hw;rw[a];exact b
  have hlen:=DM out r.qf d;obtain⟨fr,f1,f2⟩:=qcM hno hout har L (acc++headsP out r.qf d) (fun q hq=>hr q (A3 _ hq)) (by rw[D4];omega);refine⟨fr,?_,fun f=>?_⟩
  ·unfold freshL;rw[Nv (dT (by have:=h1.1.1;omega)),d1];simp only[A0];rw[Nv (by rw[hh,dT (by omega)];rfl)];exact f1
  rw[f2,List.mem_append]
  have hm:f∈headsP out r.qf d↔f ∉ out.map A1/\∃ w,InstP (fun g=>g∈out.map A1) r.qc v0 w/\FreeP (fun g=>g∈no.map A1) w r.qc/\f=groundF w r.qf:=by
   unfold headsP;rw[List.mem_filterMap];constructor
   ·rintro⟨w,hw,he⟩
    rw[(hg w hw).1]at he;simp only[A0]at he;split at he
    ·cases he
    rename_i hq;cases he;exact⟨fun hm=>hq ((NT.mget hout.t _).2 hm),w,((d3 w).1 hw).1,((d3 w).1 hw).2,rfl⟩
   rintro⟨hn,w,h2,h3,rfl⟩
   have hw:=(d3 w).2 ⟨h2,h3⟩;refine⟨w,hw,?_⟩;rw[(hg w hw).1];simp only[A0];rw[if_neg (fun q=>hn ((NT.mget hout.t _).1 q))]
  rw[hm];constructor
  ·rintro ((h | ⟨hn,w,hw⟩) | ⟨hn,q,hq,hw⟩)
   ·exact .inl h
   ·exact .inr ⟨hn,r,A2 ..,w,hw⟩
   exact .inr ⟨hn,q,A3 _ hq,hw⟩
  rintro (h | ⟨hn,q,hq,w,hw⟩)
  ·exact .inl (.inl h)
  rcases List.mem_cons.1 hq with rfl | hq
  ·exact .inl (.inr ⟨hn,w,hw⟩)
  exact .inr ⟨hn,q,hq,w,hw⟩
theorem qeE {ar:Int->Nat} {L:List ruRule} (hL:∀ r,r∈L->okL ar r) (hl:L.length<=12) {no:List (rufact×Bool)} (hno:NT no) {G:rufact->Prop}:∀ (n fuel:Nat) (out:List (rufact×Bool)),NT out->arW ar (fun g=>g∈out.map A1)->253<=out.length+n->n<=fuel->(∀ g,G g->g∈out.map A1)->(∀ Q:rufact->Prop,(∀ g,G g->Q g)->ClosedR L (fun g=>g∈no.map A1) Q->∀ g,g∈out.map A1->Q g) ->
  ∃ res,consR L no fuel out=some res/\NT res/\arW ar (fun g=>g∈res.map A1)/\LeastR L (fun g=>g∈no.map A1) G (fun g=>g∈res.map A1)
 | 0,fuel,out,hout,har,hn,hf,hG,hQ=>by
  have:=YI hout.n fun g hg=>(har g hg).1
  rw[A5]at this;omega
 | n+1,0,out,hout,har,hn,hf,hG,hQ=>by omega
 | n+1,fuel+1,out,hout,har,hn,hf,hG,hQ=>by
  have hsm:=YI hout.n fun g hg=>(har g hg).1
  rw[A5]at hsm;obtain⟨fr,f1,f2⟩:=qcM hno hout har L [] hL (by simp;omega);unfold consR;rw[Nv (dT (by omega)),f1];simp only[A0]
  cases fr with
  | nil =>
   refine⟨out,rfl,hout,har,hG,fun r hr w h1 h2=>?_,hQ⟩
   refine Classical.byContradiction fun hq=>?_
   have:=(f2 (groundF w r.qf)).2 (.inr ⟨hq,r,hr,w,h1,h2,rfl⟩);simp at this
  | cons f fr =>
   obtain⟨a1,a2,a3,a4⟩:=hout.add (fr:=f::fr)
   have hmem:∀ g,g∈f::fr->g ∉ out.map A1/\∃ r,r∈L/\∃ w,InstP (fun g=>g∈out.map A1) r.qc v0 w/\FreeP (fun g=>g∈no.map A1) w r.qc/\g=groundF w r.qf:=fun g hg=>by
    rcases (f2 g).1 hg with h | h
    ·simp at h
    exact h
   have hgrow:=a4 f (A2 ..) (hmem f (A2 ..)).1
   exact qeE hL hl hno n fuel (addF out (f::fr)) a1 (fun g hg=>by
    rcases (a2 g).1 hg with h | h
    ·obtain⟨_,r,hr,w,h1,h2,rfl⟩:=hmem g h;exact (hL r hr).ground har.ok h1
    ·exact har g h) oM oM (fun g hg=>(a2 g).2 (.inr (hG g hg))) (fun Q h1 h2 g hg=>by
    rcases (a2 g).1 hg with h | h
    ·obtain⟨_,r,hr,w,q1,q2,rfl⟩:=hmem g h;exact h2 r hr w (Nu (hQ Q h1 h2) q1) q2
    exact hQ Q h1 h2 g h)
theorem okU1.wf (h:okU1 f):wfF f=true:=by
 have:=h.r0;have:=h.r5;have:=h.a1;have:=h.a6;have:=h.b0;have:=h.b6;unfold wfF;rw[ND (by omega) (by omega),ND (by omega) (by omega),ND (by omega) (by omega)];rfl
theorem qeF (hL:∀ r,r∈L->okL ar r) (hl:L.length<=12) {gv no:List (rufact×Bool)} (hgv:NT gv) (hno:NT no) (har:arW ar (fun g=>g∈gv.map A1)) {fuel:Nat} (hf:253<=fuel) :
  ∃ res,consP fuel L gv no=some res/\NT res/\arW ar (fun g=>g∈res.map A1)/\LeastR L (fun g=>g∈no.map A1) (fun g=>g∈gv.map A1) (fun g=>g∈res.map A1):=by
 have hsm:=YI hgv.n fun g hg=>(har g hg).1
 rw[A5]at hsm;obtain⟨a1,a2,a3,a4⟩:=NT.empty.add (fr:=gv.map A1)
 have hm:∀ g,g∈(addF [] (gv.map A1)).map A1↔g∈gv.map A1:=fun g=>by rw[a2];simp
 unfold consP
 rw[Nv (by
  rw[Bool.and_eq_true,List.all_eq_true,decide_eq_true_eq]
  exact⟨fun p hp=>(har p.1 (List.mem_map.2 ⟨p,hp,rfl⟩)).1.wf,by omega,by omega⟩)]
 exact qeE hL hl hno 253 fuel _ a1 (fun g hg=>har g ((hm g).1 hg)) oM hf (fun g hg=>(hm g).2 hg) (fun Q h1 h2 g hg=>h1 g ((hm g).1 hg))
def cntB:List Bool->Nat
 | []=>0
 | b::S=>(if b=true then 1 else 0)+cntB S
theorem qja:∀ (S:List Bool),cntB S<=S.length
 | []=>by simp[cntB]
 | b::S=>by
  have:=qja S;unfold cntB;rw[A4];split <;> omega
theorem qgX:∀ {S:List Bool} {n:Nat},n<S.length->S.getD n false=false->cntB (S.set n true)=cntB S+1
 | [],n,h,_=>by simp at h
 | b::S,0,h,hb=>by
  have hb:b=false:=hb;subst hb;show cntB (true::S)=cntB (false::S)+1;simp[cntB];omega
 | b::S,n+1,h,hb=>by
  have:=qgX (S:=S) (n:=n) (by simpa using h) (by simpa using hb);show cntB (b::S.set n true)=cntB (b::S)+1;unfold cntB;omega
theorem qld {n:Nat} (hn:n<S.length) (m:Nat):(S.set n true).getD m false=if m=n then true else S.getD m false:=by
 simp only[A8];by_cases h:m=n
 ·subst h;rw[F8 hn,if_pos rfl];rfl
 rw[F9 (fun q=>h q.symm),if_neg h]
theorem qcj (hS:S.length=252) {g:rufact} (hg:okU1 g) (h:rufact):setB (S.set (codeF g) true) h↔setB S h\/h=g:=by
 have hlt:=QD hg;unfold setB;rw[qld (by omega)];constructor
 ·rintro⟨h1,h2⟩
  split at h2
  ·rename_i he;exact .inr (UP h1 hg he)
  exact .inl ⟨h1,h2⟩
 rintro (⟨h1,h2⟩ | rfl)
 ·refine⟨h1,?_⟩;split
  ·rfl
  exact h2
 exact⟨hg,by rw[if_pos rfl]⟩
theorem qbU {ar:Int->Nat} {r:rf3Rule} (hr:okL ar (toR r)) {N:List Bool} (hN:N.length=252) (K:List Bool->Bool->Option (List Bool)):∀ (ws:List (List Int)) (k:Nat) (S:List Bool) (ch:Bool),S.length=252->(∀ w,w∈ws->V8 w/\∀ a,a∈atomsU (toR r)->bnd w a.qa) ->
  ∃ S' ch',Jv r N K ws k S ch=K S' ch'/\S'.length=252/\(∀ g,setB S' g↔setB S g\/∃ w,w∈ws/\FreeP (setB N) w (toR r).qc/\g=groundF w (toR r).qf)/\cntB S<=cntB S'/\(ch'=true->ch=true\/cntB S<cntB S')/\(ch'=false->ch=false/\S'=S)
 | [],k,S,ch,hS,_=>⟨S,ch,by rw[Jv],hS,fun g=>by simp,Nat.le_refl _,.inl,fun h=>⟨h,rfl⟩⟩
 | w::ws,k,S,ch,hS,hw=>by
  obtain⟨w1,w2⟩:=hw w (A2 ..)
  have hw':∀ u,u∈ws->V8 u/\∀ a,a∈atomsU (toR r)->bnd u a.qa:=fun u hu=>hw u (A3 _ hu)
  have hh:=hr.head;have hgo:=(Jr w1 hh.1 (w2 _ (A2 ..))).1;have hlt:=QD hgo
  have hbl:r.qc.length<=3:=by have:=hr.1.1;simpa[toR] using this
  have hgv:XO r.qf w=some (codeF (groundF w (toR r).qf):Int):=Vw w1 hh.1 (w2 _ (A2 ..))
  have hfr:=qcO w1 hN hbl fun x hx hn=>⟨(hr.body (toL x) (List.mem_map.2 ⟨x,hx,rfl⟩)).1,w2 (toL x).qe (A3 _ (List.mem_map.2 ⟨toL x,List.mem_map.2 ⟨x,hx,rfl⟩,rfl⟩))⟩
  have hgd:S[0+A7 (codeF (groundF w (toR r).qf):Int) * 1]? = some (S.getD (codeF (groundF w (toR r).qf)) false):=by
   rw[D6,D2,C0,A8,C7 (by omega)];rfl
  have hck:decide ((0:Int)<=(codeF (groundF w (toR r).qf):Int)/\(codeF (groundF w (toR r).qf):Int)<((252:Nat):Int)/\0<1)=true:=dT ⟨by omega,by omega,by omega⟩;rw[Jv,Nv (dT w1.1),Nv (dT ⟨w1.1,by simp⟩),Nv (dT w1.1),hgv];simp only[A0];rw[Nv (dT w1.1),Nv (dT hN),hfr];simp only[A0];unfold Xw Xx;by_cases hq:FreeP (setB N) w (toR r).qc
  ·rw[dT hq,cT,Nv hck,hgd];simp only[A0]
   cases hs:S.getD (codeF (groundF w (toR r).qf)) false with
   | true =>
    rw[D0,cN];obtain⟨S',ch',e1,e2,e3,e4,e5,e6⟩:=qbU hr hN K ws (k+1) S ch hS hw';refine⟨S',ch',e1,e2,fun g=>?_,e4,e5,e6⟩;rw[e3];constructor
    ·rintro (h | ⟨u,hu,h⟩)
     ·exact .inl h
     exact .inr ⟨u,A3 _ hu,h⟩
    rintro (h | ⟨u,hu,h,h2⟩)
    ·exact .inl h
    rcases List.mem_cons.1 hu with rfl | hu
    ·exact .inl ⟨by rw[h2];exact hgo,by rw[h2];exact hs⟩
    exact .inr ⟨u,hu,h,h2⟩
   | false =>
    rw[Bool.not_false,cT,Nv hck,Nv (dT (by omega)),D6,D2,C0];have hc:=qgX (S:=S) oM hs;obtain⟨S',ch',e1,e2,e3,e4,e5,e6⟩:=qbU hr hN K ws (k+1) (S.set (codeF (groundF w (toR r).qf)) true) true (by rw[D5,hS]) hw';refine⟨S',ch',e1,e2,fun g=>?_,by omega,fun _=>.inr oM,fun h=>absurd (e6 h).1 (by simp)⟩;rw[e3,qcj hS hgo];constructor
    ·rintro ((h | h) | ⟨u,hu,h⟩)
     ·exact .inl h
     ·exact .inr ⟨w,A2 ..,hq,h⟩
     exact .inr ⟨u,A3 _ hu,h⟩
    rintro (h | ⟨u,hu,h,h2⟩)
    ·exact .inl (.inl h)
    rcases List.mem_cons.1 hu with rfl | hu
    ·exact .inl (.inr h2)
    exact .inr ⟨u,hu,h,h2⟩
  rw[dF hq,cN,cN];obtain⟨S',ch',e1,e2,e3,e4,e5,e6⟩:=qbU hr hN K ws (k+1) S ch hS hw';refine⟨S',ch',e1,e2,fun g=>?_,e4,e5,e6⟩;rw[e3];constructor
  ·rintro (h | ⟨u,hu,h⟩)
   ·exact .inl h
   exact .inr ⟨u,A3 _ hu,h⟩
  rintro (h | ⟨u,hu,h,h2⟩)
  ·exact .inl h
  rcases List.mem_cons.1 hu with rfl | hu
  ·exact absurd h hq
  exact .inr ⟨u,hu,h,h2⟩
theorem Ht (S:List Bool):okW (setB S):=fun g h=>h.1
theorem qiY {ar:Int->Nat} {fuel:Nat} (hf:5<=fuel) {N:List Bool} (hN:N.length=252) (N1:List Bool->Bool->Option (List Bool)):∀ (L:List rf3Rule) (k:Nat) (S:List Bool) (ch:Bool),(∀ r,r∈L->okL ar (toR r))->S.length=252->arW ar (setB S) ->
  ∃ S' ch',Jw fuel N N1 L k S ch=N1 S' ch'/\S'.length=252/\arW ar (setB S')/\(∀ g,setB S g->setB S' g)/\cntB S<=cntB S'/\(ch'=true->ch=true\/cntB S<cntB S')/\(ch'=false->ch=false/\S'=S/\ClosedR (L.map toR) (setB N) (setB S))/\(∀ Q:rufact->Prop,(∀ g,setB S g->Q g)->ClosedR (L.map toR) (setB N) Q->∀ g,setB S' g->Q g)
 | [],k,S,ch,_,hS,har=>⟨S,ch,by rw[Jw],hS,har,fun g h=>h,Nat.le_refl _,.inl,fun h=>⟨h,rfl,fun r hr=>by simp at hr⟩,fun Q h _=>h⟩
 | r::L,k,S,ch,hL,hS,har=>by
  have hr:=hL r (A2 ..)
  have hbl:r.qc.length<=3:=by have:=hr.1.1;simpa[toR] using this
  have hiv:=Yi (r:=r) hbl (fun x hx=>by
   have:=(hr.body (toL x) (List.mem_map.2 ⟨x,hx,rfl⟩)).1
   exact⟨jh this,this.2.1.2⟩) hS r.qc.length fuel 0 v0 oM oM (by simp)
  rw[List.drop_zero]at hiv;replace hiv:jU fuel r S 0 (B1 8 0)=some (instR S (r.qc.map toL) v0):=hiv
  have hmem:∀ w,w∈instR S (r.qc.map toL) v0↔InstP (setB S) (toR r).qc v0 w:=fun w=>Vt _ _ _
  have hlen:(instR S (r.qc.map toL) v0).length<=16003008:=by
   have h1:=Vu S (r.qc.map toL) v0;rw[A5]at h1;have h2:252 ^ r.qc.length<=252 ^ 3:=E8 oM hbl
   have:252 ^ 3=16003008:=by decide
   omega
  rw[Jw,Nv (dT hS),hiv];simp only[A0];rw[Nv (qu (by omega))]
  obtain⟨S1,c1,e1,e2,e3,e4,e5,e6⟩:=qbU hr hN (Xy (Jw fuel N N1 L (k+1))) (instR S (r.qc.map toL) v0) 0 S ch hS fun w hw=>hr.inst (Ht S) ((hmem w).1 hw)
  rw[e1];unfold Xy
  have har1:arW ar (setB S1):=fun g hg=>by
   rcases (e3 g).1 hg with h | ⟨w,hw,_,rfl⟩
   ·exact har g h
   exact hr.ground (Ht S) ((hmem w).1 hw)
  obtain⟨S2,c2,g1,g2,g3,g4,g5,g6,g7,g8⟩:=qiY hf hN N1 L (k+1) S1 c1 (fun q hq=>hL q (A3 _ hq)) e2 har1;refine⟨S2,c2,g1,g2,g3,fun g h=>g4 g ((e3 g).2 (.inl h)),by omega,fun h=>?_,fun h=>?_,fun Q h1 h2=>?_⟩
  ·rcases g6 h with h | h
   ·rcases e5 h with h | h
    ·exact .inl h
    exact .inr oM
   exact .inr oM
  ·obtain⟨a1,a2,a3⟩:=g7 h;obtain⟨b1,b2⟩:=e6 a1;subst b2;refine⟨b1,a2,fun q hq w hw hfr=>?_⟩;rw[A9]at hq
   rcases List.mem_cons.1 hq with rfl | hq
   ·exact (e3 _).2 (.inr ⟨w,(hmem w).2 hw,hfr,rfl⟩)
   exact a3 q hq w hw hfr
  refine g8 Q (fun g hg=>?_) (fun q hq=>h2 q (by rw[A9];exact A3 _ hq))
  rcases (e3 g).1 hg with h | ⟨w,hw,hfr,rfl⟩
  ·exact h1 g h
  exact h2 (toR r) (by rw[A9];exact A2 ..) w (Nu h1 ((hmem w).1 hw)) hfr
theorem qiZ {ar:Int->Nat} {fuel:Nat} (hf:5<=fuel) {L:List rf3Rule} (hl:L.length<=12) (hL:∀ r,r∈L->okL ar (toR r)) {N:List Bool} (hN:N.length=252) {G:rufact->Prop} (K:List Bool->Option (List Bool)):∀ (n m:Nat) (S:List Bool),S.length=252->arW ar (setB S)->253<=cntB S+n->n+1<=m->(∀ g,G g->setB S g)->(∀ Q:rufact->Prop,(∀ g,G g->Q g)->ClosedR (L.map toR) (setB N) Q->∀ g,setB S g->Q g) ->
  ∃ S',Jx fuel L N K m S true=K S'/\S'.length=252/\arW ar (setB S')/\LeastR (L.map toR) (setB N) G (setB S')
 | 0,m,S,hS,har,hn,hm,hG,hQ=>by have:=qja S;omega
 | n+1,0,S,hS,har,hn,hm,hG,hQ=>by omega
 | n+1,m+1,S,hS,har,hn,hm,hG,hQ=>by
  obtain⟨S2,c2,g1,g2,g3,g4,g5,g6,g7,g8⟩:=qiY hf hN (Jx fuel L N K m) L 0 S false hL hS har;rw[Jx,cT,Nv (qu (by omega)),g1]
  cases c2 with
  | true =>
   rcases g6 rfl with h | h
   ·cases h
   exact qiZ hf hl hL hN K n m S2 g2 g3 oM oM (fun g hg=>g4 g (hG g hg)) (fun Q h1 h2=>g8 Q (hQ Q h1 h2) h2)
  | false =>
   obtain⟨_,rfl,h3⟩:=g7 rfl
   match m,hm with
   | m+1,_ =>
    rw[Jx,cN];exact⟨S2,rfl,g2,g3,hG,h3,hQ⟩
theorem qdU {fuel:Nat} (hf:300<=fuel) {L:List rf3Rule} (hl:L.length<=12) (hL:∀ r,r∈L->okL ar (toR r)) {N:List Bool} (hS:S.length=252) (hN:N.length=252) (har:arW ar (setB S)) :
  ∃ S',QL fuel L S N=some S'/\S'.length=252/\arW ar (setB S')/\LeastR (L.map toR) (setB N) (setB S) (setB S'):=by
 obtain⟨S',e1,e2,e3,e4⟩:=qiZ (by omega:5<=fuel) hl hL hN (G:=setB S) XX 253 fuel S hS har oM oM (fun g h=>h) (fun Q h _=>h);refine⟨S',?_,e2,e3,e4⟩;unfold QL;rw[Nv (by cases S <;> simp_all),Nv (by cases N <;> simp_all),e1];unfold XX;rw[Nv (dT e2),Nv (dT ⟨e2,by simp⟩),Nv (dT e2)]
structure StR (ar:Int->Nat) (out:List (rufact×Bool)) (S:List Bool):Prop where
 nt:NT out
 ar:arW ar (fun g=>g∈out.map A1)
 len:S.length=252
 same:∀ g,g∈out.map A1↔setB S g
theorem StR.arB (h:StR ar out S):arW ar (setB S):=fun g hg=>h.ar g ((h.same g).2 hg)
theorem qjh {fuel:Nat} (hf:300<=fuel) {L:List rf3Rule} (hl:L.length<=12) (hL:∀ r,r∈L->okL ar (toR r)) (h:StR ar out S) :
  ∃ out' S',consP fuel (L.map toR) out out=some out'/\QL fuel L S S=some S'/\StR ar out' S':=by
 obtain⟨out',a1,a2,a3,a4⟩:=qeF (L:=L.map toR) (fun r hr=>by
  obtain⟨q,hq,rfl⟩:=List.mem_map.1 hr
  exact hL q hq) (by rw[A5];exact hl) h.nt h.nt h.ar (by omega:253<=fuel)
 obtain⟨S',b1,b2,b3,b4⟩:=qdU hf hl hL h.len h.len h.arB;exact⟨out',S',a1,b1,a2,a3,b2,a4.same b4 h.same h.same⟩
theorem qjA {fuel:Nat} (hf:300<=fuel) (h:StR ar out S):∃ S',QL fuel [] S S=some S'/\StR ar out S':=by
 obtain⟨S',b1,b2,b3,b4⟩:=qdU (L:=[]) hf (by simp) (fun r hr=>by simp at hr) h.len h.len h.arB;refine⟨S',b1,h.nt,h.ar,b2,fun g=>?_⟩;rw[h.same];exact⟨b4.sub g,b4.least (setB S) (fun g h=>h) (fun r hr=>by simp at hr) g⟩
def inS (v:List Int) (k:Nat) (r:rf3Rule):Bool:=v.getD r.qf.qb.toNat 0 == (k:Int)
def partS (v:List Int) (k:Nat) (l:List rf3Rule):List rf3Rule:=l.filter (inS v k)
theorem idx6 (hv:v.length=6) {n:Int} (h:rel6 n):idx v n=some (v.getD n.toNat 0):=by
 have:=h.1;have:=h.2;unfold idx;rw[if_pos h.1,A8,C7 (by omega)];rfl
theorem Hv {v:List Int} (hv:v.length=6) {b:Bool} (k1:Nat) (K:List ruRule->Option (List (rufact×Bool)×Bool)):∀ (l:List rf3Rule) (k:Nat) (acc:List ruRule),(∀ r,r∈l->rel6 r.qf.qb)->acc.length+l.length<=1000->Qd k1 (v,b) K (l.map toR) k acc=K (acc++(partS v k1 l).map toR)
 | [],k,acc,_,_=>by rw[List.map_nil,Qd];simp[partS]
 | r::l,k,acc,h,hl=>by
  have hr:=h r (A2 ..)
  have h':∀ q,q∈l->rel6 q.qf.qb:=fun q hq=>h q (A3 _ hq)
  rw[A4]at hl;rw[A9,Qd];show (idx v r.qf.qb).bind _=_;rw[idx6 hv hr];simp only[A0];unfold YM partS;rw[List.filter_cons]
  cases hq:inS v k1 r with
  | true =>
   have hq':(v.getD r.qf.qb.toNat 0 == (k1:Int))=true:=hq;rw[hq',cT,Nv (JO (by omega) (by simp;omega)),Hv hv k1 K l (k+1) _ h' (by simp;omega)];simp[partS]
  | false =>
   have hq':(v.getD r.qf.qb.toNat 0 == (k1:Int))=false:=hq;rw[hq',cN,Hv hv k1 K l (k+1) _ h' (by omega)];simp[partS]
theorem Hx {v:List Int} (hv:v.length=6) {b:Int} (k1:Nat) (K:List rf3Rule->Option (List Bool×Int)):∀ (l:List rf3Rule) (k:Nat) (acc:List rf3Rule),(∀ r,r∈l->rel6 r.qf.qb)->acc.length+l.length<=1000->XP k1 (v,b) K l k acc=K (acc++partS v k1 l)
 | [],k,acc,_,_=>by rw[XP];simp[partS]
 | r::l,k,acc,h,hl=>by
  have hr:=h r (A2 ..)
  have h':∀ q,q∈l->rel6 q.qf.qb:=fun q hq=>h q (A3 _ hq)
  rw[A4]at hl;rw[XP];show (idx v r.qf.qb).bind _=_;rw[idx6 hv hr];simp only[A0];unfold Uo partS;rw[List.filter_cons]
  cases hq:inS v k1 r with
  | true =>
   have hq':(v.getD r.qf.qb.toNat 0 == (k1:Int))=true:=hq;rw[hq',cT,Nv (JO (by omega) (by simp;omega)),Hx hv k1 K l (k+1) _ h' (by simp;omega)];simp[partS]
  | false =>
   have hq':(v.getD r.qf.qb.toNat 0 == (k1:Int))=false:=hq;rw[hq',cN,Hx hv k1 K l (k+1) _ h' (by omega)];simp[partS]
theorem qiH {ar:Int->Nat} {fuel:Nat} (hf:300<=fuel) {l:List rf3Rule} (hl:l.length<=12) (hr:∀ r,r∈l->rel6 r.qf.qb) {v:List Int} (hv:v.length=6) {b:Int}:∀ (L:List Nat) (k:Nat) (out:List (rufact×Bool)) (S:List Bool),StR ar out S->(∀ j,k<=j->partS v j l=[]) ->
  ∃ S',QY fuel l (v,b) ZE L k S=some (S',0)/\StR ar out S'
 | [],k,out,S,h,_=>by
  refine⟨S,?_,h⟩;rw[QY];unfold ZE;rw[Nv (dT h.len),Nv (dT ⟨h.len,by simp⟩),Nv (dT h.len)]
 | x::L,k,out,S,h,he=>by
  obtain⟨S1,s1,s2⟩:=qjA hf h
  obtain⟨S2,q1,q2⟩:=qiH hf hl hr hv L (k+1) out S1 s2 fun j hj=>he j oM
  refine⟨S2,?_,q2⟩;rw[QY,Nv (qu (by omega)),Hx hv k _ l 0 [] hr (by simp;omega),he k (by omega)];unfold Up;rw[Nv (dT h.len),Nv (dT h.len),List.append_nil,s1];simp only[A0];rw[Nv (dT ⟨s2.len,h.len⟩)];exact q1
theorem qgr {ar:Int->Nat} {fuel:Nat} (hf:300<=fuel) {l:List rf3Rule} (hl:l.length<=12) (hL:∀ r,r∈l->okL ar (toR r)) {v:List Int} (hv:v.length=6) {b:Int} {c:Bool}:∀ (L L':List Nat) (k:Nat) (out:List (rufact×Bool)) (S:List Bool),StR ar out S->L.length<=L'.length->(∀ j,k+L.length<=j->partS v j l=[]) ->
  ∃ out' S',jQ fuel (l.map toR) (v,c) Qa L k out=some (out',true)/\QY fuel l (v,b) ZE L' k S=some (S',0)/\StR ar out' S'
 | [],L',k,out,S,h,_,he=>by
  obtain⟨S',s1,s2⟩:=qiH (b:=b) hf hl (fun r hr=>Xe (hL r hr).head.1) hv L' k out S h fun j hj=>he j (by simpa using hj)
  exact⟨out,S',by rw[jQ];rfl,s1,s2⟩
 | x::L,[],k,out,S,h,hlen,he=>by simp at hlen
 | x::L,y::L',k,out,S,h,hlen,he=>by
  have hrel:∀ r,r∈l->rel6 r.qf.qb:=fun r hr=>Xe (hL r hr).head.1
  have hp:(partS v k l).length<=12:=E7 (E9 ..) hl;obtain⟨o1,S1,a1,a2,a3⟩:=qjh hf hp (fun r hr=>hL r (List.mem_filter.1 hr).1) h
  obtain⟨o2,S2,b1,b2,b3⟩:=qgr hf hl hL hv (b:=b) (c:=c) L L' (k+1) o1 S1 a3 (by simpa using hlen) fun j hj=>he j (by rw[A4];omega)
  refine⟨o2,S2,?_,?_,b3⟩
  ·rw[jQ,Nv (qu (by rw[A5];omega)),Hv hv k _ l 0 [] hrel (by simp;omega)];unfold QW Yl;rw[D1,a1];simp only[A0];exact b1
  rw[QY,Nv (qu (by omega)),Hx hv k _ l 0 [] hrel (by simp;omega)];unfold Up;rw[Nv (dT h.len),Nv (dT h.len),D1,a2];simp only[A0];rw[Nv (dT ⟨a3.len,h.len⟩)];exact b2
def toF (f:apiFact):rufact:=mkF f.qb f.qa
theorem Yo {f:apiFact} (h:groundP f):okU1 (toF f)/\argsF (toF f)=f.qa:=qkR h.1 h.2.1 h.2.2
theorem qiR {f:apiFact} (h:groundP f):UX f=some (toF f):=by
 have e:f=apiF (toF f):=by rw[ZC,(Yo h).2];rfl
 calc UX f=UX (apiF (toF f)):=by rw[<- e]
  _=some (toF f):=qlQ
theorem UL (K:List (rufact×Bool)->Option (List (rufact×Bool))):∀ (l:List apiFact) (k:Nat) (acc:List (rufact×Bool)),(∀ f,f∈l->groundP f)->NT acc->acc.length+l.length<=1000->QP K l k acc=K (addF acc (l.map toF))
 | [],k,acc,_,_,_=>by rw[QP];rfl
 | f::l,k,acc,h,hn,hl=>by
  have hf:=h f (A2 ..);rw[A4]at hl;have hw:=(Yo hf).1.wf;unfold wfF at hw;obtain⟨m1,m2,m3,m4⟩:=hn.mset (toF f)
  have hlen:(mset qg (toF f) true acc).length<=acc.length+1:=by
   by_cases hm:toF f∈acc.map A1
   ·have:∀ {l:List (rufact×Bool)},toF f∈l.map A1->(mset qg (toF f) true l).length=l.length:=by
     intro l
     induction l with
     | nil=>intro h;simp at h
     | cons p r ih =>
      intro h;unfold mset
      cases hq:qg p.1 (toF f) with
      | true=>rfl
      | false =>
       rw[cN,A4,A4,ih];rw[A9]at h
       rcases List.mem_cons.1 h with h | h
       ·exact absurd h.symm (YE.1 hq)
       exact h
    rw[this hm];omega
   rw[m4 hm];omega
  rw[QP,qiR hf];simp only[A0];rw[Nv hw,Nv (by rw[Nat.blt_eq];omega),UL K l (k+1) _ (fun g hg=>h g (A3 _ hg)) m1 (by omega)];rfl
theorem qkA (K:List Bool->Option (List Bool)):∀ (l:List apiFact) (k:Nat) (S:List Bool),(∀ f,f∈l->groundP f)->S.length=252->∃ S',UG K l k S=K S'/\S'.length=252/\∀ g,setB S' g↔setB S g\/g∈l.map toF
 | [],k,S,_,hS=>⟨S,by rw[UG],hS,fun g=>by simp⟩
 | f::l,k,S,h,hS=>by
  have hf:=h f (A2 ..);obtain⟨h1,h2⟩:=Yo hf;have hlt:=QD h1;obtain⟨S',e1,e2,e3⟩:=qkA K l (k+1) (S.set (codeF (toF f)) true) (fun g hg=>h g (A3 _ hg)) (by rw[D5,hS]);refine⟨S',?_,e2,fun g=>?_⟩
  ·have hc:=qcZ h1;rw[h2]at hc;replace hc:QK f.qb f.qa=_:=hc;rw[UG,hc];simp only[A0];rw[Nv (dT ⟨by omega,by omega,by omega⟩),Nv (dT (by omega)),D6,D2,C0];exact e1
  rw[e3,qcj hS h1,A9,D7];constructor
  ·rintro ((h | h) | h)
   ·exact .inl h
   ·exact .inr (.inl h)
   exact .inr (.inr h)
  rintro (h | h | h)
  ·exact .inl (.inl h)
  ·exact .inl (.inr h)
  exact .inr h
theorem Nm {l:List apiFact} (hl:l.length<=100) (h:∀ f,f∈l->groundP f) (har:∀ f,f∈l->f.qa.length=ar f.qb):∃ out S,Xb l=some out/\qfg l=some S/\StR ar out S:=by
 obtain⟨S,e1,e2,e3⟩:=qkA qaV l 0 (B1 252 false) h (by simp);obtain⟨a1,a2,a3,a4⟩:=NT.empty.add (fr:=l.map toF)
 have hm:∀ g,g∈(addF [] (l.map toF)).map A1↔g∈l.map toF:=fun g=>by rw[a2];simp
 have h0:∀ g,¬ setB (B1 252 false) g:=fun g hg=>by
  have:=hg.2;rw[A8,G0]at this;split at this <;> simp at this
 refine⟨addF [] (l.map toF),S,?_,?_,a1,fun g hg=>?_,e2,fun g=>?_⟩
 ·unfold Xb;rw[Nv (qu (by omega)),UL _ l 0 [] h NT.empty (by simp;omega)];rfl
 ·unfold qfg;rw[Nv (qu (by omega)),e1];unfold qaV;rw[Nv (dT e2),Nv (dT ⟨e2,by simp⟩),Nv (dT e2)]
 ·obtain⟨f,hf,rfl⟩:=List.mem_map.1 ((hm g).1 hg);obtain⟨h1,h2⟩:=Yo (h f hf);exact⟨h1,by rw[h2];exact har f hf⟩
 rw[hm,e3];exact⟨.inr,fun q=>q.resolve_left (h0 g)⟩
def arOf (S:List qn) (rel:Int):Nat:=match S.find? fun s=>s.f_0 == rel with
 | some s=>s.f_1.toNat
 | none=>1
theorem qhk {S:List qn} (hS:conP S) {s:qn} (hs:s∈S):arOf S s.f_0=s.f_1.toNat:=by
 unfold arOf
 cases hf:S.find? fun t=>t.f_0 == s.f_0 with
 | none =>
  have:=List.find?_eq_none.1 hf s hs;simp at this
 | some t =>
  have h1:=List.mem_of_find?_eq_some hf
  have h2:t.f_0=s.f_0:=by simpa using List.find?_some hf
  show t.f_1.toNat=s.f_1.toNat;rw[hS t h1 s hs h2]
abbrev szVR (l:List rf3Rule) (facts:List apiFact):List qn:=facts.map szF++l.flatMap sizesR
abbrev arVR (l:List rf3Rule) (facts:List apiFact):Int->Nat:=arOf (szVR l facts)
theorem VR.facts_ar (h:VR l facts):∀ f,f∈facts->f.qa.length=arVR l facts f.qb:=fun f hf=>by
 have:=qhk h.2.2.2.2 (s:=szF f) (List.mem_append_left _ (List.mem_map.2 ⟨f,hf,rfl⟩));show _=arOf _ (szF f).f_0;rw[this];rfl
theorem VR.okL {l:List rf3Rule} {facts:List apiFact} (h:VR l facts):∀ r,r∈l->okL (arVR l facts) (toR r):=fun r hr=>by
 have h1:=h.2.2.2.1 r hr
 have h2:okU (toR r):=by rw[<- qll h1];exact (qiK r).2 h1
 refine⟨h2,fun a ha=>?_⟩
 have key:∀ t:rf2Atom,szA t∈sizesR r->t.qa.length=arVR l facts t.qb:=fun t ht=>by
  have:=qhk h.2.2.2.2 (s:=szA t) (List.mem_append_right _ (List.mem_flatMap.2 ⟨r,hr,ht⟩));show _=arOf _ (szA t).f_0;rw[this];rfl
 rcases List.mem_cons.1 ha with rfl | ha
 ·exact key r.qf (A2 ..)
 obtain⟨x,hx,rfl⟩:=List.mem_map.1 ha;obtain⟨y,hy,rfl⟩:=List.mem_map.1 hx;exact key y.qe (A3 _ (List.mem_map.2 ⟨y,hy,rfl⟩))
theorem qct (h:∀ r,r∈l->Go.AM.okL ar (toR r)):relsR l:=fun r hr=>by
 have h1:=h r hr;refine⟨Xe h1.head.1,by have:=h1.1.1;simpa[toR] using this,fun b hb=>Xe (h1.body (toL b) (List.mem_map.2 ⟨b,hb,rfl⟩)).1⟩
theorem qgf (h:∀ r,r∈l->Go.AM.okL ar (toR r)):relsU (l.map toR):=fun q hq=>by
 obtain⟨r,hr,rfl⟩:=List.mem_map.1 hq;have h1:=h r hr;exact⟨Xe h1.head.1,h1.1.1,fun b hb=>Xe (h1.body b hb).1⟩
theorem qgV (l:List rf3Rule):edgesU (l.map toR)=edgesR l:=by
 unfold edgesU edgesR;rw[List.flatMap_map];simp only[toR,List.map_map,Function.comp_def,toL,toA]
theorem qhW {fuel:Nat} (hf:300<=fuel) (hl:l.length<=10) (hL:∀ r,r∈l->Go.AM.okL ar (toR r)) (h2:facts.length<=100) (h3:∀ f,f∈facts->groundP f) (har:∀ f,f∈facts->f.qa.length=ar f.qb) :
  (∃ out S,Ql fuel (l.map toR) facts=some (out,true)/\Hz fuel l facts=some (S,0)/\StR ar out S)\/(Ql fuel (l.map toR) facts=some ([],false)/\Hz fuel l facts=some (B1 252 false,8)):=by
 obtain⟨o0,S0,g1,g2,g3⟩:=Nm h2 h3 har
 rcases qbn (by omega:100<=fuel) hl (by rw[A5];exact hl) (qct hL) (qgf hL) (qgV l) with ⟨v,hv,_,s1,s2⟩ | ⟨s1,s2⟩
 ·left;obtain⟨M,m1,m2,m3⟩:=qcz (by omega:10<=fuel) hv.1;obtain⟨i,hi,he⟩:=List.getElem_of_mem m2
  have hM:0<=M/\M<=5:=by
   have:=hv.2 i;rw[A8,C7 hi]at this;rw[<- he];exact this
  have hn:(D3 (A7 (A6 .i64 (M+1)))).length=M.toNat+1:=by
   rw[wrap64 (by omega) (by omega),F6];omega
  obtain⟨o,S,a1,a2,a3⟩:=qgr (b:=0) (c:=true) hf (by omega:l.length<=12) hL hv.1 (D3 (A7 (A6 .i64 (M+1)))) (D3 (A7 6)) 0 o0 S0 g3 (by rw[hn,F6];omega) (fun j hj=>by
   rw[hn]at hj;unfold partS;rw[List.filter_eq_nil_iff];intro r hr hq;have hrr:rel6 r.qf.qb:=Xe (hL r hr).head.1;have:=m3 r.qf.qb.toNat (by have:=hrr.1;have:=hrr.2;omega)
   have hq:v.getD r.qf.qb.toNat 0=(j:Int):=by simpa[inS] using hq
   omega)
  refine⟨o,S,?_,?_,a3⟩
  ·unfold Ql;rw[s2];simp only[A0,D0,cN];rw[g1];simp only[A0];rw[m1];simp only[A0];rw[Nv (qu (by rw[hn];omega))];exact a1
  unfold Hz;rw[s1];simp only[A0];rw[g2];simp only[A0];rw[Nv (dT ⟨g3.len,by simp⟩)];simp only[bne_self_eq_false,cN];rw[Nv (qu (by simp))];exact a2
 right;refine⟨?_,?_⟩
 ·unfold Ql;rw[s2];rfl
 unfold Hz;rw[s1];simp only[A0];rw[g2];simp only[A0];rw[Nv (dT ⟨g3.len,by simp⟩)];rfl
end Go.AM
namespace Go.AM
open Go.Proofs Go.Sort
open Classical
def keyOf (n:Nat):List Int:=(decF n).qj::argsF (decF n)
theorem qjq {f:apiFact} (h:f.qa.length<=1000):Yu f f=some true:=by
 have key:∀ (r:List Int) (k:Nat),(∃ p:List Int,p.length=k/\f.qa=p++r)->jm f.qa Qp r k=some true:=by
  intro r
  induction r with
  | nil=>intro k _;rw[jm];rfl
  | cons x r ih =>
   rintro k ⟨p,hp,h2⟩
   have hi:idx f.qa (k:Int)=some x:=by
    unfold idx;rw[if_pos (by omega),C0,h2,G1 (by omega),hp,Nat.sub_self];rfl
   rw[jm,hi];simp only[A0,bne_self_eq_false,cN];exact ih (k+1) ⟨p++[x],by simp[hp],by rw[h2];simp⟩
 unfold Yu QS;rw[beq_self_eq_true,cT,bne_self_eq_false,cN,Nv (qu (by omega)),key f.qa 0 ⟨[],rfl,rfl⟩];rfl
theorem qfW {l:List apiFact} (hl:l.length<=1000) (h:∀ f,f∈l->f.qa.length<=1000):UK l l=some true:=by
 have key:∀ (r:List apiFact) (k:Nat),(∃ p:List apiFact,p.length=k/\l=p++r)->qV l (fun y0 y1=>Yu y0 y1) Jb r k=some true:=by
  intro r
  induction r with
  | nil=>intro k _;rw[qV];rfl
  | cons x r ih =>
   rintro k ⟨p,hp,h2⟩
   have hi:idx l (k:Int)=some x:=by
    unfold idx;rw[if_pos (by omega),C0,h2,G1 (by omega),hp,Nat.sub_self];rfl
   rw[qV,hi];simp only[A0];rw[qjq (h x (by rw[h2];simp))];simp only[A0,D0,cN];exact ih (k+1) ⟨p++[x],by simp[hp],by rw[h2];simp⟩
 unfold UK Qv;rw[bne_self_eq_false,cN,Nv (qu (by omega)),key l 0 ⟨[],rfl,rfl⟩];rfl
abbrev awR:List ruRule:=[(ruRule.mk (qm.mk 1 [0]) [(ruLit.mk false (qm.mk 0 [0]))])]
abbrev awF:List apiFact:=[(apiFact.mk 0 [3])]
theorem qhe (n:Nat):XY (n+30) awR awF=some true:=by rfl
theorem qhf (n:Nat):Ql (n+30) awR awF=some ([(⟨0,3,0⟩,true),(⟨1,3,0⟩,true)],true):=by rfl
theorem qin:sortF (apis [((⟨0,3,0⟩:rufact),true),(⟨1,3,0⟩,true)])=[⟨0,[3]⟩,⟨1,[3]⟩]:=by
 show sortF [⟨0,[3]⟩,⟨1,[3]⟩]=_;unfold sortF;refine List.mergeSort_of_pairwise ?_;simp only[List.pairwise_cons,D7,List.not_mem_nil,or_false,forall_eq,false_implies,implies_true,List.Pairwise.nil,and_true,Bool.not_eq_true'];rw[ltFf]
 decide
theorem qio:Xu [((⟨0,3,0⟩:rufact),true),(⟨1,3,0⟩,true)]=some [⟨0,[3]⟩,⟨1,[3]⟩]:=by
 unfold Xu;rw[Nv (by rfl),qin]
theorem qkc (n:Nat):Zn (n+30)=some true:=by
 unfold Zn Xv;rw[qhe];simp only[A0,D0,cN];rw[qhf];simp only[A0,D0,cN];rw[qio];simp only[A0];rw[show ((0:Int) == 0)=true from rfl,cT,qfW (by simp) (by simp)];rfl
end Go.AM
namespace Go.AM
open Go.Proofs Go.Proofs.Ytdghpfejmlpjhaa Go.ChangeShapes Go.WideShapes Go.ChangeAt Go.RowKit
abbrev wA (l:List Int):Prop:=l.length<=maxLen/\∀ x,x∈l->wfI .i64 x=true
abbrev wAt (a:rf2Atom):Prop:=wfI .i64 a.qb=true/\wA a.qa
abbrev wFa (f:apiFact):Prop:=wfI .i64 f.qb=true/\wA f.qa
abbrev wRu (r:rf3Rule):Prop:=wAt r.qf/\r.qc.length<=maxLen/\∀ b,b∈r.qc->wAt b.qe
theorem qak:Reads Try.prog 3 (AV.int .i64) (fun n=>wfI .i64 n=true):=qjv (P:=Try.prog) (t:=3) (k:=.i64) kR
theorem qdS:Reads Try.prog 39 (encL 3 1 (AV.int .i64)) wA :=
 Ub kR kR (by decide) qak (fun _=>rfl) (fun _=>rfl)
theorem qjy:Reads Try.prog 41 qA wFa :=
 Vg (P := Try.prog) (size := 2) (fs := #[Field.mk "Rel" 3 0 false "" "" 0, Field.mk "Args" 39 1 false "" "" 8]) (fun b : Int × List Int × Unit => (⟨b.1, b.2.1⟩ : apiFact)) kR kR
  (QC (f:=AV.int .i64) (ok:=fun n=>wfI .i64 n=true) (n:=1) (off':=1) rfl kR rfl qak (QC (f:=encL 3 1 (AV.int .i64)) (ok:=wA) (n:=1) (off':=2) rfl kR rfl qdS (Ug rfl)))
  (fun b=>rfl) (fun b h=>⟨h.1,h.2.1⟩)
theorem qdT:Reads Try.prog 91 qbg wAt :=
 Vg (P := Try.prog) (size := 2) (fs := #[Field.mk "Rel" 3 0 false "" "" 0, Field.mk "Args" 39 1 false "" "" 8]) (fun b : Int × List Int × Unit => (⟨b.1, b.2.1⟩ : rf2Atom)) kR kR
  (QC (f:=AV.int .i64) (ok:=fun n=>wfI .i64 n=true) (n:=1) (off':=1) rfl kR rfl qak (QC (f:=encL 3 1 (AV.int .i64)) (ok:=wA) (n:=1) (off':=2) rfl kR rfl qdS (Ug rfl)))
  (fun b=>rfl) (fun b h=>⟨h.1,h.2.1⟩)
theorem qkE:Reads Try.prog 96 XF (fun b=>wAt b.qe) :=
 Vg (P := Try.prog) (size := 3) (fs := #[Field.mk "Not" 4 0 false "" "" 0, Field.mk "Atom" 91 1 false "" "" 8]) (fun b : Bool × rf2Atom × Unit => (⟨b.1, b.2.1⟩ : rf3Lit)) kR kR
  (QC (f:=AV.bool) (ok:=fun _=>True) (n:=1) (off':=1) rfl kR rfl (qhE kR) (QC (f:=qbg) (ok:=wAt) (n:=2) (off':=3) rfl kR rfl qdT (Ug rfl)))
  (fun b=>rfl) (fun b h=>h.2.1)
theorem qjx:Reads Try.prog 92 (encL 96 3 XF) (fun l=>l.length<=maxLen/\∀ b,b∈l->wAt b.qe) :=
 Ub kR kR (by decide) qkE (fun _=>rfl) (fun _=>rfl)
theorem qjw:Reads Try.prog 94 Xn wRu :=
 Vg (P := Try.prog) (size := 3) (fs := #[Field.mk "Head" 91 0 false "" "" 0, Field.mk "Body" 92 2 false "" "" 32]) (fun b : rf2Atom × List rf3Lit × Unit => (⟨b.1, b.2.1⟩ : rf3Rule)) kR kR
  (QC (f:=qbg) (ok:=wAt) (n:=2) (off':=2) rfl kR rfl qdT (QC (f:=encL 96 3 XF) (ok:=fun l=>l.length<=maxLen/\∀ b,b∈l->wAt b.qe) (n:=1) (off':=3) rfl kR rfl qjx (Ug rfl)))
  (fun b=>rfl) (fun b h=>⟨h.1,h.2.1⟩)
theorem qhF:Reads Try.prog 22 (encL 94 3 Xn) (fun l=>l.length<=maxLen/\∀ r,r∈l->wRu r) :=
 Ub kR kR (by decide) qjw (fun _=>rfl) (fun _=>rfl)
theorem qhG:Reads Try.prog 23 (encL 41 2 qA) (fun l=>l.length<=maxLen/\∀ f,f∈l->wFa f) :=
 Ub kR kR (by decide) qjy (fun _=>rfl) (fun _=>rfl)
theorem Db {α:Type} {l:List α} (h:l.length<=maxLen):lenOk l=true:=Nat.ble_eq_true_of_le (by unfold maxLen at h;omega)
theorem own:ownKnob Try.prog.godebug=none:=by kernel_rfl
theorem mixed:Try.prog.follows .mixedOrders=true:=by kernel_rfl
theorem laid:laidOutB Try.prog=true:=by kernel_rfl
end Go.AM
namespace Go.AM
open Go.Proofs
variable {l:List rf3Rule} {lev:Int->Nat} {L:List ruRule} {x:ruLit} {v:List Int}
theorem qaZ {l:List Int} (h:wA l):okArgs l:=⟨Db h.1,h.2⟩
theorem qhR (h:l.length<=maxLen/\∀ r,r∈l->wRu r):okRules l :=
 ⟨Db h.1,fun r hr=>⟨⟨(h.2 r hr).1.1,qaZ (h.2 r hr).1.2⟩,Db (h.2 r hr).2.1,fun b hb=>⟨((h.2 r hr).2.2 b hb).1,qaZ ((h.2 r hr).2.2 b hb).2⟩⟩⟩
theorem qhS {l:List apiFact} (h:l.length<=maxLen/\∀ f,f∈l->wFa f):okFacts l :=
 ⟨Db h.1,fun f hf=>⟨(h.2 f hf).1,qaZ (h.2 f hf).2⟩⟩
def bigFuel:Nat:=500
theorem big400:400<=bigFuel:=by decide
open Classical
theorem Hq {P Q:rufact->Prop}:∀ {body:List ruLit} {v w:List Int},(∀ x,x∈body->x.qr=false->∀ g,P g->g.qj=x.qe.qb->Q g)->InstP P body v w->InstP Q body v w
 | [],v,w,_,hi=>hi
 | x::body,v,w,h,hi=>by
  have h':=fun y (hy:y∈body)=>h y (A3 _ hy)
  rcases hi with ⟨hn,hi⟩ | ⟨hn,g,u,hg,h1,h2,h3,h4⟩
  ·exact .inl ⟨hn,Hq h' hi⟩
  exact .inr ⟨hn,g,u,h x (A2 ..) hn g hg h1,h1,h2,h3,Hq h' h4⟩
def Strat (lev:Int->Nat) (L:List ruRule):Prop:=∀ r,r∈L->∀ x,x∈r.qc->lev x.qe.qb+(if x.qr=true then 1 else 0)<=lev r.qf.qb
theorem Strat.le (h:Strat lev L) {r:ruRule} (hr:r∈L) (hx:x∈r.qc):lev x.qe.qb<=lev r.qf.qb:=by
 have:=h r hr x hx;omega
theorem Strat.lt (h:Strat lev L) {r:ruRule} (hr:r∈L) (hx:x∈r.qc) (hn:x.qr=true):lev x.qe.qb<lev r.qf.qb:=by
 have:=h r hr x hx;rw[if_pos hn]at this;omega
def partU (lev:Int->Nat) (k:Nat) (L:List ruRule):List ruRule:=L.filter fun r=>lev r.qf.qb == k
theorem qaW {k:Nat} {r:ruRule}:r∈partU lev k L↔r∈L/\lev r.qf.qb=k:=by
 unfold partU;rw[List.mem_filter,beq_iff_eq]
def StepsP (lev:Int->Nat) (L:List ruRule):Nat->Nat->(rufact->Prop)->(rufact->Prop)->Prop
 | _,0,X,Y=>X=Y
 | k,n+1,X,Y=>∃ Z,LeastR (partU lev k L) X X Z/\StepsP lev L (k+1) n Z Y
theorem StepsP.spec {lev:Int->Nat} {L:List ruRule} (hs:Strat lev L):∀ (n k:Nat) (X Y:rufact->Prop),StepsP lev L k n X Y->(∀ r,r∈L->lev r.qf.qb<k+n) ->
  (∀ g,X g->Y g)/\(∀ g,Y g->lev g.qj<k->X g)/\(∀ r,r∈L->k<=lev r.qf.qb->∀ w,InstP Y r.qc v0 w->FreeP Y w r.qc->Y (groundF w r.qf)) /\
   ∀ Q:rufact->Prop,(∀ g,X g->Q g)->(∀ r,r∈L->k<=lev r.qf.qb->∀ w,InstP Q r.qc v0 w->FreeP Y w r.qc->Q (groundF w r.qf))->∀ g,Y g->Q g
 | 0,k,X,Y,h,hk=>by
  have h:X=Y:=h;subst h;exact⟨fun _ h=>h,fun _ h _=>h,fun r hr hq=>by have:=hk r hr;omega,fun Q h _ g hg=>h g hg⟩
 | n+1,k,X,Y,⟨Z,hZ,h⟩,hk=>by
  obtain⟨i1,i2,i3,i4⟩:=StepsP.spec hs n (k+1) Z Y h fun r hr=>by have:=hk r hr;omega
  have hZk:∀ g,Z g->X g\/lev g.qj=k:=hZ.least _ (fun g h=>.inl h) fun r hr w _ _=>.inr (qaW.1 hr).2
  have hlow:∀ g,Y g->lev g.qj<k->X g:=fun g hg hl=>by
   rcases hZk g (i2 g hg oM) with h | h
   ·exact h
   omega
  have hXY:∀ g,X g->Y g:=fun g hg=>i1 g (hZ.sub g hg)
  have hfree:∀ r,r∈L->lev r.qf.qb=k->∀ w,FreeP X w r.qc->FreeP Y w r.qc:=fun r hr hl w hf x hx hn hy=>hf x hx hn (hlow _ hy (by
   have:=hs.lt hr hx hn;show lev x.qe.qb<k
   omega))
  refine⟨hXY,hlow,fun r hr hq w hi hf=>?_,fun Q h1 h2=>?_⟩
  ·by_cases hl:lev r.qf.qb=k
   ·refine i1 _ (hZ.closed r (qaW.2 ⟨hr,hl⟩) w (Hq (fun x hx hn g hg hrel=>i2 g hg ?_) hi) fun x hx hn hy=>hf x hx hn (hXY _ hy));have:=hs.le hr hx;rw[hrel];omega
   exact i3 r hr oM w hi hf
  refine i4 Q (hZ.least Q h1 fun r hr w hi hf=>?_) fun r hr hq=>h2 r hr oM
  obtain⟨hr,hl⟩:=qaW.1 hr;exact h2 r hr oM w hi (hfree r hr hl w hf)
theorem StepsP.stable (hs:Strat lev L) {n:Nat} {X Y:rufact->Prop} (h:StepsP lev L 0 n X Y) (hk:∀ r,r∈L->lev r.qf.qb<n):LeastR L Y X Y:=by
 obtain⟨i1,i2,i3,i4⟩:=StepsP.spec hs n 0 X Y h (by simpa using hk);exact⟨i1,fun r hr w=>i3 r hr (Nat.zero_le _) w,fun Q h1 h2=>i4 Q h1 fun r hr _ w=>h2 r hr w⟩
def levV (v:List Int) (rel:Int):Nat:=(v.getD rel.toNat 0).toNat
theorem qko (hr:relsR l) (hv:∀ i,0<=v.getD i 0) (h:preE (edgesR l) fun i=>v.getD i 0):Strat (levV v) (l.map toR):=by
 intro r hr x hx;obtain⟨q,hq,rfl⟩:=List.mem_map.1 hr;obtain⟨y,hy,rfl⟩:=List.mem_map.1 hx;have h1:=h (edgeOf q.qf.qb y.qe.qb y.qr) (List.mem_flatMap.2 ⟨q,hq,List.mem_map.2 ⟨y,hy,rfl⟩⟩);have h2:=hv q.qf.qb.toNat;have h3:=hv y.qe.qb.toNat;simp only[edgeOf]at h1;by_cases hn:(toL y).qr=true
 ·have hn':y.qr=true:=hn;rw[if_pos hn];rw[if_pos hn']at h1;show (v.getD y.qe.qb.toNat 0).toNat+1<=(v.getD q.qf.qb.toNat 0).toNat;omega
 have hn':¬ y.qr=true:=hn;rw[if_neg hn];rw[if_neg hn']at h1;show (v.getD y.qe.qb.toNat 0).toNat+0<=(v.getD q.qf.qb.toNat 0).toNat;omega
theorem qlN (hv:∀ i,0<=v.getD i 0) (k:Nat) (l:List rf3Rule):(partS v k l).map toR=partU (levV v) k (l.map toR):=by
 unfold partS partU;rw[List.filter_map]
 congr 1
 refine List.filter_congr fun r _=>?_
 have:=hv r.qf.qb.toNat;unfold inS levV;simp only[Function.comp_def,toR,toA];rw[Bool.eq_iff_iff,beq_iff_eq,beq_iff_eq];omega
abbrev memO (out:List (rufact×Bool)):rufact->Prop:=fun g=>g∈out.map A1
theorem qea {ar:Int->Nat} {fuel:Nat} (hf:300<=fuel) {l:List rf3Rule} (hl:l.length<=12) (hL:∀ r,r∈l->okL ar (toR r)) {v:List Int} (hv:v.length=6) (h0:∀ i,0<=v.getD i 0) {c:Bool}:∀ (L:List Nat) (k:Nat) (out:List (rufact×Bool)),NT out->arW ar (memO out) ->
  ∃ out',jQ fuel (l.map toR) (v,c) Qa L k out=some (out',true)/\NT out'/\arW ar (memO out')/\StepsP (levV v) (l.map toR) k L.length (memO out) (memO out')
 | [],k,out,h1,h2=>⟨out,by rw[jQ];rfl,h1,h2,rfl⟩
 | x::L,k,out,h1,h2=>by
  have hrel:∀ r,r∈l->rel6 r.qf.qb:=fun r hr=>Xe (hL r hr).head.1
  have hp:(partS v k l).length<=12:=E7 (E9 ..) hl
  obtain⟨o1,a1,a2,a3,a4⟩:=qeF (L:=(partS v k l).map toR) (fun r hr=>by
   obtain⟨q,hq,rfl⟩:=List.mem_map.1 hr
   exact hL q (List.mem_filter.1 hq).1) (by rw[A5];exact hp) h1 h1 h2 (by omega:253<=fuel)
  obtain⟨o2,b1,b2,b3,b4⟩:=qea hf hl hL hv h0 (c:=c) L (k+1) o1 a2 a3;refine⟨o2,?_,b2,b3,memO o1,by rw[qlN h0]at a4;exact a4,b4⟩;rw[jQ,Nv (qu (by rw[A5];omega)),Hv hv k _ l 0 [] hrel (by simp;omega)];unfold QW Yl;rw[D1,a1];simp only[A0];exact b1
theorem qhO {ar:Int->Nat} {fuel:Nat} (hf:300<=fuel) (hl:l.length<=10) (hL:∀ r,r∈l->Go.AM.okL ar (toR r)) {facts:List apiFact} (h2:facts.length<=100) (h3:∀ f,f∈facts->groundP f) (har:∀ f,f∈facts->f.qa.length=ar f.qb) :
  (∃ v out,in6 v 5/\XK fuel (l.map toR)=some (v,true)/\Strat (levV v) (l.map toR)/\Ql fuel (l.map toR) facts=some (out,true)/\NT out/\arW ar (memO out)/\LeastR (l.map toR) (memO out) (fun g=>g∈facts.map toF) (memO out))\/(XK fuel (l.map toR)=some ([],false)/\Ql fuel (l.map toR) facts=some ([],false)):=by
 obtain⟨o0,S0,g1,g2,g3⟩:=Nm h2 h3 har
 have hg:∀ g,memO o0 g↔g∈facts.map toF:=fun g=>by
  obtain⟨a1,a2,a3,a4⟩:=NT.empty.add (fr:=facts.map toF)
  have:Xb facts=some (addF [] (facts.map toF)):=by
   unfold Xb;rw[Nv (qu (by omega)),UL _ facts 0 [] h3 NT.empty (by simp;omega)];rfl
  rw[g1]at this;cases this;show g∈_↔_;rw[a2];simp
 rcases qbn (by omega:100<=fuel) hl (by rw[A5];exact hl) (qct hL) (qgf hL) (qgV l) with ⟨v,hv,hpre,s1,s2⟩ | ⟨s1,s2⟩
 ·left
  have h0:∀ i,0<=v.getD i 0:=fun i=>(hv.2 i).1
  have hst:=qko (qct hL) h0 hpre;obtain⟨M,m1,m2,m3⟩:=qcz (by omega:10<=fuel) hv.1;obtain⟨i,hi,he⟩:=List.getElem_of_mem m2
  have hM:0<=M/\M<=5:=by
   have:=hv.2 i;rw[A8,C7 hi]at this;rw[<- he];exact this
  have hn:(D3 (A7 (A6 .i64 (M+1)))).length=M.toNat+1:=by
   rw[wrap64 (by omega) (by omega),F6];omega
  obtain⟨o,a1,a2,a3,a4⟩:=qea (c:=true) hf (by omega:l.length<=12) hL hv.1 h0 (D3 (A7 (A6 .i64 (M+1)))) 0 o0 g3.nt g3.ar
  have hstab:=a4.stable hst (fun r hr=>by
   obtain⟨q,hq,rfl⟩:=List.mem_map.1 hr;have hrr:rel6 q.qf.qb:=Xe (hL q hq).head.1;have:=m3 q.qf.qb.toNat (by have:=hrr.1;have:=hrr.2;omega);rw[hn];unfold levV;simp only[toR,toA]
   omega)
  refine⟨v,o,hv,s2,hst,?_,a2,a3,?_⟩
  ·unfold Ql;rw[s2];simp only[A0,D0,cN];rw[g1];simp only[A0];rw[m1];simp only[A0];rw[Nv (qu (by rw[hn];omega))];exact a1
  rw[show (fun g=>g∈facts.map toF)=memO o0 from funext fun g=>propext (hg g).symm];exact hstab
 right;refine⟨s2,?_⟩;unfold Ql;rw[s2];rfl
end Go.AM
namespace Go.AM
open Go.RowKit Go.Sort Go.Proofs Go.Lib
end Go.AM
namespace Go.AM
open Go.Proofs
end Go.AM
namespace Go.AM
open Go.Proofs
inductive ruProof where
 | mk (qL:Int) (qp:apiFact) (qE:(List ruProof))
def ruProof.qL:ruProof->Int
 | .mk a0 a1 a2=>a0
def ruProof.qp:ruProof->apiFact
 | .mk a0 a1 a2=>a1
def ruProof.qE:ruProof->(List ruProof)
 | .mk a0 a1 a2=>a2
mutual
def Zx:ruProof->AV
 | .mk a0 a1 a2=>.agg [.int .i64 a0,.int .i64 a1.qb,l3 none a1.qa,.lst 77 4 none (VN a2)]
def VN:List ruProof->List AV
 | []=>[]
 | x::r=>Zx x::VN r
end
def l77 (c:Option Nat) (l:List ruProof):AV:=.lst 77 4 c (List.map Zx l)
theorem Hc:∀ l:List ruProof,VN l=List.map Zx l
 | []=>by rw[VN];rfl
 | x::r=>by rw[VN,Hc r];rfl
theorem qfv (x:ruProof):Zx x=.agg [.int .i64 x.qL,.int .i64 x.qp.qb,l3 none x.qp.qa,l77 none x.qE]:=by
 obtain⟨a0,a1,a2⟩:=x;rw[Zx,Hc];rfl
inductive qw where
 | mk (qL:Int) (qp:apiFact) (qE:(List qw))
def qw.qL:qw->Int
 | .mk a0 a1 a2=>a0
def qw.qp:qw->apiFact
 | .mk a0 a1 a2=>a1
def qw.qE:qw->(List qw)
 | .mk a0 a1 a2=>a2
mutual
def qik:qw->AV
 | .mk a0 a1 a2=>.agg [.int .i64 a0,.int .i64 a1.qb,l3 none a1.qa,.lst 85 4 none (qbz a2)]
def qbz:List qw->List AV
 | []=>[]
 | x::r=>qik x::qbz r
end
end Go.AM
namespace Go.AM
open Go.Proofs
def Nf (v14:Int):Option Int :=
 (some (if (A6 .i64 (v14+1))<41 then (A6 .i64 (v14+1)) else 41))
def YW (a2:Int) (K0:(qw->Int->Option Int)) (K8:(Int->Option Int)):List qw->Nat->Int->Option Int
 | [],k1,v10=>(K8 v10)
 | x1::r1,k1,v10=>((K0 x1 (A6 .i64 (a2 - 1))).bind fun w13=>((YW a2 K0 K8 r1 (k1+1)) (if w13 > v10 then w13 else v10)))
def Zi:Nat->qw->Int->Option Int
 | 0,_,_=>none
 | fuel+1,a1,a2=>(bif (a2 == 0) then (some 41) else (chk (lenOk a1.qE) (YW a2 (Zi fuel) (Nf) a1.qE 0 0)))
def qbt (v13:Int):Option Int :=
 (some v13)
def ZO (K0:(qw->Option Int)) (K4:(Int->Option Int)):List qw->Nat->Int->Option Int
 | [],k1,v6=>(K4 v6)
 | x1::r1,k1,v6=>((K0 x1).bind fun w10=>(bif (decide ((A6 .i64 (v6+w10)) > 500)) then (some 501) else ((ZO K0 K4 r1 (k1+1)) (A6 .i64 (v6+w10)))))
def VG:Nat->qw->Option Int
 | 0,_=>none
 | fuel+1,a1=>(chk (lenOk a1.qE) (ZO (VG fuel) (qbt) a1.qE 0 1))
def NB (v14:qw):Option qw :=
 (some v14)
def Xc (K0:(ruProof->Option qw)) (K4:(qw->Option qw)):List ruProof->Nat->Int->Int->(List Int)->(List qw)->Option qw
 | [],k1,v6,v7,v8,v9=>(K4 (qw.mk v6 (apiFact.mk v7 v8) v9))
 | x1::r1,k1,v6,v7,v8,v9=>((K0 x1).bind fun w12=>(chk (capOk 64 ((v9++[w12])).length) ((Xc K0 K4 r1 (k1+1)) v6 v7 v8 (v9++[w12]))))
def Za:Nat->ruProof->Option qw
 | 0,_=>none
 | fuel+1,a1=>(chk (lenOk a1.qE) (Xc (Za fuel) (NB) a1.qE 0 a1.qL a1.qp.qb a1.qp.qa ([]:(List qw))))
def Nb (v18:Bool):Option Bool :=
 (some v18)
def Vd:Option Bool :=
 (some false)
def UY (N2:(Option Bool)) (v76:Bool):Option Bool :=
 (bif v76 then (some true) else N2)
def UZ (a4:qw) (N2:(Option Bool)) (v73:Bool) (v74:Int):Option Bool :=
 (bif v73 then ((UY N2) (v74 == (a4.qE.length:Int))) else ((UY N2) false))
def YO (N3:(Bool->Int->Option Bool)) (v71:Bool) (v72:Int):Option Bool :=
 (N3 v71 v72)
def Vb (v60:Int) (K61:(Bool->Int->Option Bool)) (v70:Bool):Option Bool :=
 (K61 v70 (A6 .i64 (v60+1)))
def QQ (x2:(List Int)) (a4:qw) (K57:(Bool->Int->Option Bool)):List rf3Lit->Nat->Bool->Int->Option Bool
 | [],k3,v59,v60=>(K57 v59 v60)
 | x3::r3,k3,v59,v60=>(bif (!x3.qr) then (bif v59 then (bif (decide (v60<(a4.qE.length:Int))) then (chk (decide (x2.length=8)) ((XO x3.qe x2).bind fun w66=>((idx a4.qE v60).bind fun e67=>((idx a4.qE v60).bind fun e68=>((QK e67.qp.qb e68.qp.qa).bind fun w69=>((Vb v60 (YO (QQ x2 a4 K57 r3 (k3+1)))) (w66 == w69))))))) else ((Vb v60 (YO (QQ x2 a4 K57 r3 (k3+1)))) false)) else ((Vb v60 (YO (QQ x2 a4 K57 r3 (k3+1)))) false)) else ((YO (QQ x2 a4 K57 r3 (k3+1))) v59 v60))
def Vc (x2:(List Int)) (a4:qw) (e25:rf3Rule) (N2:(Option Bool)) (v56:Bool):Option Bool :=
 (chk (lenOk e25.qc) (QQ x2 a4 (UZ a4 N2) e25.qc 0 v56 0))
def QR (a3:(List Bool)) (a4:qw) (e25:rf3Rule) (K41:(Option Bool)):List (List Int)->Nat->Option Bool
 | [],k2=>K41
 | x2::r2,k2=>(chk (decide (x2.length=8)) (chk (decide (x2.length=8/\(B1 8 0).length=8)) (chk (decide (x2.length=8)) (chk (decide (a3.length=252)) ((NL e25 x2 a3).bind fun w52=>(bif w52 then (chk (decide (x2.length=8)) ((XO e25.qf x2).bind fun w54=>((QK a4.qp.qb a4.qp.qa).bind fun w55=>((Vc x2 a4 e25 (QR a3 a4 e25 K41 r2 (k2+1))) (w54 == w55))))) else ((Vc x2 a4 e25 (QR a3 a4 e25 K41 r2 (k2+1))) false)))))))
def Na (fuel:Nat) (a3:(List Bool)) (a4:qw) (e25:rf3Rule) (v40:(List Bool)):Option Bool :=
 (chk (decide (v40.length=252)) ((jU fuel e25 v40 0 (B1 8 0)).bind fun w44=>(chk (lenOk w44) (QR a3 a4 e25 (Vd) w44 0))))
def Yy (a1:(List rf3Rule)) (a2:(List Bool)) (a3:(List Bool)) (K0:((List rf3Rule)->(List Bool)->(List Bool)->qw->Option Bool)) (K26:((List Bool)->Option Bool)):List qw->Nat->(List Bool)->Option Bool
 | [],k1,v28=>(K26 v28)
 | x1::r1,k1,v28=>(chk (decide (a2.length=252)) (chk (decide (a3.length=252)) ((K0 a1 a2 a3 x1).bind fun w35=>(bif (!w35) then (some false) else ((QK x1.qp.qb x1.qp.qa).bind fun w37=>(chk (decide ((0:Int)<=w37/\w37<((252:Nat):Int)/\0<1)) (chk (decide ((0+A7 w37 * 1)<v28.length)) ((Yy a1 a2 a3 K0 K26 r1 (k1+1)) (v28.set (0+A7 w37 * 1) true)))))))))
def Ve (fuel:Nat) (a1:(List rf3Rule)) (a2:(List Bool)) (a3:(List Bool)) (a4:qw) (K0:((List rf3Rule)->(List Bool)->(List Bool)->qw->Option Bool)) (v21:Bool):Option Bool :=
 (bif v21 then (some false) else ((idx a1 a4.qL).bind fun e25=>(chk (lenOk a4.qE) (Yy a1 a2 a3 K0 (Na fuel a3 a4 e25) a4.qE 0 (B1 252 false)))))
def UE:Nat->(List rf3Rule)->(List Bool)->(List Bool)->qw->Option Bool
 | 0,_,_,_,_=>none
 | fuel+1,a1,a2,a3,a4=>(chk (!a2.isEmpty) (chk (!a3.isEmpty) ((Zh a4.qp).bind fun w10=>(bif (!w10) then (some false) else (bif (a4.qL == (-1)) then (bif ((a4.qE.length:Int) == 0) then ((QK a4.qp.qb a4.qp.qa).bind fun w15=>(chk (decide ((0:Int)<=w15/\w15<((252:Nat):Int)/\0<1)) ((a2[(0+A7 w15 * 1)]?).bind fun e17=>((Nb) e17)))) else ((Nb) false)) else (bif (decide (a4.qL<0)) then ((Ve fuel a1 a2 a3 a4 (UE fuel)) true) else ((Ve fuel a1 a2 a3 a4 (UE fuel)) (decide (a4.qL >= (a1.length:Int))))))))))
def Vf (v13:Bool):Option Bool :=
 (some v13)
def Hy (fuel:Nat) (a1:(List rf3Rule)) (a2:(List apiFact)) (a3:(List Bool)) (a4:qw):Option Bool :=
 (chk (!a3.isEmpty) ((VG fuel a4).bind fun w8=>(bif (decide (w8<=500)) then ((Zi fuel a4 40).bind fun w9=>(bif (decide (w9<=40)) then ((qfg a2).bind fun w10=>(chk (decide (a3.length=252)) ((UE fuel a1 w10 a3 a4).bind fun w12=>((Vf) w12)))) else ((Vf) false))) else ((Vf) false))))
end Go.AM
