/- s -/
import Derived.Test.YtdghpfejmlpjhaaRL9
set_option maxRecDepth 100000
set_option linter.unusedVariables false
set_option linter.unusedSimpArgs false
namespace Go.AM
open Go.Proofs
open Classical
def toA (a:rf2Atom):ql:=⟨a.qb,a.qa⟩
def toL (x:rf3Lit):ruLit:=⟨x.qp,toA x.qd⟩
def toR (r:rf3Rule):ruRule:=⟨toA r.qf,r.qe.map toL⟩
theorem qhL {a:rf2Atom} (h:fitP a.qb a.qa):cvA a=toA a:=by
 unfold cvA toA;rw[UG h]
theorem qhJ {r:rf3Rule} (h:okR r):cvR r=toR r:=by
 unfold cvR toR;rw[qhL h.1,List.take_of_length_le (by have:=h.2.1;omega)]
 congr 1
 refine List.map_congr_left fun x hx=>?_
 unfold cvL toL;rw[qhL (h.2.2.1 x hx)]
def InstP (P:rufact→Prop):List ruLit→List Int→List Int→Prop
 | [],v,w=>w=v
 | x::body,v,w=>(x.qp=true∧InstP P body v w)∨(x.qp=false∧∃ g u,P g∧g.qn=x.qd.qb∧(argsF g).length=x.qd.qa.length∧fitA v x.qd.qa (argsF g)=some u∧InstP P body u w)
def partR (S:List Bool) (rel:Int) (args v:List Int) (G:List Int→List (List Int)) (n:Nat):List (List Int) :=
 if S.getD n false=true∧(decF n).qn=rel∧(argsF (decF n)).length=args.length then (match fitA v args (argsF (decF n)) with | some u=>G u | none=>[]) else []
def instR (S:List Bool):List ruLit→List Int→List (List Int)
 | [],v=>[v]
 | x::body,v=>if x.qp=true then instR S body v else (List.range' 0 252).flatMap (partR S x.qd.qb x.qd.qa v (instR S body))
theorem qdJ {α β:Type} {f:α→List β} {B:Nat}:∀ {l:List α},(∀ x,x∈l→(f x).length≤B)→(l.flatMap f).length≤l.length * B
 | [],_=>by simp
 | a::l,h=>by
  have h1:=h a (List.mem_cons_self ..)
  have h2:=qdJ (l:=l) fun x hx=>h x (List.mem_cons_of_mem _ hx)
  rw[List.flatMap_cons,List.length_append,List.length_cons,Nat.succ_mul];omega
theorem qgl {S:List Bool} {rel:Int} {args v:List Int} {G:List Int→List (List Int)} {B:Nat} (h:∀ u,(G u).length≤B) (n:Nat):(partR S rel args v G n).length≤B:=by
 unfold partR
 split
 ·split
  ·exact h _
  ·simp
 ·simp
theorem UE (S:List Bool):∀ (body:List ruLit) (v:List Int),(instR S body v).length≤252 ^ body.length
 | [],v=>by simp[instR]
 | x::body,v=>by
  unfold instR
  split
  ·have:=UE S body v;rw[List.length_cons,Nat.pow_succ];omega
  ·have:=qdJ (l:=List.range' 0 252) (f:=partR S x.qd.qb x.qd.qa v (instR S body)) (B:=252 ^ body.length) fun n _=>qgl (UE S body) n
   rw[List.length_range']at this;rw[List.length_cons,Nat.pow_succ];omega
def setB (S:List Bool) (g:rufact):Prop:=okU1 g∧S.getD (codeF g) false=true
theorem UD {S:List Bool}:∀ (body:List ruLit) (v w:List Int),w∈instR S body v↔InstP (setB S) body v w
 | [],v,w=>by simp[instR,InstP]
 | x::body,v,w=>by
  unfold instR InstP
  cases hn:x.qp with
  | true=>simp[UD body v w]
  | false =>
   simp only[Bool.false_eq_true,if_false,false_and,false_or,true_and];rw[List.mem_flatMap]
   constructor
   ·rintro⟨n,hn,hw⟩
    have hn:n<252:=by have:=List.mem_range'_1.1 hn;omega
    unfold partR at hw
    split at hw
    ·rename_i hc
     cases hf:fitA v x.qd.qa (argsF (decF n)) with
     | none=>rw[hf]at hw;simp at hw
     | some u =>
      rw[hf]at hw;exact⟨decF n,u,⟨qit hn,by rw[qhN hn];exact hc.1⟩,hc.2.1,hc.2.2,hf,(UD body u w).1 hw⟩
    ·simp at hw
   ·rintro⟨g,u,hg,h1,h2,h3,h4⟩
    refine⟨codeF g,List.mem_range'_1.2 ⟨by omega,by have:=Zw hg.1;omega⟩,?_⟩;unfold partR;rw[qaB hg.1,if_pos ⟨hg.2,h1,h2⟩,h3];exact (UD body u w).2 h4
theorem Uj (w31:apiFact) (K:List Int→Bool→Option (List (List Int))):∀ (args:List Int) (k:Nat) (v:List Int),arg7 args→k+args.length≤w31.qa.length→v.length=8→∃ u,qH w31 K args k v false=K u false
 | [],k,v,_,_,_=>⟨v,by rw[qH]⟩
 | x::args,k,v,ha,hk,hv=>by
  rw[List.length_cons]at hk;have hx:=ha x (List.mem_cons_self ..)
  have ha':arg7 args:=fun y hy=>ha y (List.mem_cons_of_mem _ hy)
  have hi:idx w31.qa (k:Int)=some w31.qa[k]:=by unfold idx;simp[show k<w31.qa.length by omega]
  rw[qH];unfold Jt
  by_cases hneg:x<0
  ·rw[decide_eq_true hneg,cond_true,cond_false];exact Uj w31 K args (k+1) v ha' (by omega) hv
  ·rw[decide_eq_false hneg,cond_false,VK (dec8 (by omega) hx.2),get8 hv (by omega) hx.2];simp only[Option.bind_some]
   by_cases hz:v.getD x.toNat 0=0
   ·rw[show (v.getD x.toNat 0 != 0)=false by simp only[hz,bne_self_eq_false],cond_false,hi];simp only[Option.bind_some];rw[VK (dec8 (by omega) hx.2),VK (decide_eq_true (by omega))];exact Uj w31 K args (k+1) _ ha' (by omega) (by rw[List.length_set,hv])
   ·rw[show (v.getD x.toNat 0 != 0)=true from bne_iff_ne.2 hz,cond_true,cond_false];exact Uj w31 K args (k+1) v ha' (by omega) hv
theorem NP (w31:apiFact) (K:List Int→Bool→Option (List (List Int))):∀ (args:List Int) (k:Nat) (v:List Int),arg7 args→k+args.length≤w31.qa.length→v.length=8 →
  match fitA v args (w31.qa.drop k) with
  | some u=>qH w31 K args k v true=K u true
  | none=>∃ u,qH w31 K args k v true=K u false
 | [],k,v,_,_,_=>by
  rw[fitA];show qH w31 K [] k v true=_;rw[qH]
 | x::args,k,v,ha,hk,hv=>by
  rw[List.length_cons]at hk;have hx:=ha x (List.mem_cons_self ..)
  have ha':arg7 args:=fun y hy=>ha y (List.mem_cons_of_mem _ hy)
  have hi:idx w31.qa (k:Int)=some w31.qa[k]:=by unfold idx;simp[show k<w31.qa.length by omega]
  have hd:w31.qa.drop k=w31.qa[k]::w31.qa.drop (k+1):=List.drop_eq_getElem_cons (by omega);rw[qH,hd];unfold Jt fitA
  by_cases hneg:x<0
  ·rw[decide_eq_true hneg,cond_true,cond_true,hi,if_pos hneg,wrap64 (by omega) (by omega)];simp only[Option.bind_some]
   by_cases hq:0 - x=w31.qa[k]
   ·rw[if_pos hq,show (w31.qa[k] == 0 - x)=true from beq_iff_eq.2 hq.symm];exact NP w31 K args (k+1) v ha' (by omega) hv
   ·rw[if_neg hq,show (w31.qa[k] == 0 - x)=false from beq_eq_false_iff_ne.2 (fun h=>hq h.symm)];exact Uj w31 K args (k+1) v ha' (by omega) hv
  ·rw[decide_eq_false hneg,cond_false,if_neg hneg,VK (dec8 (by omega) hx.2),get8 hv (by omega) hx.2];simp only[Option.bind_some]
   by_cases hz:v.getD x.toNat 0=0
   ·rw[show (v.getD x.toNat 0 != 0)=false by simp only[hz,bne_self_eq_false],cond_false,hi,if_neg (fun h=>h.1 hz)];simp only[Option.bind_some];rw[VK (dec8 (by omega) hx.2),VK (decide_eq_true (by omega)),Nat.zero_add,Nat.mul_one];exact NP w31 K args (k+1) _ ha' (by omega) (by rw[List.length_set,hv])
   ·rw[show (v.getD x.toNat 0 != 0)=true from bne_iff_ne.2 hz,cond_true,cond_true,hi];simp only[Option.bind_some];rw[VK (dec8 (by omega) hx.2)]
    by_cases hq:v.getD x.toNat 0=w31.qa[k]
    ·rw[if_neg (fun h=>h.2 hq),show (w31.qa[k] == v.getD x.toNat 0)=true from beq_iff_eq.2 hq.symm,set8 hq];exact NP w31 K args (k+1) v ha' (by omega) hv
    ·rw[if_pos ⟨hz,hq⟩,show (w31.qa[k] == v.getD x.toNat 0)=false from beq_eq_false_iff_ne.2 (fun h=>hq h.symm)];exact Uj w31 K args (k+1) v ha' (by omega) hv
theorem qcH {r:rf3Rule} {S:List Bool} (hS:S.length=252) {i:Int} {v:List Int} (hv:v.length=8) {x:rf3Lit} (hx:arg7 x.qd.qa) (hx2:x.qd.qa.length≤2) {K0:rf3Rule→List Bool→Int→List Int→Option (List (List Int))} (K22:List (List Int)→Option (List (List Int))) {G:List Int→List (List Int)} {B:Nat}
  (hG:∀ u,u.length=8→K0 r S (IntKind.wrap .i64 (i+1)) u=some (G u)) (hGl:∀ u,(G u).length≤B):∀ (L:List Nat) (k:Nat) (acc:List (List Int)),k+L.length=252→acc.length+L.length * B≤1000000000 →
  jO r S i v x K0 K22 L k acc=K22 (acc++(List.range' k L.length).flatMap (partR S x.qd.qb x.qd.qa v G))
 | [],k,acc,_,_=>by rw[jO];simp
 | y::L,k,acc,hk,hb=>by
  rw[List.length_cons]at hk hb;rw[Nat.succ_mul]at hb
  have hk2:k<252:=by omega
  have hg:S[Int.toNat (k:Int) * 1]? = some (S.getD k false):=by
   rw[Int.toNat_natCast,Nat.mul_one,List.getD_eq_getElem?_getD,List.getElem?_eq_getElem (by omega)];rfl
  rw[jO,VK (decide_eq_true ⟨by omega,by omega⟩),hg,qhX hk2,UN];simp only[Option.bind_some];rw[List.length_cons,List.range'_succ,List.flatMap_cons,← List.append_assoc]
  have no:partR S x.qd.qb x.qd.qa v G k=[]→Ju r S i v x acc ⟨(decF k).qn,argsF (decF k)⟩ K0 (Jv (jO r S i v x K0 K22 L (k+1))) true=K22 ((acc++partR S x.qd.qb x.qd.qa v G k)++(List.range' (k+1) L.length).flatMap (partR S x.qd.qb x.qd.qa v G)):=fun h=>by
   rw[h,List.append_nil];unfold Ju Jv;rw[cond_true];exact qcH hS hv hx hx2 K22 hG hGl L (k+1) acc (by omega) (by omega)
  cases hs:S.getD k false with
  | false =>
   simp only[Bool.not_false,cond_true];exact no (by unfold partR;rw[if_neg (by rw[hs];simp)])
  | true =>
   simp only[Bool.not_true,cond_false]
   by_cases hr:(decF k).qn=x.qd.qb
   ·rw[show ((decF k).qn != x.qd.qb)=false by rw[hr];exact bne_self_eq_false ..,cond_false]
    by_cases hl:(argsF (decF k)).length=x.qd.qa.length
    ·rw[show (((argsF (decF k)).length:Int) != (x.qd.qa.length:Int))=false by rw[hl];exact bne_self_eq_false ..];unfold Ju;rw[cond_false,VK (decide_eq_true hv),VK (decide_eq_true ⟨hv,by simp⟩),VK (qM (by omega))];have h2:=NP ⟨(decF k).qn,argsF (decF k)⟩ (Xm r S i acc K0 (Jv (jO r S i v x K0 K22 L (k+1)))) x.qd.qa 0 v hx (by simp only;omega) hv;rw[List.drop_zero]at h2;simp only at h2
     cases hf:fitA v x.qd.qa (argsF (decF k)) with
     | none =>
      rw[hf]at h2;obtain⟨u,h2⟩:=h2;rw[h2]
      have e:partR S x.qd.qb x.qd.qa v G k=[]:=by
       unfold partR;rw[hf];simp
      have:=no e;unfold Ju at this;rw[cond_true]at this;unfold Xm;rw[cond_false];exact this
     | some u =>
      rw[hf]at h2;replace h2:qH _ _ x.qd.qa 0 v true=_:=h2;rw[h2]
      have e:partR S x.qd.qb x.qd.qa v G k=G u:=by
       unfold partR;rw[hf,if_pos ⟨hs,hr,hl⟩]
      have hu:u.length=8:=by rw[qax hf,hv]
      have hlu:=hGl u;unfold Xm Jv;rw[cond_true,VK (decide_eq_true hS),VK (decide_eq_true hu),hG u hu];simp only[Option.bind_some];rw[VK (Qs (by omega) (by rw[List.length_append];omega)),e];exact qcH hS hv hx hx2 K22 hG hGl L (k+1) (acc++G u) (by omega) (by rw[List.length_append];omega)
    ·rw[show (((argsF (decF k)).length:Int) != (x.qd.qa.length:Int))=true from bne_iff_ne.2 (by omega)];exact no (by unfold partR;rw[if_neg (fun h=>hl h.2.2)])
   ·rw[show ((decF k).qn != x.qd.qb)=true from bne_iff_ne.2 hr,cond_true];exact no (by unfold partR;rw[if_neg (fun h=>hr h.2.1)])
theorem ZQ {r:rf3Rule} (hb:r.qe.length≤3) (hx:∀ x,x∈r.qe→arg7 x.qd.qa∧x.qd.qa.length≤2) {S:List Bool} (hS:S.length=252):∀ (n fuel i:Nat) (v:List Int),i+n=r.qe.length→n+1≤fuel→v.length=8→QH fuel r S (i:Int) v=some (instR S ((r.qe.drop i).map toL) v)
 | 0,fuel+1,i,v,hi,hf,hv=>by
  rw[QH,VK (by cases S <;> simp_all),VK (by cases v <;> simp_all),show ((i:Int) == (r.qe.length:Int))=true from beq_iff_eq.2 (by omega),cond_true,VK (decide_eq_true hv),VK (decide_eq_true hv),List.drop_of_length_le (by omega)];rfl
 | n+1,fuel+1,i,v,hi,hf,hv=>by
  have hil:i<r.qe.length:=by omega
  have hid:idx r.qe (i:Int)=some r.qe[i]:=by unfold idx;simp[hil]
  have hd:r.qe.drop i=r.qe[i]::r.qe.drop (i+1):=List.drop_eq_getElem_cons hil;have hxi:=hx _ (List.getElem_mem hil)
  have ew:IntKind.wrap .i64 ((i:Int)+1)=((i+1:Nat):Int):=by rw[wrap64 (by omega) (by omega)];omega
  rw[QH,VK (by cases S <;> simp_all),VK (by cases v <;> simp_all),show ((i:Int) == (r.qe.length:Int))=false from beq_eq_false_iff_ne.2 (by omega),cond_false,hid,hd];simp only[Option.bind_some,List.map_cons];unfold instR;have en:(toL r.qe[i]).qp=r.qe[i].qp:=rfl;rw[en]
  cases hn:r.qe[i].qp with
  | true =>
   rw[cond_true,VK (decide_eq_true hS),VK (decide_eq_true hv),ew,ZQ hb hx hS n fuel (i+1) v (by omega) (by omega) hv];rfl
  | false =>
   rw[cond_false,VK (decide_eq_true hS),VK (qM (by simp))]
   have hlen:(r.qe.drop (i+1)).length≤2:=by rw[List.length_drop];omega
   rw[qcH hS hv hxi.1 hxi.2 Yo (G:=instR S ((r.qe.drop (i+1)).map toL)) (B:=63504) (fun u hu=>by rw[ew];exact ZQ hb hx hS n fuel (i+1) u (by omega) (by omega) hu) (fun u=>by
    have h1:=UE S ((r.qe.drop (i+1)).map toL) u;rw[List.length_map]at h1;have h2:252 ^ (r.qe.drop (i+1)).length≤252 ^ 2:=Nat.pow_le_pow_right (by omega) hlen
    have:252 ^ 2=63504:=by decide
    omega) (List.range (Int.toNat 252)) 0 [] (by simp) (by simp)]
   unfold Yo;rw[List.nil_append]
   simp
   rfl
end Go.AM
namespace Go.AM
open Go.Proofs
open Classical
def V8 (v:List Int):Prop:=v.length=8∧∀ i,0≤v.getD i 0∧v.getD i 0≤6
def es16 (es:List Int):Prop:=∀ e,e∈es→1≤e∧e≤6
def bnd (w args:List Int):Prop:=∀ x,x∈args→0≤x→w.getD x.toNat 0≠0
theorem qaJ {f:rufact} (h:okU1 f):es16 (argsF f):=by
 have:=h.a1;have:=h.a6;have:=h.b0;have:=h.b6;unfold argsF
 split
 ·intro e he;simp at he;subst he;omega
 ·intro e he;simp only[List.mem_cons,List.not_mem_nil,or_false]at he
  rcases he with rfl | rfl <;> omega
theorem qcp {v:List Int} (n i:Nat) (e:Int) (h:n<v.length):(v.set n e).getD i 0=if i=n then e else v.getD i 0:=by
 simp only[List.getD_eq_getElem?_getD]
 by_cases hi:i=n
 ·subst hi;rw[List.getElem?_set_self h,if_pos rfl];rfl
 ·rw[List.getElem?_set_ne (fun q=>hi q.symm),if_neg hi]
theorem UH:∀ {xs es v u:List Int},fitA v xs es=some u→V8 v→arg7 xs→es16 es→V8 u∧(∀ i,v.getD i 0≠0→u.getD i 0≠0)∧bnd u xs
 | [],es,v,u,h,hv,_,_=>by
  rw[fitA]at h;cases h;exact⟨hv,fun i hi=>hi,fun x hx=>by simp at hx⟩
 | x::xs,[],v,u,h,_,_,_=>by cases h
 | x::xs,e::es,v,u,h,hv,ha,he=>by
  have hx:=ha x (List.mem_cons_self ..)
  have ha':arg7 xs:=fun y hy=>ha y (List.mem_cons_of_mem _ hy)
  have h1:=he e (List.mem_cons_self ..)
  have he':es16 es:=fun y hy=>he y (List.mem_cons_of_mem _ hy)
  unfold fitA at h
  split at h
  ·rename_i hneg
   split at h
   ·obtain⟨a,b,c⟩:=UH h hv ha' he';refine⟨a,b,fun y hy h0=>?_⟩
    rcases List.mem_cons.1 hy with rfl | hy
    ·omega
    ·exact c y hy h0
   ·cases h
  ·rename_i hneg
   split at h
   ·cases h
   ·have hlt:x.toNat<v.length:=by rw[hv.1];omega
    have hv':V8 (v.set x.toNat e):=⟨by rw[List.length_set,hv.1],fun i=>by
     rw[qcp _ _ _ hlt];have:=hv.2 i
     split <;> omega⟩
    obtain⟨a,b,c⟩:=UH h hv' ha' he'
    have hq:∀ i,v.getD i 0≠0→(v.set x.toNat e).getD i 0≠0:=fun i hi=>by
     rw[qcp _ _ _ hlt]
     split
     ·omega
     ·exact hi
    refine⟨a,fun i hi=>b i (hq i hi),fun y hy h0=>?_⟩
    rcases List.mem_cons.1 hy with rfl | hy
    ·exact b _ (by rw[qcp _ _ _ hlt,if_pos rfl];omega)
    ·exact c y hy h0
def okW (P:rufact→Prop):Prop:=∀ g,P g→okU1 g
theorem Nv {P:rufact→Prop} (hP:okW P):∀ {body:List ruLit} {v w:List Int},InstP P body v w→V8 v→(∀ x,x∈body→arg7 x.qd.qa)→V8 w∧(∀ i,v.getD i 0≠0→w.getD i 0≠0)∧∀ x,x∈body→x.qp=false→bnd w x.qd.qa
 | [],v,w,h,hv,_=>by
  have h:w=v:=h;subst h;exact⟨hv,fun i hi=>hi,fun x hx=>by simp at hx⟩
 | x::body,v,w,h,hv,ha=>by
  have ha':∀ y,y∈body→arg7 y.qd.qa:=fun y hy=>ha y (List.mem_cons_of_mem _ hy)
  rcases h with ⟨hn,h⟩ | ⟨hn,g,u,hg,h1,h2,h3,h4⟩
  ·obtain⟨a,b,c⟩:=Nv hP h hv ha';refine⟨a,b,fun y hy h0=>?_⟩
   rcases List.mem_cons.1 hy with rfl | hy
   ·rw[hn]at h0;cases h0
   ·exact c y hy h0
  ·obtain⟨a1,b1,c1⟩:=UH h3 hv (ha x (List.mem_cons_self ..)) (qaJ (hP g hg));obtain⟨a,b,c⟩:=Nv hP h4 a1 ha';refine⟨a,fun i hi=>b i (b1 i hi),fun y hy h0=>?_⟩
   rcases List.mem_cons.1 hy with rfl | hy
   ·exact fun z hz h0=>b _ (c1 z hz h0)
   ·exact c y hy h0
theorem VJ {P Q:rufact→Prop} (h:∀ g,P g→Q g):∀ {body:List ruLit} {v w:List Int},InstP P body v w→InstP Q body v w
 | [],v,w,hi=>hi
 | x::body,v,w,hi=>by
  rcases hi with ⟨hn,hi⟩ | ⟨hn,g,u,hg,h1,h2,h3,h4⟩
  ·exact .inl ⟨hn,VJ h hi⟩
  ·exact .inr ⟨hn,g,u,h g hg,h1,h2,h3,VJ h h4⟩
theorem qeW {w args:List Int} (hw:V8 w) (ha:arg7 args) (hb:bnd w args):es16 (groundA w args):=by
 intro e he;unfold groundA at he;obtain⟨x,hx,rfl⟩:=List.mem_map.1 he;have:=ha x hx
 split
 ·omega
 ·have h1:=hb x hx (by omega);have h2:=hw.2 x.toNat;omega
theorem qho {rel:Int} (hr:rel6 rel):∀ {g:List Int},(1≤g.length∧g.length≤2)→es16 g→okU1 (mkF rel g)∧argsF (mkF rel g)=g
 | [],h,_=>by simp at h
 | [a],_,h=>by
  have h1:=h a (by simp);exact⟨⟨hr.1,hr.2,h1.1,h1.2,(show (0:Int)≤0 by decide),(show (0:Int)≤6 by decide)⟩,rfl⟩
 | [a,b],_,h=>by
  have h1:=h a (by simp);have h2:=h b (by simp);refine⟨⟨hr.1,hr.2,h1.1,h1.2,(show 0≤b by omega),h2.2⟩,?_⟩;show (if b=0 then [a] else [a,b])=[a,b];rw[if_neg (by omega)]
 | a::b::c::r,h,_=>by simp at h
theorem Yi {rel:Int} {args:List Int} (h:fitP rel args):arg7 args:=h.2.2
theorem Vl {rel:Int} {args:List Int} (h:fitP rel args):rel6 rel:=h.1
theorem VD {w:List Int} {a:ql} (hw:V8 w) (ha:fitP a.qb a.qa) (hb:bnd w a.qa):okU1 (groundF w a)∧argsF (groundF w a)=groundA w a.qa∧(groundF w a).qn=a.qb:=by
 have h:=qho (Vl ha) (g:=groundA w a.qa) (by unfold groundA;rw[List.length_map];exact ha.2.1) (qeW hw (Yi ha) hb);exact⟨h.1,h.2,rfl⟩
theorem qao {w:List Int} (hw:V8 w) (K:List Int→Option Int):∀ (args:List Int) (k:Nat) (acc:List Int),arg7 args→acc.length+args.length≤1000→XD w K args k acc=K (acc++groundA w args)
 | [],k,acc,_,_=>by rw[XD];simp[groundA]
 | x::args,k,acc,ha,hl=>by
  have hx:=ha x (List.mem_cons_self ..)
  have ha':arg7 args:=fun y hy=>ha y (List.mem_cons_of_mem _ hy)
  rw[List.length_cons]at hl;rw[XD];unfold Vv
  have e:acc++groundA w (x::args)=(acc++[if x<0 then 0 - x else w.getD x.toNat 0])++groundA w args:=by
   unfold groundA;simp
  by_cases hneg:x<0
  ·rw[decide_eq_true hneg,cond_true,wrap64 (by omega) (by omega),VK (Qs (by omega) (by simp;omega)),qao hw K args (k+1) _ ha' (by simp;omega),e,if_pos hneg]
  ·rw[decide_eq_false hneg,cond_false,VK (dec8 (by omega) hx.2),get8 hw.1 (by omega) hx.2];simp only[Option.bind_some];rw[VK (Qs (by omega) (by simp;omega)),qao hw K args (k+1) _ ha' (by simp;omega),e,if_neg hneg]
theorem qbH {w:List Int} {a:rf2Atom} (hw:V8 w) (ha:fitP a.qb a.qa) (hb:bnd w a.qa):Ve a w=some (codeF (groundF w (toA a)):Int):=by
 have hne:w≠[]:=by intro h;have:=hw.1;rw[h]at this;cases this
 obtain⟨h1,h2,h3⟩:=VD (a:=toA a) hw ha hb;unfold Ve;rw[VK (by cases w <;> simp_all),VK (qM (by have:=ha.2.1;omega)),qao hw _ _ _ _ (Yi ha) (by have:=ha.2.1;simp;omega)];unfold NF;have:=qaC h1;rw[h2,h3]at this;rw[List.nil_append];replace this:YN a.qb (groundA w a.qa)=_:=this;rw[this];rfl
def FreeP (N:rufact→Prop) (w:List Int) (body:List ruLit):Prop:=∀ x,x∈body→x.qp=true→¬ N (groundF w x.qd)
theorem qfH {w:List Int} (hw:V8 w) {S:List Bool} (hS:S.length=252) (K:Option Bool):∀ (body:List rf3Lit) (k:Nat),(∀ x,x∈body→x.qp=true→fitP x.qd.qb x.qd.qa∧bnd w x.qd.qa)→Ye w S K body k=if FreeP (setB S) w (body.map toL) then K else some false
 | [],k,_=>by rw[Ye,if_pos (show FreeP _ _ _ from fun x hx=>by simp at hx)]
 | x::body,k,h=>by
  have ih:=qfH hw hS K body (k+1) fun y hy=>h y (List.mem_cons_of_mem _ hy)
  have hc:FreeP (setB S) w ((x::body).map toL)↔(x.qp=true→¬ setB S (groundF w (toA x.qd)))∧FreeP (setB S) w (body.map toL):=by
   unfold FreeP;simp only[List.map_cons,List.mem_cons,forall_eq_or_imp];rfl
  rw[Ye];unfold Vw;rw[ih]
  cases hn:x.qp with
  | false =>
   rw[cond_false,cond_false]
   by_cases hq:FreeP (setB S) w (body.map toL)
   ·rw[if_pos hq,if_pos (hc.2 ⟨fun h=>(by rw[hn]at h;cases h),hq⟩)]
   ·rw[if_neg hq,if_neg (fun h=>hq (hc.1 h).2)]
  | true =>
   obtain⟨h1,h2⟩:=h x (List.mem_cons_self ..) hn;have hok:=(VD (a:=toA x.qd) hw h1 h2).1;have hlt:=Zw hok;rw[cond_true,VK (decide_eq_true hw.1),qbH hw h1 h2];simp only[Option.bind_some];rw[VK (decide_eq_true ⟨by omega,by omega,by omega⟩),Nat.zero_add,Nat.mul_one,Int.toNat_natCast,List.getElem?_eq_getElem (by omega)];simp only[Option.bind_some]
   have hg:S[codeF (groundF w (toA x.qd))]=S.getD (codeF (groundF w (toA x.qd))) false:=by
    rw[List.getD_eq_getElem?_getD,List.getElem?_eq_getElem (by omega)];rfl
   rw[hg]
   cases hs:S.getD (codeF (groundF w (toA x.qd))) false with
   | true =>
    rw[cond_true,if_neg (fun q=>(hc.1 q).1 hn ⟨hok,hs⟩)]
   | false =>
    rw[cond_false]
    by_cases hq:FreeP (setB S) w (body.map toL)
    ·rw[if_pos hq,if_pos (hc.2 ⟨fun _ q=>(by have:=q.2;rw[hs]at this;cases this),hq⟩)]
    ·rw[if_neg hq,if_neg (fun h=>hq (hc.1 h).2)]
theorem qhC {w:List Int} (hw:V8 w) {S:List Bool} (hS:S.length=252) {r:rf3Rule} (hl:r.qe.length≤3) (h:∀ x,x∈r.qe→x.qp=true→fitP x.qd.qb x.qd.qa∧bnd w x.qd.qa):qab r w S=some (decide (FreeP (setB S) w (toR r).qe)):=by
 unfold qab;rw[VK (by have:=hw.1;cases w <;> simp_all),VK (by cases S <;> simp_all),VK (qM (by omega)),qfH hw hS _ _ _ h];unfold Dc;show _=some (decide (FreeP (setB S) w (r.qe.map toL)))
 by_cases hq:FreeP (setB S) w (r.qe.map toL)
 ·rw[if_pos hq,decide_eq_true hq]
 ·rw[if_neg hq,decide_eq_false hq]
theorem VP {i:Int} (h1 : -1000≤i) (h2:i≤1000):wfI .i64 i=true:=by
 unfold wfI Lit.wf
 simp[IntKind.min,IntKind.max,IntKind.signed,IntKind.bits]
 omega
theorem qbF {w:List Int} (hw:V8 w) {a:ql} (ha:fitP a.qb a.qa):wfF (groundF w a)=true:=by
 have hr:=Vl ha
 have hA:∀ e,e∈groundA w a.qa→0≤e∧e≤6:=fun e he=>by
  unfold groundA at he;obtain⟨x,hx,rfl⟩:=List.mem_map.1 he;have:=Yi ha x hx;have:=hw.2 x.toNat
  split <;> omega
 have hg:∀ i,0≤(groundA w a.qa).getD i 0∧(groundA w a.qa).getD i 0≤6:=fun i=>by
  rw[List.getD_eq_getElem?_getD]
  cases hi:(groundA w a.qa)[i]? with
  | none=>exact⟨by decide,by decide⟩
  | some e=>exact hA e (List.mem_of_getElem? hi)
 have h0:=hg 0;have h1:=hg 1;have:=hr.1;have:=hr.2;unfold wfF
 have wf:∀ n:Int,0≤n→n≤6→wfI .i64 n=true:=fun n a b=>by
  exact VP (by omega) (by omega)
 show (wfI .i64 a.qb && wfI .i64 ((groundA w a.qa).getD 0 0) && wfI .i64 ((groundA w a.qa).getD 1 0))=true;rw[wf _ (by omega) (by omega),wf _ h0.1 h0.2,wf _ h1.1 h1.2];rfl
theorem qbI {no:List (rufact×Bool)} (hno:NT no) {w:List Int} (hw:V8 w):∀ (body:List ruLit),(∀ x,x∈body→fitP x.qd.qb x.qd.qa)→freeP no w body=some (decide (FreeP (fun g=>g∈no.map Prod.fst) w body))
 | [],_=>by unfold freeP;rw[decide_eq_true (show FreeP _ _ _ from fun x hx=>by simp at hx)]
 | x::body,h=>by
  have ih:=qbI hno hw body fun y hy=>h y (List.mem_cons_of_mem _ hy)
  have hx:=h x (List.mem_cons_self ..)
  have hc:FreeP (fun g=>g∈no.map Prod.fst) w (x::body)↔(x.qp=true→groundF w x.qd ∉ no.map Prod.fst)∧FreeP (fun g=>g∈no.map Prod.fst) w body:=by
   unfold FreeP;simp only[List.mem_cons,forall_eq_or_imp]
  unfold freeP
  cases hn:x.qp with
  | false =>
   rw[cond_false,ih]
   congr 1
   refine decide_eq_decide.2 ?_;rw[hc];exact⟨fun q=>⟨fun h=>(by rw[hn]at h;cases h),q⟩,fun q=>q.2⟩
  | true =>
   rw[cond_true,Dh hw.1 (Yi hx) hx.2.1.2];simp only[Option.bind_some];rw[VK (qbF hw hx)]
   by_cases hm:groundF w x.qd∈no.map Prod.fst
   ·rw[(NT.mget hno.t _).2 hm,cond_true,decide_eq_false (fun q=>(hc.1 q).1 hn hm)]
   ·rw[show mget qm false (groundF w x.qd) no=false by
     rw[← Bool.not_eq_true];exact fun q=>hm ((NT.mget hno.t _).1 q),cond_false,ih]
    congr 1
    refine decide_eq_decide.2 ?_;rw[hc];exact⟨fun q=>⟨fun _=>hm,q⟩,fun q=>q.2⟩
theorem qfc {xs:List Int}:∀ {es fs v:List Int},xs.length=es.length→fitA v xs (es++fs)=fitA v xs es:=by
 induction xs with
 | nil=>intro es fs v h;rw[fitA,fitA]
 | cons x xs ih =>
  intro es fs v h
  cases es with
  | nil=>cases h
  | cons e es =>
   rw[List.cons_append];unfold fitA
   have h:xs.length=es.length:=by simpa using h
   simp only[ih h]
theorem qir {f:rufact} {v args:List Int} (h:(argsF f).length=args.length):fitA v args [f.f_a,f.f_b]=fitA v args (argsF f):=by
 unfold argsF at h ⊢
 split
 ·rename_i hb;rw[if_pos hb]at h;exact qfc (es:=[f.f_a]) (fs:=[f.f_b]) (by simpa using h.symm)
 ·rfl
theorem qdM {k:List Int→Option (List (List Int))} {a:ql} (ha:arg7 a.qa) (hl:a.qa.length≤2) {v:List Int} (hv:V8 v) {B:Nat} {Q:List Int→List Int→Prop} (hk:∀ u,V8 u→∃ d,k u=some d∧d.length≤B∧∀ w,w∈d↔Q u w):∀ (gs:List rufact),(∀ g,g∈gs→okU1 g∧g.qn=a.qb∧(argsF g).length=a.qa.length) →
  ∃ o,fitL k a v gs=some o∧o.length≤gs.length * B∧∀ w,w∈o↔∃ g u,g∈gs∧fitA v a.qa (argsF g)=some u∧Q u w
 | [],_=>⟨[],rfl,by simp,fun w=>by simp⟩
 | g::gs,h=>by
  obtain⟨o,h1,h2,h3⟩:=qdM ha hl hv hk gs fun q hq=>h q (List.mem_cons_of_mem _ hq)
  obtain⟨g1,g2,g3⟩:=h g (List.mem_cons_self ..);obtain⟨p,p1,p2,p3⟩:=qgy (f:=g) (a:=a) g2.symm hv.1 ha hl;rw[qir g3]at p2 p3;unfold fitL;rw[p1];simp only[Option.bind_some]
  cases hf:fitA v a.qa (argsF g) with
  | none =>
   have:p.2=false:=by rw[← Bool.not_eq_true,p2,hf];simp
   rw[this,cond_false];simp only[Option.bind_some];rw[h1];simp only[Option.bind_some];refine⟨_,rfl,by simp only[List.nil_append,List.length_cons,Nat.succ_mul];omega,fun w=>?_⟩;rw[List.nil_append,h3]
   constructor
   ·rintro⟨q,u,hq,r⟩;exact⟨q,u,List.mem_cons_of_mem _ hq,r⟩
   ·rintro⟨q,u,hq,r1,r2⟩
    rcases List.mem_cons.1 hq with rfl | hq
    ·rw[hf]at r1;cases r1
    ·exact⟨q,u,hq,r1,r2⟩
  | some u =>
   have:p.2=true:=by rw[p2,hf];rfl
   rw[this,cond_true,p3 u hf];obtain⟨hu,_,_⟩:=UH hf hv ha (qaJ g1);obtain⟨d,d1,d2,d3⟩:=hk u hu;rw[d1];simp only[Option.bind_some];rw[h1];simp only[Option.bind_some];refine⟨_,rfl,by rw[List.length_append,List.length_cons,Nat.succ_mul];omega,fun w=>?_⟩;rw[List.mem_append,d3,h3]
   constructor
   ·rintro (q | ⟨q,u',hq,r⟩)
    ·exact⟨g,u,List.mem_cons_self ..,hf,q⟩
    ·exact⟨q,u',List.mem_cons_of_mem _ hq,r⟩
   ·rintro⟨q,u',hq,r1,r2⟩
    rcases List.mem_cons.1 hq with rfl | hq
    ·rw[hf]at r1;cases r1;exact .inl r2
    ·exact .inr ⟨q,u',hq,r1,r2⟩
def arW (ar:Int→Nat) (P:rufact→Prop):Prop:=∀ g,P g→okU1 g∧(argsF g).length=ar g.qn
theorem qdc {ar:Int→Nat} {no:List (rufact×Bool)} (hno:NT no) {bl:List (Int×List rufact)} {fs:List rufact} (hfs:fs.length≤252) (har:arW ar fun g=>g∈fs) (hbl:∀ rel,mget keq1 [] rel bl=fs.filter fun f=>f.qn == rel) {all:List ruLit} (hall:∀ x,x∈all→fitP x.qd.qb x.qd.qa):∀ (body:List ruLit) (v:List Int),(∀ x,x∈body→fitP x.qd.qb x.qd.qa∧x.qd.qa.length=ar x.qd.qb)→V8 v →
  ∃ d,tryP all no bl body v=some d∧d.length≤252 ^ body.length∧∀ w,w∈d↔InstP (fun g=>g∈fs) body v w∧FreeP (fun g=>g∈no.map Prod.fst) w all
 | [],v,_,hv=>by
  unfold tryP;rw[qbI hno hv all hall];simp only[Option.bind_some];refine⟨_,rfl,?_,fun w=>?_⟩
  ·by_cases hq:FreeP (fun g=>g∈no.map Prod.fst) v all
   ·rw[decide_eq_true hq];simp
   ·rw[decide_eq_false hq];simp
  ·show _↔w=v∧_
   by_cases hq:FreeP (fun g=>g∈no.map Prod.fst) v all
   ·rw[decide_eq_true hq,cond_true,List.mem_singleton];exact⟨fun h=>⟨h,by rw[h];exact hq⟩,fun h=>h.1⟩
   ·rw[decide_eq_false hq,cond_false];exact⟨fun h=>by simp at h,fun h=>absurd (h.1 ▸ h.2) hq⟩
 | x::body,v,h,hv=>by
  have hx:=h x (List.mem_cons_self ..)
  have ih:=fun u hu=>qdc hno hfs har hbl hall body u (fun y hy=>h y (List.mem_cons_of_mem _ hy)) hu
  unfold tryP
  cases hn:x.qp with
  | true =>
   rw[cond_true];obtain⟨d,d1,d2,d3⟩:=ih v hv;refine⟨d,d1,by rw[List.length_cons,Nat.pow_succ];omega,fun w=>?_⟩;rw[d3,InstP.eq_2];simp only[hn,true_and,Bool.true_eq_false,false_and,or_false]
  | false =>
   have hr:=Vl hx.1;rw[cond_false,VK (VP (by have:=hr.1;omega) (by have:=hr.2;omega)),hbl]
   obtain⟨o,o1,o2,o3⟩:=qdM (k:=tryP all no bl body) (Yi hx.1) hx.1.2.1.2 hv (B:=252 ^ body.length) (Q:=fun u w=>InstP (fun g=>g∈fs) body u w∧FreeP (fun g=>g∈no.map Prod.fst) w all) ih (fs.filter fun f=>f.qn == x.qd.qb) (fun g hg=>by
    obtain⟨g1,g2⟩:=List.mem_filter.1 hg
    have g2:g.qn=x.qd.qb:=by simpa using g2
    obtain⟨g3,g4⟩:=har g g1
    exact⟨g3,g2,by rw[g4,g2,hx.2]⟩)
   refine⟨o,o1,?_,fun w=>?_⟩
   ·rw[List.length_cons,Nat.pow_succ,Nat.mul_comm];have:(fs.filter fun f=>f.qn == x.qd.qb).length≤252:=Nat.le_trans (List.length_filter_le ..) hfs;exact Nat.le_trans o2 (Nat.mul_le_mul_right _ this)
   ·rw[o3]
    have ei:InstP (fun g=>g∈fs) (x::body) v w↔∃ g u,g∈fs∧g.qn=x.qd.qb∧(argsF g).length=x.qd.qa.length∧fitA v x.qd.qa (argsF g)=some u∧InstP (fun g=>g∈fs) body u w:=by
     rw[InstP.eq_2]
     simp[hn]
    rw[ei]
    constructor
    ·rintro⟨g,u,hg,h1,h2,h3⟩
     obtain⟨g1,g2⟩:=List.mem_filter.1 hg
     have g2:g.qn=x.qd.qb:=by simpa using g2
     exact⟨⟨g,u,g1,g2,by rw[(har g g1).2,g2,hx.2],h1,h2⟩,h3⟩
    ·rintro⟨⟨g,u,g1,g2,g3,h1,h2⟩,h3⟩
     exact⟨g,u,List.mem_filter.2 ⟨g1,by simp[g2]⟩,h1,h2,h3⟩
end Go.AM
