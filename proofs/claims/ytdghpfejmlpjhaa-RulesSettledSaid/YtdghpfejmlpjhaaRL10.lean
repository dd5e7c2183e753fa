/- s -/
import Derived.Test.YtdghpfejmlpjhaaRL9
set_option maxRecDepth 100000
set_option linter.unusedVariables false
set_option linter.unusedSimpArgs false
namespace Go.AM
open Go.Proofs
open Classical
def toA (a:rf2Atom):qj:=⟨a.qb,a.qa⟩
def toL (x:rf3Lit):ruLit:=⟨x.qo,toA x.qe⟩
def toR (r:rf3Rule):ruRule:=⟨toA r.qf,r.qd.map toL⟩
theorem qgW {a:rf2Atom} (h:fitP a.qb a.qa):cvA a=toA a:=by
 unfold cvA toA;rw[VW h]
theorem qgU {r:rf3Rule} (h:okR r):cvR r=toR r:=by
 unfold cvR toR;rw[qgW h.1,List.take_of_length_le (by have:=h.2.1;omega)]
 congr 1
 refine List.map_congr_left fun x hx=>?_
 unfold cvL toL;rw[qgW (h.2.2.1 x hx)]
def InstP (P:rufact→Prop):List ruLit→List Int→List Int→Prop
 | [],v,w=>w=v
 | x::body,v,w=>(x.qo=true∧InstP P body v w)∨(x.qo=false∧∃ g u,P g∧g.qh=x.qe.qb∧(argsF g).length=x.qe.qa.length∧fitA v x.qe.qa (argsF g)=some u∧InstP P body u w)
def partR (S:List Bool) (rel:Int) (args v:List Int) (G:List Int→List (List Int)) (n:Nat):List (List Int) :=
 if S.getD n false=true∧(decF n).qh=rel∧(argsF (decF n)).length=args.length then (match fitA v args (argsF (decF n)) with | some u=>G u | none=>[]) else []
def instR (S:List Bool):List ruLit→List Int→List (List Int)
 | [],v=>[v]
 | x::body,v=>if x.qo=true then instR S body v else (List.range' 0 252).flatMap (partR S x.qe.qb x.qe.qa v (instR S body))
theorem qcR {α β:Type} {f:α→List β} {B:Nat}:∀ {l:List α},(∀ x,x∈l→(f x).length≤B)→(l.flatMap f).length≤l.length * B
 | [],_=>by simp
 | a::l,h=>by
  have h1:=h a (List.mem_cons_self ..)
  have h2:=qcR (l:=l) fun x hx=>h x (List.mem_cons_of_mem _ hx)
  rw[List.flatMap_cons,List.length_append,List.length_cons,Nat.succ_mul];omega
theorem qfr {S:List Bool} {rel:Int} {args v:List Int} {G:List Int→List (List Int)} {B:Nat} (h:∀ u,(G u).length≤B) (n:Nat):(partR S rel args v G n).length≤B:=by
 unfold partR
 split
 ·split
  ·exact h _
  ·simp
 ·simp
theorem VT (S:List Bool):∀ (body:List ruLit) (v:List Int),(instR S body v).length≤252 ^ body.length
 | [],v=>by simp[instR]
 | x::body,v=>by
  unfold instR
  split
  ·have:=VT S body v;rw[List.length_cons,Nat.pow_succ];omega
  ·have:=qcR (l:=List.range' 0 252) (f:=partR S x.qe.qb x.qe.qa v (instR S body)) (B:=252 ^ body.length) fun n _=>qfr (VT S body) n
   rw[List.length_range']at this;rw[List.length_cons,Nat.pow_succ];omega
def setB (S:List Bool) (g:rufact):Prop:=okU1 g∧S.getD (codeF g) false=true
theorem VS {S:List Bool}:∀ (body:List ruLit) (v w:List Int),w∈instR S body v↔InstP (setB S) body v w
 | [],v,w=>by simp[instR,InstP]
 | x::body,v,w=>by
  unfold instR InstP
  cases hn:x.qo with
  | true=>simp[VS body v w]
  | false =>
   simp only[Bool.false_eq_true,if_false,false_and,false_or,true_and];rw[List.mem_flatMap]
   constructor
   ·rintro⟨n,hn,hw⟩
    have hn:n<252:=by have:=List.mem_range'_1.1 hn;omega
    unfold partR at hw
    split at hw
    ·rename_i hc
     cases hf:fitA v x.qe.qa (argsF (decF n)) with
     | none=>rw[hf]at hw;simp at hw
     | some u =>
      rw[hf]at hw;exact⟨decF n,u,⟨Ua hn,by rw[XH hn];exact hc.1⟩,hc.2.1,hc.2.2,hf,(VS body u w).1 hw⟩
    ·simp at hw
   ·rintro⟨g,u,hg,h1,h2,h3,h4⟩
    refine⟨codeF g,List.mem_range'_1.2 ⟨by omega,by have:=YN hg.1;omega⟩,?_⟩;unfold partR;rw[Nk hg.1,if_pos ⟨hg.2,h1,h2⟩,h3];exact (VS body u w).2 h4
theorem Vv (w31:apiFact) (K:List Int→Bool→Option (List (List Int))):∀ (args:List Int) (k:Nat) (v:List Int),arg7 args→k+args.length≤w31.qa.length→v.length=8→∃ u,qF w31 K args k v false=K u false
 | [],k,v,_,_,_=>⟨v,by rw[qF]⟩
 | x::args,k,v,ha,hk,hv=>by
  rw[List.length_cons]at hk;have hx:=ha x (List.mem_cons_self ..)
  have ha':arg7 args:=fun y hy=>ha y (List.mem_cons_of_mem _ hy)
  have hi:idx w31.qa (k:Int)=some w31.qa[k]:=by unfold idx;simp[show k<w31.qa.length by omega]
  rw[qF];unfold jO
  by_cases hneg:x<0
  ·rw[decide_eq_true hneg,cond_true,cond_false];exact Vv w31 K args (k+1) v ha' (by omega) hv
  ·rw[decide_eq_false hneg,cond_false,ZU (dec8 (by omega) hx.2),get8 hv (by omega) hx.2];simp only[Option.bind_some]
   by_cases hz:v.getD x.toNat 0=0
   ·rw[show (v.getD x.toNat 0 != 0)=false by simp only[hz,bne_self_eq_false],cond_false,hi];simp only[Option.bind_some];rw[ZU (dec8 (by omega) hx.2),ZU (decide_eq_true (by omega))];exact Vv w31 K args (k+1) _ ha' (by omega) (by rw[List.length_set,hv])
   ·rw[show (v.getD x.toNat 0 != 0)=true from bne_iff_ne.2 hz,cond_true,cond_false];exact Vv w31 K args (k+1) v ha' (by omega) hv
theorem Nd (w31:apiFact) (K:List Int→Bool→Option (List (List Int))):∀ (args:List Int) (k:Nat) (v:List Int),arg7 args→k+args.length≤w31.qa.length→v.length=8 →
  match fitA v args (w31.qa.drop k) with
  | some u=>qF w31 K args k v true=K u true
  | none=>∃ u,qF w31 K args k v true=K u false
 | [],k,v,_,_,_=>by
  rw[fitA];show qF w31 K [] k v true=_;rw[qF]
 | x::args,k,v,ha,hk,hv=>by
  rw[List.length_cons]at hk;have hx:=ha x (List.mem_cons_self ..)
  have ha':arg7 args:=fun y hy=>ha y (List.mem_cons_of_mem _ hy)
  have hi:idx w31.qa (k:Int)=some w31.qa[k]:=by unfold idx;simp[show k<w31.qa.length by omega]
  have hd:w31.qa.drop k=w31.qa[k]::w31.qa.drop (k+1):=List.drop_eq_getElem_cons (by omega);rw[qF,hd];unfold jO fitA
  by_cases hneg:x<0
  ·rw[decide_eq_true hneg,cond_true,cond_true,hi,if_pos hneg,wrap64 (by omega) (by omega)];simp only[Option.bind_some]
   by_cases hq:0 - x=w31.qa[k]
   ·rw[if_pos hq,show (w31.qa[k] == 0 - x)=true from beq_iff_eq.2 hq.symm];exact Nd w31 K args (k+1) v ha' (by omega) hv
   ·rw[if_neg hq,show (w31.qa[k] == 0 - x)=false from beq_eq_false_iff_ne.2 (fun h=>hq h.symm)];exact Vv w31 K args (k+1) v ha' (by omega) hv
  ·rw[decide_eq_false hneg,cond_false,if_neg hneg,ZU (dec8 (by omega) hx.2),get8 hv (by omega) hx.2];simp only[Option.bind_some]
   by_cases hz:v.getD x.toNat 0=0
   ·rw[show (v.getD x.toNat 0 != 0)=false by simp only[hz,bne_self_eq_false],cond_false,hi,if_neg (fun h=>h.1 hz)];simp only[Option.bind_some];rw[ZU (dec8 (by omega) hx.2),ZU (decide_eq_true (by omega)),Nat.zero_add,Nat.mul_one];exact Nd w31 K args (k+1) _ ha' (by omega) (by rw[List.length_set,hv])
   ·rw[show (v.getD x.toNat 0 != 0)=true from bne_iff_ne.2 hz,cond_true,cond_true,hi];simp only[Option.bind_some];rw[ZU (dec8 (by omega) hx.2)]
    by_cases hq:v.getD x.toNat 0=w31.qa[k]
    ·rw[if_neg (fun h=>h.2 hq),show (w31.qa[k] == v.getD x.toNat 0)=true from beq_iff_eq.2 hq.symm,set8 hq];exact Nd w31 K args (k+1) v ha' (by omega) hv
    ·rw[if_pos ⟨hz,hq⟩,show (w31.qa[k] == v.getD x.toNat 0)=false from beq_eq_false_iff_ne.2 (fun h=>hq h.symm)];exact Vv w31 K args (k+1) v ha' (by omega) hv
theorem qbP {r:rf3Rule} {S:List Bool} (hS:S.length=252) {i:Int} {v:List Int} (hv:v.length=8) {x:rf3Lit} (hx:arg7 x.qe.qa) (hx2:x.qe.qa.length≤2) {K0:rf3Rule→List Bool→Int→List Int→Option (List (List Int))} (K22:List (List Int)→Option (List (List Int))) {G:List Int→List (List Int)} {B:Nat}
  (hG:∀ u,u.length=8→K0 r S (IntKind.wrap .i64 (i+1)) u=some (G u)) (hGl:∀ u,(G u).length≤B):∀ (L:List Nat) (k:Nat) (acc:List (List Int)),k+L.length=252→acc.length+L.length * B≤1000000000 →
  jr r S i v x K0 K22 L k acc=K22 (acc++(List.range' k L.length).flatMap (partR S x.qe.qb x.qe.qa v G))
 | [],k,acc,_,_=>by rw[jr];simp
 | y::L,k,acc,hk,hb=>by
  rw[List.length_cons]at hk hb;rw[Nat.succ_mul]at hb
  have hk2:k<252:=by omega
  have hg:S[Int.toNat (k:Int) * 1]? = some (S.getD k false):=by
   rw[Int.toNat_natCast,Nat.mul_one,List.getD_eq_getElem?_getD,List.getElem?_eq_getElem (by omega)];rfl
  rw[jr,ZU (decide_eq_true ⟨by omega,by omega⟩),hg,qdu hk2,Xt];simp only[Option.bind_some];rw[List.length_cons,List.range'_succ,List.flatMap_cons,← List.append_assoc]
  have no:partR S x.qe.qb x.qe.qa v G k=[]→jP r S i v x acc ⟨(decF k).qh,argsF (decF k)⟩ K0 (jQ (jr r S i v x K0 K22 L (k+1))) true=K22 ((acc++partR S x.qe.qb x.qe.qa v G k)++(List.range' (k+1) L.length).flatMap (partR S x.qe.qb x.qe.qa v G)):=fun h=>by
   rw[h,List.append_nil];unfold jP jQ;rw[cond_true];exact qbP hS hv hx hx2 K22 hG hGl L (k+1) acc (by omega) (by omega)
  cases hs:S.getD k false with
  | false =>
   simp only[Bool.not_false,cond_true];exact no (by unfold partR;rw[if_neg (by rw[hs];simp)])
  | true =>
   simp only[Bool.not_true,cond_false]
   by_cases hr:(decF k).qh=x.qe.qb
   ·rw[show ((decF k).qh != x.qe.qb)=false by rw[hr];exact bne_self_eq_false ..,cond_false]
    by_cases hl:(argsF (decF k)).length=x.qe.qa.length
    ·rw[show (((argsF (decF k)).length:Int) != (x.qe.qa.length:Int))=false by rw[hl];exact bne_self_eq_false ..];unfold jP;rw[cond_false,ZU (decide_eq_true hv),ZU (decide_eq_true ⟨hv,by simp⟩),ZU (qG (by omega))];have h2:=Nd ⟨(decF k).qh,argsF (decF k)⟩ (Qt r S i acc K0 (jQ (jr r S i v x K0 K22 L (k+1)))) x.qe.qa 0 v hx (by simp only;omega) hv;rw[List.drop_zero]at h2;simp only at h2
     cases hf:fitA v x.qe.qa (argsF (decF k)) with
     | none =>
      rw[hf]at h2;obtain⟨u,h2⟩:=h2;rw[h2]
      have e:partR S x.qe.qb x.qe.qa v G k=[]:=by
       unfold partR;rw[hf];simp
      have:=no e;unfold jP at this;rw[cond_true]at this;unfold Qt;rw[cond_false];exact this
     | some u =>
      rw[hf]at h2;replace h2:qF _ _ x.qe.qa 0 v true=_:=h2;rw[h2]
      have e:partR S x.qe.qb x.qe.qa v G k=G u:=by
       unfold partR;rw[hf,if_pos ⟨hs,hr,hl⟩]
      have hu:u.length=8:=by rw[DN hf,hv]
      have hlu:=hGl u;unfold Qt jQ;rw[cond_true,ZU (decide_eq_true hS),ZU (decide_eq_true hu),hG u hu];simp only[Option.bind_some];rw[ZU (JS (by omega) (by rw[List.length_append];omega)),e];exact qbP hS hv hx hx2 K22 hG hGl L (k+1) (acc++G u) (by omega) (by rw[List.length_append];omega)
    ·rw[show (((argsF (decF k)).length:Int) != (x.qe.qa.length:Int))=true from bne_iff_ne.2 (by omega)];exact no (by unfold partR;rw[if_neg (fun h=>hl h.2.2)])
   ·rw[show ((decF k).qh != x.qe.qb)=true from bne_iff_ne.2 hr,cond_true];exact no (by unfold partR;rw[if_neg (fun h=>hr h.2.1)])
theorem Zf {r:rf3Rule} (hb:r.qd.length≤3) (hx:∀ x,x∈r.qd→arg7 x.qe.qa∧x.qe.qa.length≤2) {S:List Bool} (hS:S.length=252):∀ (n fuel i:Nat) (v:List Int),i+n=r.qd.length→n+1≤fuel→v.length=8→JV fuel r S (i:Int) v=some (instR S ((r.qd.drop i).map toL) v)
 | 0,fuel+1,i,v,hi,hf,hv=>by
  rw[JV,ZU (by cases S <;> simp_all),ZU (by cases v <;> simp_all),show ((i:Int) == (r.qd.length:Int))=true from beq_iff_eq.2 (by omega),cond_true,ZU (decide_eq_true hv),ZU (decide_eq_true hv),List.drop_of_length_le (by omega)];rfl
 | n+1,fuel+1,i,v,hi,hf,hv=>by
  have hil:i<r.qd.length:=by omega
  have hid:idx r.qd (i:Int)=some r.qd[i]:=by unfold idx;simp[hil]
  have hd:r.qd.drop i=r.qd[i]::r.qd.drop (i+1):=List.drop_eq_getElem_cons hil;have hxi:=hx _ (List.getElem_mem hil)
  have ew:IntKind.wrap .i64 ((i:Int)+1)=((i+1:Nat):Int):=by rw[wrap64 (by omega) (by omega)];omega
  rw[JV,ZU (by cases S <;> simp_all),ZU (by cases v <;> simp_all),show ((i:Int) == (r.qd.length:Int))=false from beq_eq_false_iff_ne.2 (by omega),cond_false,hid,hd];simp only[Option.bind_some,List.map_cons];unfold instR;have en:(toL r.qd[i]).qo=r.qd[i].qo:=rfl;rw[en]
  cases hn:r.qd[i].qo with
  | true =>
   rw[cond_true,ZU (decide_eq_true hS),ZU (decide_eq_true hv),ew,Zf hb hx hS n fuel (i+1) v (by omega) (by omega) hv];rfl
  | false =>
   rw[cond_false,ZU (decide_eq_true hS),ZU (qG (by simp))]
   have hlen:(r.qd.drop (i+1)).length≤2:=by rw[List.length_drop];omega
   rw[qbP hS hv hxi.1 hxi.2 Xw (G:=instR S ((r.qd.drop (i+1)).map toL)) (B:=63504) (fun u hu=>by rw[ew];exact Zf hb hx hS n fuel (i+1) u (by omega) (by omega) hu) (fun u=>by
    have h1:=VT S ((r.qd.drop (i+1)).map toL) u;rw[List.length_map]at h1;have h2:252 ^ (r.qd.drop (i+1)).length≤252 ^ 2:=Nat.pow_le_pow_right (by omega) hlen
    have:252 ^ 2=63504:=by decide
    omega) (List.range (Int.toNat 252)) 0 [] (by simp) (by simp)]
   unfold Xw;rw[List.nil_append]
   simp
   rfl
end Go.AM
