import Derived.Test.YtoiejpkfpjingaaEVo
import Derived.Test.YtoiejpkfpjingaaASimJ
import Derived.Test.YtoiejpkfpjingaaChecked
import Derived.Test.YtoiejpkfpjingaaKAT
import Derived.Test.YtoiejpkfpjingaaHD1
import Derived.Test.YtoiejpkfpjingaaEView
import Derived.Test.YtoiejpkfpjingaaRows
import Derived.ProofKit
import Derived.OpenShut
set_option linter.all false
set_option maxRecDepth 100000
open Option renaming bind_some→A0
open List renaming length_append→A1, append_nil→A3, filter_cons_of_neg→A4, filter_cons_of_pos→A5, length_filter_le→A7, flatMap_cons→A8, pairwise_cons→A9, length_singleton→B7, all_eq_true→C9, range'→D0, flatMap_nil→D1, filter_append→D3, length_map→D5, filter_cons→D6, length_cons→D7, drop_eq_getElem_cons→D8, filter_filter→D9, filter_congr→E0, length_erase_of_mem→E7, pairwise_append→E9, getElem?_eq_getElem→F0, filter_eq_nil_iff→F3
open Bool renaming and_eq_true→A2, eq_iff_iff→C7, not_eq_true'→D2, and_true→D4, or_eq_false_iff→E8
open Nat renaming zero_le→A6, le_refl→B6, le_trans→B8
namespace Go.AM
open Go.Proofs
theorem qaA (P:List Int→Bool) {l:List Int} (hl:l.Nodup):∀ (n:Nat) (o:List Int),(l.filter fun y=>!o.contains y).length=n→dfs P l n o=((permsF n (l.filter fun y=>!o.contains y)).find? fun p=>P (o++p)).map (o++·)
  | 0,o,h=>by
    rw[List.length_eq_zero_iff.1 h];show (bif P o then some o else none)=(List.find? _ [[]]).map _;simp only[List.find?_cons,A3,List.find?_nil];cases P o <;> simp
  | n+1,o,h=>by
    have e2:permsF (n+1) (l.filter fun y=>!o.contains y)=(l.filter fun y=>!o.contains y).flatMap fun y=>(permsF n ((l.filter fun y=>!o.contains y).erase y)).map (y::·):=by
      cases hF:l.filter fun y=>!o.contains y with
      | nil=>rw[hF]at h;cases h
      | cons x r=>rfl
    rw[e2,List.find?_flatMap,Vo,Xf]
    refine YW fun x hx=>?_
    cases hc:o.contains x with
    | true=>rfl
    | false =>
      have hxm:x∈l.filter fun y=>!o.contains y:=List.mem_filter.2 ⟨hx,by rw[hc];rfl⟩
      have hlen:(l.filter fun y=>!(o++[x]).contains y).length=n:=by
        rw[← ZE hl x,E7 hxm,h];rfl
      have ih:=qaA P hl n (o++[x]) hlen;simp only[cN,Bool.not_false,if_true];rw[ih,Ds,ZE hl]
      have e3:(fun p=>P (o++[x]++p))=fun p=>P (o++x::p):=by funext p;simp
      rw[e3];cases (permsF n (l.filter fun y=>!(o++[x]).contains y)).find? (fun p=>P (o++x::p)) <;> simp
theorem Zs (P:List Int→Bool) {l:List Int} (hl:l.Nodup):dfs P l l.length []=(permsF l.length l).find? P:=by
  have h0:(l.filter fun y=>!([]:List Int).contains y)=l:=by simp
  have:=qaA P hl l.length [] (by rw[h0]);rw[this,h0]
  cases hf:(permsF l.length l).find? (fun p=>P ([]++p)) with
  | none=>simpa using hf.symm
  | some x=>simpa using hf.symm
def goodB (x:rf5Op):Bool:=!bad6 x && !(decide (x.qb > 1) && (x.qc != 0))
theorem ZS (t:Int) (pre:List rf5Op) (x:rf5Op):ended t (pre++[x])=(ended t pre || ((x.qa == t) && decide (x.qb > 1))):=by
 unfold ended;rw[List.any_append];simp
theorem UV:∀ (r pre:List rf5Op),okFrom pre r=true↔(∀ x,x∈r→goodB x=true∧ended x.qa pre=false)∧r.Pairwise fun x y=>¬ (x.qa=y.qa∧x.qb > 1)
 | [],pre=>by simp[okFrom]
 | x::r,pre=>by
  have e:okFrom pre (x::r)=((!bad6 x && (!(decide (x.qb > 1) && (x.qc != 0)) && !ended x.qa pre)) && okFrom (pre++[x]) r):=rfl;rw[e,A2,UV r (pre++[x]),A9]
  have e2:(!bad6 x && (!(decide (x.qb > 1) && (x.qc != 0)) && !ended x.qa pre))=(goodB x && !ended x.qa pre):=by unfold goodB;rw[Bool.and_assoc]
  rw[e2];constructor
  ·rintro⟨h1,h2,h3⟩
   rw[A2,D2]at h1;refine⟨fun y hy=>?_,?_,h3⟩
   ·rcases List.mem_cons.1 hy with rfl | hy
    ·exact h1
    ·have:=(h2 y hy).2;rw[ZS,E8]at this;exact⟨(h2 y hy).1,this.1⟩
   ·intro y hy hc;have:=(h2 y hy).2;rw[ZS,E8]at this;simp[hc.1,hc.2]at this
  ·rintro⟨h1,h2,h3⟩
   refine⟨?_,fun y hy=>⟨(h1 y (by simp[hy])).1,?_⟩,h3⟩
   ·rw[A2,D2];exact h1 x (by simp)
   ·rw[ZS,(h1 y (by simp[hy])).2,Bool.false_or,Bool.and_eq_false_iff];have:=h2 y hy;by_cases he:x.qa=y.qa
    ·right;rw[decide_eq_false_iff_not];exact fun hk=>this ⟨he,hk⟩
    ·left;simpa using he
theorem VC (h:List rf5Op):validB h=true↔(∀ x,x∈h→goodB x=true)∧(h.Pairwise fun x y=>¬ (x.qa=y.qa∧x.qb > 1))∧h.length≤40:=by
 unfold validB;rw[A2,decide_eq_true_eq,UV,and_assoc];refine and_congr ⟨fun h x hx=>(h x hx).1,fun h x hx=>⟨h x hx,rfl⟩⟩ Iff.rfl
theorem Dv (t k:Int):∀ (l:List rf5Op) (i:Nat),endL t k l i ≥ 0↔∃ x,x∈l∧x.qa=t∧x.qb=k
 | [],i=>by simp[endL]
 | x::l,i=>by
  have e:endL t k (x::l) i=bif (x.qa == t) && (x.qb == k) then (i:Int) else endL t k l (i+1):=rfl;rw[e];by_cases hx:x.qa=t∧x.qb=k
  ·have:((x.qa == t) && (x.qb == k))=true:=by simp[hx]
   rw[this,cond_true];exact⟨fun _=>⟨x,by simp,hx⟩,fun _=>by omega⟩
  ·have:((x.qa == t) && (x.qb == k))=false:=by simpa using hx
   rw[this,cN,Dv t k l (i+1)];constructor
   ·rintro⟨y,hy,h⟩;exact⟨y,by simp[hy],h⟩
   ·rintro⟨y,hy,h⟩
    rcases List.mem_cons.1 hy with rfl | hy
    ·exact absurd h hx
    ·exact⟨y,hy,h⟩
def doneB (h:List rf5Op) (t:Int):Bool:=decide (endL t 2 h 0 ≥ 0)
theorem VT {h:List rf5Op} {t:Int}:doneB h t=true↔∃ x,x∈h∧x.qa=t∧x.qb=2:=by
 unfold doneB;rw[decide_eq_true_eq,Dv]
theorem VN (h:List rf5Op):partL h=h.filter fun x=>doneB h x.qa:=rfl
theorem HG (h:List rf5Op):commL h=([1,2,3,4,5,6]:List Int).filter (doneB h):=rfl
theorem Sw.perm {l m:List rf5Op} (h:Sw l m):l.Perm m:=by
 induction h with
 | refl l=>exact .refl _
 | swap a b x y h=>exact List.Perm.append_left a (List.Perm.swap y x b)
 | trans _ _ h1 h2=>exact h1.trans h2
theorem Sw.filter {l m:List rf5Op} (h:Sw l m) (P:rf5Op→Bool):Sw (l.filter P) (m.filter P):=by
 induction h with
 | refl l=>exact .refl _
 | swap a b x y h =>
  rw[D3,D3];cases hx:P x <;> cases hy:P y
  ·rw[A4 (by simp[hx]),A4 (by simp[hy]),A4 (by simp[hy]),A4 (by simp[hx])];exact .refl _
  ·rw[A4 (by simp[hx]),A5 hy,A5 hy,A4 (by simp[hx])];exact .refl _
  ·rw[A5 hx,A4 (by simp[hy]),A4 (by simp[hy]),A5 hx];exact .refl _
  ·rw[A5 hx,A5 hy,A5 hy,A5 hx];exact .swap _ _ _ _ h
 | trans _ _ h1 h2=>exact h1.trans h2
theorem Sw.done {l m:List rf5Op} (h:Sw l m):doneB l=doneB m:=by
 funext t
 rw[C7,VT,VT];constructor
 ·rintro⟨x,hx,h1⟩;exact⟨x,h.perm.mem_iff.1 hx,h1⟩
 ·rintro⟨x,hx,h1⟩;exact⟨x,h.perm.mem_iff.2 hx,h1⟩
theorem Sw.valid {l m:List rf5Op} (h:Sw l m):validB l=validB m:=by
 rw[C7,VC,VC];refine and_congr ⟨fun g x hx=>g x (h.perm.mem_iff.2 hx),fun g x hx=>g x (h.perm.mem_iff.1 hx)⟩ (and_congr ?_ (by rw[h.perm.length_eq]))
 induction h with
 | refl l=>exact Iff.rfl
 | swap a b x y h =>
  have:=(YC.1 h).1
  have h2:¬ y.qa=x.qa:=fun e=>this e.symm
  rw[E9,E9,A9,A9,A9,A9];simp only[List.mem_cons,forall_eq_or_imp];constructor
  ·rintro⟨p1,⟨⟨p2,p3⟩,p4,p5⟩,p6⟩
   exact⟨p1,⟨⟨fun e=>h2 e.1,p4⟩,p3,p5⟩,fun z hz=>⟨(p6 z hz).2.1,(p6 z hz).1,(p6 z hz).2.2⟩⟩
  ·rintro⟨p1,⟨⟨p2,p3⟩,p4,p5⟩,p6⟩
   exact⟨p1,⟨⟨fun e=>this e.1,p4⟩,p3,p5⟩,fun z hz=>⟨(p6 z hz).2.1,(p6 z hz).1,(p6 z hz).2.2⟩⟩
 | trans _ _ h1 h2=>exact h1.trans h2
theorem Sw.part {l m:List rf5Op} (h:Sw l m):Sw (partL l) (partL m):=by
 rw[VN,VN,h.done];exact h.filter _
theorem Sw.comm {l m:List rf5Op} (h:Sw l m):commL l=commL m:=by rw[HG,HG,h.done]
theorem qde {h:List rf5Op} (H:Hist h) {x:rf5Op} (hx:x∈partL h):x.qa∈commL h:=by
 obtain⟨h1,h2⟩:=List.mem_filter.1 hx;have:=of_decide_eq_true h2;exact Yb.2 ⟨H.txn x h1,this⟩
theorem qcO (h:List rf5Op):(viewR h).1.length≤100:=by
 unfold viewR;split
 ·rw[Zs _ (Jd h)];split
  ·rename_i o ho;have hm:=List.mem_of_find?_eq_some ho;have:=((YP (Jd h) (B6 _) o).1 hm).length_eq;have:=Yc h;simp only;omega
  ·simp
 ·simp
def UA (fuel:Nat) (a1:(List hsOp)):Option ((List Int)×Int):=viewO fuel a1
theorem DN (fuel:Nat) (a1:(List hsOp)) (r:((List Int)×Int)) (h:UA fuel a1=some r):Run Try.prog (.call 30 [l44 none a1] (.tup [l3 none r.1,I6 r.2])):=.ext0 (view30 h)
def NoAb (q:List rf5Op):Prop:=∀ x,x∈q→x.qb≠3
theorem qdt {q:List rf5Op} (h:NoAb q) (t:Int):decide (endL t 3 q 0 ≥ 0)=false:=by
 rw[decide_eq_false_iff_not,Dv]
 rintro⟨x,hx,_,h3⟩
 exact h x hx h3
theorem qdE {q:List rf5Op} (h:NoAb q) (i:Nat) (x p:rf5Op):wins q i x p=wrB x.qc p:=by
 unfold wins wrB;rw[qdt h];simp
theorem Na (it:Int):∀ (l:List rf5Op) (s:Int→Int),lastS s l it=scanF (wrB it) (s it) l
 | [],s=>rfl
 | x::l,s=>by
  show lastS (stepW s x) l it=scanF (wrB it) (bif wrB it x then x.qa else s it) l;rw[Na it l];rfl
theorem qbO {q pre r:List rf5Op} {x:rf5Op} (h:NoAb q) (hq:q=pre++x::r) (h0:x.qb=0):fromAt q pre.length x=lastS s0 pre x.qc:=by
 unfold fromAt
 have:(x.qb != 0)=false:=by rw[h0];rfl
 have htk:q.take pre.length=pre:=by rw[hq,List.take_left]
 rw[this,cN,htk,YD (W':=wrB x.qc) fun p _=>qdE h _ x p,Na];have:=VI (wrB x.qc) pre.reverse;rw[List.reverse_reverse]at this;exact this.symm
def last6 (f:Int→Int):List Int:=[f 0,f 1,f 2,f 3,f 4,f 5]
theorem DY (t:Int) (pre:List rf5Op) (x:rf5Op) (s:Int→Int):readsW t (pre++[x]) s=readsW t pre s++(bif rdB t x then [lastS s pre x.qc] else []):=by
 rw[QR];show readsW t pre s++((bif rdB t x then [lastS s pre x.qc] else [])++[])=_;rw[A3]
theorem NT {q:List rf5Op} (hq:NoAb q) (hi:∀ x,x∈q→0≤x.qc∧x.qc≤5):∀ (r pre:List rf5Op) (m:List (Int×List Int)),q=pre++r→(∀ t,mget keq1 [] t m=readsW t pre s0)→(∀ p,p∈m→p.2.length≤pre.length) →
  ∃ m',viewF (r.map cv) (fromL q r pre.length) m (last6 (lastS s0 pre))=⟨m',last6 (lastS s0 q)⟩∧(∀ t,mget keq1 [] t m'=readsW t q s0)∧∀ p,p∈m'→p.2.length≤q.length
 | [],pre,m,he,hm,hl=>by
  rw[A3]at he;subst he;exact⟨m,rfl,hm,hl⟩
 | x::r,pre,m,he,hm,hl=>by
  have hx:=hi x (by rw[he];simp)
  have e1:viewF ((x::r).map cv) (fromL q (x::r) pre.length) m (last6 (lastS s0 pre))=viewF (r.map cv) (fromL q r (pre++[x]).length) (vstep m (cv x) (fromAt q pre.length x)) (lstep (last6 (lastS s0 pre)) (cv x)):=by
   rw[A1,B7];rfl
  have e2:lstep (last6 (lastS s0 pre)) (cv x)=last6 (lastS s0 (pre++[x])):=by
   rw[Qv];show lstep (last6 (lastS s0 pre)) (cv x)=last6 (stepW (lastS s0 pre) x);unfold lstep stepW wrB last6;show (bif x.qb == 1 then ([_,_,_,_,_,_]:List Int).set x.qc.toNat x.qa else _)=_
   cases x.qb == 1 with
   | false=>rfl
   | true =>
    have h6:x.qc=0∨x.qc=1∨x.qc=2∨x.qc=3∨x.qc=4∨x.qc=5:=by omega
    rcases h6 with h | h | h | h | h | h <;> rw[h] <;> rfl
  rw[e1,e2];refine NT hq hi r (pre++[x]) _ (by rw[he];simp) (fun t=>?_) (fun p hp=>?_)
  ·rw[DY,← hm t];unfold vstep;show mget keq1 [] t (bif x.qb == 0 then mset keq1 x.qa (mget keq1 [] x.qa m++[fromAt q pre.length x]) m else m)=_;unfold rdB;by_cases h0:x.qb=0
   ·have b0:(x.qb == 0)=true:=by simp[h0]
    rw[b0,cond_true,ZL,qbO hq he h0,D4];by_cases ht:t=x.qa
    ·subst ht;simp
    ·have:(x.qa == t)=false:=by rw[beq_eq_false_iff_ne];exact fun e=>ht e.symm
     rw[if_neg ht,this,cN,A3]
   ·have b0:(x.qb == 0)=false:=beq_eq_false_iff_ne.2 h0;rw[b0,Bool.and_false,cN,cN,A3]
  ·unfold vstep at hp;rw[A1,B7]
   have hold:∀ p,p∈m→p.2.length≤pre.length+1:=fun p hp=>Nat.le_succ_of_le (hl p hp)
   have hget:(mget keq1 [] x.qa m).length≤pre.length:=by
    have:∀ (m:List (Int×List Int)),(∀ p,p∈m→p.2.length≤pre.length)→(mget keq1 [] x.qa m).length≤pre.length:=by
     intro m
     induction m with
     | nil=>intro _;exact A6 _
     | cons y m ih =>
      intro h;unfold mget
      cases keq1 y.1 x.qa with
      | true=>exact h y (by simp)
      | false=>exact ih fun p hp=>h p (by simp[hp])
    exact this m hl
   cases hk:((cv x).qb == 0) with
   | false=>rw[hk]at hp;exact hold p hp
   | true =>
    rw[hk,cond_true]at hp
    have:∀ (m:List (Int×List Int)) (k:Int) (v:List Int),(∀ p,p∈m→p.2.length≤pre.length+1)→v.length≤pre.length+1→∀ p,p∈mset keq1 k v m→p.2.length≤pre.length+1:=by
     intro m k v
     induction m with
     | nil =>
      intro _ hv p hp
      have:p=(k,v):=by simpa[mset] using hp
      rw[this];exact hv
     | cons y m ih =>
      intro h hv p hp;unfold mset at hp
      cases hyk:keq1 y.1 k with
      | true =>
       rw[hyk,cond_true]at hp
       rcases List.mem_cons.1 hp with rfl | hp
       ·exact hv
       ·exact h p (by simp[hp])
      | false =>
       rw[hyk,cN]at hp
       rcases List.mem_cons.1 hp with rfl | hp
       ·exact h _ (by simp)
       ·exact ih (fun p hp=>h p (by simp[hp])) hv p hp
    refine this m _ _ hold ?_ p hp;rw[A1,B7];exact Nat.succ_le_succ hget
structure SeenAs (q:List rf5Op) (v:hsview):Prop where
 reads:∀ t,mget keq1 [] t v.jT=readsW t q s0
 last:v.QA=last6 (lastS s0 q)
 len:∀ p,p∈v.jT→p.2.length≤q.length
theorem NS {q:List rf5Op} (H:Hist q) (hq:NoAb q):∃ v,viewP bigFuel (q.map cv)=some v∧SeenAs q v:=by
 have hl:=H.len;obtain⟨m',h1,h2,h3⟩:=NT hq H.item q [] [] rfl (fun t=>rfl) (fun p hp=>by cases hp);refine⟨⟨m',last6 (lastS s0 q)⟩,?_,h2,rfl,h3⟩;unfold viewP;rw[qdq H,A0]
 have hck:(decide ((q.map cv).length≤100000) && (decide ((fromL q q 0).length=(q.map cv).length) && (q.map cv).all okV))=true:=by
  simp only[A2,decide_eq_true_eq,D5,VR,C9];refine⟨by omega,trivial,fun x hx=>?_⟩;obtain⟨y,hy,rfl⟩:=List.mem_map.1 hx;have ht:=H.txn y hy;have hi:=H.item y hy;show (wfI .i64 y.qa && (!(y.qb == 1) || (decide (0≤y.qc) && decide (y.qc<6))))=true;rw[wf6 (by omega) (by omega),decide_eq_true hi.1,decide_eq_true (by omega)];simp
 rw[hck,qt];exact congrArg some h1
theorem qda {p q:List rf5Op} {v w:hsview} (hv:SeenAs p v) (hw:SeenAs q w):sameP v w=sameV p q:=by
 unfold sameP sameV;rw[hv.last,hw.last];simp only[hv.reads,hw.reads]
 congr 1
theorem qaY (t:Int) (K:List hsOp→Option (List hsOp)):∀ (r:List rf5Op) (k:Nat) (v:List hsOp),v.length+r.length≤50000→qu t K (r.map cv) k v=K (v++(r.filter fun x=>x.qa == t).map cv)
 | [],k,v,_=>by rw[List.map_nil,qu.eq_1];simp
 | x::r,k,v,hl=>by
  have hl:v.length+(r.length+1)≤50000:=hl;rw[List.map_cons,qu.eq_2];unfold jF;show (bif x.qa == t then _ else _)=_;rw[D6]
  cases hx:x.qa == t with
  | true =>
   rw[cond_true,capS (by omega) (by simp;omega),qt,qaY t K r (k+1) _ (by simp;omega)];simp
  | false =>
   rw[cN,qaY t K r (k+1) _ (by omega)];simp
theorem qcX {q:List rf5Op} (hq:q.length≤1000) (K:List hsOp→Option (List hsOp)):∀ (r:List Int) (k:Nat) (v:List hsOp),v.length+r.length * 1000≤40000→qn (q.map cv) K r k v=K (v++(serV q r).map cv)
 | [],k,v,_=>by rw[qn.eq_1];simp[serV]
 | t::r,k,v,hl=>by
  have hl:v.length+(r.length+1) * 1000≤40000:=hl;rw[qn.eq_2,jy (by rw[D5];omega),qt,qaY t _ q 0 v (by omega)];unfold qK;have:=A7 (fun x:rf5Op=>x.qa == t) q;rw[qcX hq K r (k+1) _ (by simp;omega)];have e:serV q (t::r)=(q.filter fun x=>x.qa == t)++serV q r:=rfl;rw[e];simp
theorem qaX {q:List rf5Op} (hq:q.length≤1000) {o:List Int} (ho:o.length≤6):jS (q.map cv) o=some ((serV q o).map cv):=by
 unfold jS;rw[jy (by omega),qt,qcX hq _ o 0 [] (by simp;omega)];simp[qv]
theorem ZX {q:List rf5Op} {o:List Int} {x:rf5Op} (h:x∈serV q o):x∈q:=by
 obtain⟨t,_,h⟩:=List.mem_flatMap.1 h;exact (List.mem_filter.1 h).1
theorem UL (q:List rf5Op):∀ o:List Int,(serV q o).length≤o.length * q.length
 | []=>A6 _
 | t::o=>by
  have e:serV q (t::o)=(q.filter fun x=>x.qa == t)++serV q o:=rfl;have h1:=A7 (fun x:rf5Op=>x.qa == t) q;have h2:=UL q o;rw[e,A1,D7,Nat.succ_mul];omega
theorem Vl {q r:List rf5Op} (H:Hist q) (hl:r.length≤1000) (hm:∀ x,x∈r→x∈q):Hist r :=
 ⟨hl,fun x hx=>H.txn x (hm x hx),fun x hx=>H.kind x (hm x hx),fun x hx=>H.item x (hm x hx),fun x hx=>H.zero x (hm x hx)⟩
theorem Zj {h:List rf5Op} (hv:validB h=true):NoAb (partL h):=by
 intro x hx h3;obtain⟨h1,h2⟩:=List.mem_filter.1 hx;obtain⟨y,hy,e1,e2⟩:=VT.1 (show doneB h x.qa=true from h2);have hp:=((VC h).1 hv).2.1
 have hne:x≠y:=fun e=>by rw[e,e2]at h3;cases h3
 obtain⟨i,hi⟩:=List.mem_iff_getElem?.1 h1;obtain⟨j,hj⟩:=List.mem_iff_getElem?.1 hy;obtain⟨hi1,hi2⟩:=List.getElem?_eq_some_iff.1 hi;obtain⟨hj1,hj2⟩:=List.getElem?_eq_some_iff.1 hj
 rcases Nat.lt_trichotomy i j with hlt | heq | hlt
 ·have:=List.pairwise_iff_getElem.1 hp i j hi1 hj1 hlt;rw[hi2,hj2]at this;exact this ⟨e1.symm,by omega⟩
 ·subst heq;rw[hi2]at hj2;exact hne hj2
 ·have:=List.pairwise_iff_getElem.1 hp j i hj1 hi1 hlt;rw[hi2,hj2]at this;exact this ⟨e1,by omega⟩
theorem qcY {q:List rf5Op} (H:Hist q) (hq:NoAb q) (h40:q.length≤100) {want:hsview} (hw:SeenAs q want) {o:List Int} (ho:o.length≤6):seenO bigFuel (q.map cv) want o=some (sameV (serV q o) q):=by
 have hl:=UL q o;have h6:o.length * q.length≤6 * 100:=Nat.mul_le_mul ho h40;obtain⟨v,h1,h2⟩:=NS (Vl H (by omega) (fun x hx=>ZX hx):Hist (serV q o)) (fun x hx=>hq x (ZX hx));unfold seenO;rw[qaX H.len ho,A0,h1,A0]
 have hck:(decide (v.QA.length=6) && v.jT.all fun q=>decide (q.2.length≤100000))=true:=by
  rw[A2,decide_eq_true_eq,C9];refine⟨by rw[h2.last];rfl,fun p hp=>?_⟩;have:=h2.len p hp;rw[decide_eq_true_eq];omega
 rw[hck,qt,qda h2 hw]
theorem qcP (h:List rf5Op):UA bigFuel ((h.take 43).map cv)=some (viewR h):=by
 unfold UA viewO viewR;rw[qaN,A0]
 cases hv:validB h with
 | false=>rfl
 | true =>
  obtain⟨H,hlen⟩:=UB hv;have htk:h.take 43=h:=List.take_of_length_le (by omega);have hp40:(partL h).length≤100:=B8 (A7 _ _) (by omega)
  have HP:Hist (partL h):=Vl H (by omega) fun x hx=>(List.mem_filter.1 hx).1
  obtain⟨want,h1,h2⟩:=NS HP (Zj hv);have hl6:=Yc h
  have hseen:∀ o:List Int,o.length≤6→seenO bigFuel ((partL h).map cv) want o=some (sameV (serV (partL h) o) (partL h)):=fun o ho=>qcY HP (Zj hv) hp40 h2 ho
  rw[htk,cond_true,qcp H,A0,h1,A0,XQ H,A0]
  have hck:(decide ((commL h).length≤999) && ((commL h).all (wfI .i64) && (decide (commL h).Nodup && (decide (want.QA.length=6) && (someF (commL h).length (commL h)).all fun o=>(seenO bigFuel ((partL h).map cv) want o).isSome))))=true:=by
   simp only[A2,decide_eq_true_eq,C9];refine⟨by omega,qdR,Jd h,by rw[h2.last];rfl,fun o ho=>?_⟩;rw[hseen o (by rw[(NY _ _ o ho).1];exact hl6)];rfl
  rw[hck,qt,if_pos rfl,Zs _ (Jd h),Zs _ (Jd h)]
  have hfind:(permsF (commL h).length (commL h)).find? (fun o=>(seenO bigFuel ((partL h).map cv) want o).getD false)=(permsF (commL h).length (commL h)).find? fun o=>sameV (serV (partL h) o) (partL h):=by
   refine Nk fun o ho=>?_
   have hp:=(YP (Jd h) (B6 _) o).1 ho;rw[hseen o (by rw[hp.length_eq];exact hl6)];rfl
  rw[hfind]
  try (cases (permsF (commL h).length (commL h)).find? (fun o=>sameV (serV (partL h) o) (partL h)) <;> rfl)
end Go.AM
namespace Go.AM
def rdsT (t:Int):List rf5Op→List Int→List Int
 | x::h,f::fr=>(bif x.qa == t then (bif x.qb == 0 then [f] else []) else [])++rdsT t h fr
 | _,_=>[]
def rdsF (h:List rf5Op) (fr:List Int):List Int:=(D0 1 6).flatMap fun j=>rdsT (j:Nat) h fr
def lstepR (s:List Int) (x:rf5Op):List Int:=bif x.qb == 1 then s.set x.qc.toNat x.qa else s
def okR (x:rf5Op):Bool:=!(x.qb == 1) || (decide (0≤x.qc) && decide (x.qc<6))
def rviewP (h:List rf5Op):Option (List Int):=(YM h).bind fun fr=>chk (decide (h.length≤1000) && (decide (fr.length=h.length) && h.all okR)) (some (rdsF h fr++h.foldl lstepR [0,0,0,0,0,0]))
theorem UR (t:Int):∀ (h:List rf5Op) (fr:List Int),(rdsT t h fr).length≤h.length
 | [],fr=>by cases fr <;> exact A6 _
 | x::h,[]=>A6 _
 | x::h,f::fr=>by
  have:=UR t h fr;show ((bif x.qa == t then (bif x.qb == 0 then [f] else []) else [])++rdsT t h fr).length≤h.length+1;rw[A1]
  have:(bif x.qa == t then (bif x.qb == 0 then [f] else []) else []).length≤1:=by cases x.qa == t <;> cases x.qb == 0 <;> simp
  omega
end Go.AM
namespace Go.Proofs
open Go.RowKit Go.AM
theorem qci {M:Mem} {l:List rf5Op} {v:Value} (h:R M (l43 none l) v):∃ a cap,v=.slice a l.length cap∧∀ i x,l[i]? = some x→∃ b off,a=some ⟨b,off,none⟩∧M b (off+i * 3)=some (.int .i64 x.qa)∧M b (off+i * 3+1)=some (.int .i64 x.qb)∧M b (off+i * 3+2)=some (.int .i64 x.qc):=by
 obtain⟨a,cap,rfl,hc⟩:=Hn h;refine⟨a,cap,by rw[D5],fun i x hx=>?_⟩;obtain⟨b,off,rfl,hcell⟩:=hc i (qM x) (by simp[hx]);obtain⟨u0,h0,r0⟩:=hcell 0 _ rfl;obtain⟨u1,h1,r1⟩:=hcell 1 _ rfl;obtain⟨u2,h2,r2⟩:=hcell 2 _ rfl;cases r0;cases r1;cases r2;exact⟨b,off,rfl,h0,h1,h2⟩
theorem Us {ops:Array Oper} {rest:List Oper} {o:Oper} {a:Act} {w:World} {Q:Exit→Act→World→Prop} (hgd:o.guard=none) (s x:Operand) (ho:o.op=.call { callee:=.builtin .append,args:=#[s,x],argTypes:=#[24,24] }) {v:Value} {n m c0:Nat} {ad:Addr} {Po:Nat→Nat→World→Prop}
  (hs:a.eval s=v) (hx:a.eval x=.slice (some ad) m c0) (hap:∃ g cap w',(Builtin.append_ #[24,24] o.type #[v,.slice (some ad) m c0]).run Try.prog w=.ok (.slice (some ⟨g,0,none⟩) (n+m) cap) w'∧Po g cap w')
  (h:∀ g cap w',Po g cap w'→wpList Try.prog ops Q rest (a.put o.dst (.slice (some ⟨g,0,none⟩) (n+m) cap)) w'):wpList Try.prog ops Q (o::rest) a w:=by
 obtain⟨g,cap,w',hr,h2⟩:=hap
 refine wpList_plain hgd fun K hK=>?_
 unfold Oper.wp execOp;simp only[ho,resolve,invoke,builtin,Sem.run_bind,Sem.run_pure,Result.andThen_ok,List.map_toArray,List.map_cons,List.map_nil,hs,hx,hr];exact hK _ _ (h g cap w' h2)
set_option maxHeartbeats 1000000 in
theorem rview94 {h:List rf5Op} {r:List Int} (hp:rviewP h=some r):CallOk Try.prog 94 [l43 none h] (l3 none r):=by
 intro M w vs hG hC hl hR
 obtain⟨v0,rfl⟩:∃ v0,vs=[v0]:=by
  match vs,hl with
  | [v0],_=>exact⟨v0,rfl⟩
 have r0:R M (l43 none h) v0:=hR 0 _ v0 rfl rfl;clear hR hl hG;show Calls Try.prog 94 [v0].toArray w (VW M w (l3 none r));unfold rviewP at hp;obtain⟨fs,hfr,hp⟩:=qd hp;obtain⟨hck,hp⟩:=qh hp;simp only[A2,decide_eq_true_eq]at hck;obtain⟨hlen,hfl,hok⟩:=hck;have hp:=Option.some.inj hp;have mixed:=mixedP;have t3:=Try.underlying3;have a3:=Try.isAgg3;have z3:=Try.sizeOf3;have v3:=Try.zeroValue3;have u3:=run_underlying Try.underlying3;have t4:=Try.underlying4;have a4:=Try.isAgg4;have z4:=Try.sizeOf4;have v4:=Try.zeroValue4;have t24:=Try.underlying24;have a24:=Try.isAgg24;have z24:=Try.sizeOf24;have v24:=Try.zeroValue24;have u24:=run_underlying Try.underlying24;have t23:=Try.underlying23;have a23:=Try.isAgg23;have z23:=Try.sizeOf23;have v23:=Try.zeroValue23;have u23:=run_underlying Try.underlying23;have t43:=Try.underlying43;have a43:=Try.isAgg43;have z43:=Try.sizeOf43;have v43:=Try.zeroValue43;have u43:=run_underlying Try.underlying43;have t88:=Try.underlying88;have a88:=Try.isAgg88;have z88:=Try.sizeOf88;have v88:=Try.zeroValue88;have u88:=run_underlying Try.underlying88
 go_enter Try.func94,Try.ntmps94
 have c27:=YG (Dc h fs hfr) M w [v0] (glob0 M) hC rfl (fun j a b ha hb=>by match j,ha,hb with | 0,ha,hb=>cases ha;cases hb;exact r0)
 go_wp2_with fail
 refine Calls.mono c27 ?_
 rintro e w1 ⟨fv,M1,rfl,hB1,s1,C1,o1,r1,_⟩
 obtain⟨fa,fc,rfl,hfc⟩:=Zp (l:=fs) (R.setLab (l':=none) r1);obtain⟨ha,hcap,rfl,hops⟩:=qci r0;clear c27
 go_wp2
 go_loopw [4,5] (fun a i wr=>∃ t:Nat,1≤t∧t≤7∧i=.int .i64 t∧Below w1.heap.size w1 wr∧∃ acc:List Int,acc=(D0 1 (t - 1)).flatMap (fun j=>rdsT (j:Nat) h fs)∧acc.length≤(t - 1) * 1000∧wr.ownsRow w1.heap.size 3 1 a acc.length (intsV acc))
  (fun _ i _=>8 - (RowKit.intOf i).toNat)
 case atStart=>exact⟨1,B6 _,by omega,rfl,Below.refl _ _,[],rfl,A6 _,World.ownsRow_nil w1 w1.heap.size 3 1⟩
 case round =>
  obtain⟨t,ht1,ht7,rfl,hB,acc,hacc,hal,hown⟩:=hrel;have hz:=hB.size;by_cases ht6:t≤6
  ·have i6:(t:Int)≤6:=by omega
   go_wp2
   go_loopw [4,19] (fun a i wr=>∃ k:Nat,k≤h.length∧i=.int .i64 k∧Below w1.heap.size w1 wr∧∃ ac2:List Int,ac2++rdsT (t:Nat) (h.drop k) (fs.drop k)=acc++rdsT (t:Nat) h fs∧wr.ownsRow w1.heap.size 3 1 a ac2.length (intsV ac2))
    (fun _ i _=>h.length - (RowKit.intOf i).toNat)
   case atStart=>exact⟨0,A6 _,rfl,hB,acc,rfl,hown⟩
   case round =>
    clear hB hown hz;obtain⟨k,hk,rfl,hB,ac2,hac2,hown⟩:=hrel;have hz:=hB.size
    have hlen2:ac2.length≤100000:=by
     have h1:=congrArg List.length hac2;rw[A1,A1]at h1;have h2:=UR (t:Nat) h fs;omega
    have Cr:=C1.below hB
    rcases Nat.lt_or_ge k h.length with hk1 | hk1
    ·obtain⟨b,off,rfl,e0,e1,e2⟩:=hops k _ (F0 hk1);obtain⟨fb,foff,rfl,ef⟩:=hfc k (by omega);rw[D8 hk1,D8 (by omega:k<fs.length)]at hac2;have q0:=qG (Cr _ _ _ (s1 _ _ _ e0)) rfl;have q1:=qG (Cr _ _ _ (s1 _ _ _ e1)) rfl;have q2:=qG (Cr _ _ _ (s1 _ _ _ e2)) rfl;have j0:(0:Int)≤(k:Int):=Int.natCast_nonneg _
     have j1:(k:Int)<(h.length:Int):=by omega
     have j2:(k:Int)<(fs.length:Int):=by omega
     generalize h[k]=x at hac2 q0 q1 q2 e0 e1 e2;generalize fs[k]=f at hac2 ef;obtain⟨tx,kx,ix⟩:=x;simp only at q0 q1 q2;have hac2:ac2++((bif tx == (t:Int) then (bif kx == 0 then [f] else []) else [])++rdsT (t:Nat) (h.drop (k+1)) (fs.drop (k+1)))=acc++rdsT (t:Nat) h fs:=hac2;obtain⟨w2,ew2⟩:∃ w2,w2=wr.alloc (.cells #[.int .i64 tx,.int .i64 kx,.int .i64 ix] 43):=⟨_,rfl⟩
     have z2:w2.heap.size=wr.heap.size+1:=by rw[ew2];simp
     have b2:∀ k,k<wr.heap.size→w2.heap[k]? = wr.heap[k]?:=fun k hk=>by rw[ew2];exact heap_alloc_old _ _ hk
     have n2:w2.heap[wr.heap.size]? = some (.cells #[.int .i64 tx,.int .i64 kx,.int .i64 ix] 43 (0,0)):=by rw[ew2];exact heap_alloc_new _ _
     have B2:Below w1.heap.size w1 w2:=by rw[ew2];exact hB.alloc (by omega) _
     have O2:=JF (w':=w2) hown fun k hk _=>b2 k hk
     have HW2:=(show Hid (w2=_) from ew2);have Hac:=(show Hid _ from hac2);by_cases htx:tx=(t:Int)
     ·subst htx;by_cases hk0:kx=0
      ·subst hk0;have Cw:=C1.below B2;have qf:=qG (Cw _ _ _ ef) rfl;obtain⟨w3,ew3⟩:∃ w3,w3=w2.alloc (.cells #[.int .i64 f] 3):=⟨_,rfl⟩
       have z3':w3.heap.size=w2.heap.size+1:=by rw[ew3];simp
       have n3:w3.heap[w2.heap.size]? = some (.cells #[.int .i64 f] 3 (0,0)):=by rw[ew3];exact heap_alloc_new _ _
       have B3:Below w1.heap.size w1 w3:=by rw[ew3];exact B2.alloc (by omega) _
       have O3:=JF (w':=w3) O2 fun k hk _=>by rw[ew3];exact heap_alloc_old _ _ hk
       have hll:ac2.length≤1000000000:=by omega
       have hbase:w1.heap.size≤w3.heap.size:=by omega
       have HW3:=(show Hid (w3=_) from ew3);rw[ew3,ew2]at O3 n3 hbase;rw[ew2]at qf
       have z2':(wr.alloc (.cells #[.int .i64 (t:Int),.int .i64 0,.int .i64 ix] 43)).heap.size=wr.heap.size+1:=by simp
       rw[z2']at n3;clear ew2 ew3 hac2 n2 O2
       go_wp2_with (first | (at_builtin;refine Yx rfl (.tmp 33) (.tmp 38) (by rfl) (by rfl) (by rfl) O3 n3 hll hbase ?_;intro g2 cap2 w4 ho4 hg4 ha4 hl4;rw[← HW2.out,← HW3.out]at hg4 ha4) | fail)
       have B4:Below w1.heap.size w1 w4:=⟨hg4.os.trans B3.os,hg4.tape.trans B3.tape,hg4.output.trans B3.output,B8 B3.size hg4.size,fun k hk=>by
        rw[hg4.block k (by omega) (fun e=>by have:=(hown.lt _ e.symm).1;omega)];exact B3.block k hk⟩
       go_roundw
       case rel =>
        refine⟨k+1,hk1,by go_num,B4,ac2++[f],?_,?_⟩
        ·have h5:=Hac.out
         simpa using h5
        ·rw[A1];exact ho4
       case measure=>simp[RowKit.intOf];omega
      ·have b0:(kx == 0)=false:=beq_eq_false_iff_ne.2 hk0
       have p0:w2.cell? ⟨wr.heap.size,0,none⟩=some (.int .i64 (t:Int)):=by simp[World.cell?,n2]
       rw[ew2]at p0;clear ew2 hac2
       go_wp2
       rw[← HW2.out]
       go_roundw
       case rel =>
        refine⟨k+1,hk1,by go_num,B2,ac2,?_,O2⟩;have h5:=Hac.out;rw[b0]at h5
        simpa using h5
       case measure=>simp[RowKit.intOf];omega
     ·have b0:(tx == (t:Int))=false:=beq_eq_false_iff_ne.2 htx;clear ew2 hac2
      go_wp2
      rw[← HW2.out]
      go_roundw
      case rel =>
       refine⟨k+1,hk1,by go_num,B2,ac2,?_,O2⟩;have h5:=Hac.out;rw[b0]at h5
       simpa using h5
      case measure=>simp[RowKit.intOf];omega
    ·obtain rfl:k=h.length:=by omega
     go_wp2
     rw[List.drop_length]at hac2;have hac2:ac2++rdsT (t:Nat) [] (fs.drop h.length)=acc++rdsT (t:Nat) h fs:=hac2
     have e0:rdsT (t:Nat) [] (fs.drop h.length)=[]:=by cases fs.drop h.length <;> rfl
     rw[e0,A3]at hac2
     go_wp2
     go_roundw
     case rel =>
      refine⟨t+1,by omega,by omega,by go_num,hB,ac2,?_,?_,hown⟩
      ·have e1:D0 1 (t+1 - 1)=D0 1 (t - 1)++[t]:=by
        have:t+1 - 1=(t - 1)+1:=by omega
        rw[this,List.range'_concat]
        congr 2;omega
       rw[e1,List.flatMap_append,hac2,hacc];simp
      ·rw[hac2,A1];have:=UR (t:Nat) h fs
       have e2:(t+1 - 1) * 1000=(t - 1) * 1000+1000:=by omega
       omega
     case measure=>simp[RowKit.intOf];omega
  ·obtain rfl:t=7:=by omega
   have hacc2:=(show Hid (acc=rdsF h fs) from hacc);clear hacc
   have z8:(wr.alloc (.cells #[.int .i64 0,.int .i64 0,.int .i64 0,.int .i64 0,.int .i64 0,.int .i64 0] 88)).heap.size=wr.heap.size+1:=by simp
   obtain⟨b8,hb8⟩:∃ b8,b8=wr.heap.size:=⟨_,rfl⟩;obtain⟨w2,ew2⟩:∃ w2,w2=wr.alloc (.cells #[.int .i64 0,.int .i64 0,.int .i64 0,.int .i64 0,.int .i64 0,.int .i64 0] 88):=⟨_,rfl⟩
   have n2:w2.heap[b8]? = some (.cells #[.int .i64 0,.int .i64 0,.int .i64 0,.int .i64 0,.int .i64 0,.int .i64 0] 88 (0,0)):=by rw[ew2,hb8];exact heap_alloc_new _ _
   have B2:Below w1.heap.size w1 w2:=by rw[ew2];exact hB.alloc (by omega) _
   have O2:=JF (w':=w2) hown fun k hk _=>by rw[ew2];exact heap_alloc_old _ _ hk
   have hnb:u4.ownBlock≠some b8:=fun e=>by have:=(hown.lt _ e).2;omega
   have z2:w2.heap.size=b8+1:=by rw[ew2,hb8];simp
   have HW2:=(show Hid (w2=_) from ew2);have HB8:=(show Hid (b8=_) from hb8)
   have hb1:w1.heap.size≤b8:=by omega
   clear ew2 hb8 z8
   go_wp2
   rw[← HW2.out,← HB8.out]
   go_loopw [43] (fun i wr2=>∃ k:Nat,k≤h.length∧i=.int .i64 k∧Below w1.heap.size w1 wr2∧b8<wr2.heap.size∧wr2.ownsRow w1.heap.size 3 1 u4 acc.length (intsV acc)∧∃ y0 y1 y2 y3 y4 y5,(h.drop k).foldl lstepR [y0,y1,y2,y3,y4,y5]=h.foldl lstepR [0,0,0,0,0,0]∧wr2.heap[b8]? = some (.cells #[.int .i64 y0,.int .i64 y1,.int .i64 y2,.int .i64 y3,.int .i64 y4,.int .i64 y5] 88 (0,0)))
    (fun i _=>h.length - (RowKit.intOf i).toNat)
   case atStart=>exact⟨0,A6 _,rfl,B2,by omega,O2,0,0,0,0,0,0,rfl,n2⟩
   case round =>
    clear hB B2 n2 O2 z2 hown hz;obtain⟨k,hk,rfl,hB,hb8s,hown,y0,y1,y2,y3,y4,y5,hfo,n8⟩:=hrel;have hz:=hB.size;have Cr:=C1.below hB
    rcases Nat.lt_or_ge k h.length with hk1 | hk1
    ·obtain⟨b,off,rfl,e0,e1,e2⟩:=hops k _ (F0 hk1);have hxo:=List.all_eq_true.1 hok _ (List.getElem_mem hk1);rw[D8 hk1]at hfo;have q0:=qG (Cr _ _ _ (s1 _ _ _ e0)) rfl;have q1:=qG (Cr _ _ _ (s1 _ _ _ e1)) rfl;have q2:=qG (Cr _ _ _ (s1 _ _ _ e2)) rfl;have j0:(0:Int)≤(k:Int):=Int.natCast_nonneg _
     have j1:(k:Int)<(h.length:Int):=by omega
     generalize h[k]=x at hfo q0 q1 q2 e0 e1 e2 hxo;obtain⟨tx,kx,ix⟩:=x;simp only at q0 q1 q2;have hfo:(h.drop (k+1)).foldl lstepR (lstepR [y0,y1,y2,y3,y4,y5] ⟨tx,kx,ix⟩)=h.foldl lstepR [0,0,0,0,0,0]:=hfo;unfold okR at hxo;simp only[Bool.or_eq_true,A2,D2,decide_eq_true_eq]at hxo;obtain⟨w3,ew3⟩:∃ w3,w3=wr.alloc (.cells #[.int .i64 tx,.int .i64 kx,.int .i64 ix] 43):=⟨_,rfl⟩
     have z3':w3.heap.size=wr.heap.size+1:=by rw[ew3];simp
     have b3:∀ k,k<wr.heap.size→w3.heap[k]? = wr.heap[k]?:=fun k hk=>by rw[ew3];exact heap_alloc_old _ _ hk
     have B3:Below w1.heap.size w1 w3:=by rw[ew3];exact hB.alloc (by omega) _
     have O3:=JF (w':=w3) hown fun k hk _=>b3 k hk
     have n3:=(b3 _ hb8s).trans n8;have HW3:=(show Hid (w3=_) from ew3);by_cases hk1':kx=1
     ·subst hk1'
      have hix:0≤ix∧ix<6:=by
       rcases hxo with h1 | h1
       ·cases h1
       ·exact h1
      obtain⟨i0',i6'⟩:=hix;obtain⟨w5,ew5⟩:∃ w5,w5=(wr.setCell ⟨b8,ix.toNat,none⟩ (.int .i64 tx)).alloc (.cells #[.int .i64 tx,.int .i64 1,.int .i64 ix] 43):=⟨_,rfl⟩
      have z5:w5.heap.size=w3.heap.size:=by rw[ew5,ew3];simp[JC]
      have b5:∀ j,j<wr.heap.size→j≠b8→w5.heap[j]? = wr.heap[j]?:=fun j hl hj=>by rw[ew5,heap_alloc_old _ _ (by rw[JC];exact hl),qX hj]
      have n5:w5.heap[b8]? = some (.cells ((#[.int .i64 y0,.int .i64 y1,.int .i64 y2,.int .i64 y3,.int .i64 y4,.int .i64 y5]:Array Value).setIfInBounds ix.toNat (.int .i64 tx)) 88 (0,0)):=by rw[ew5,heap_alloc_old _ _ (by rw[JC];exact hb8s)];exact Jg (j:=ix.toNat) (.int .i64 tx) n8
      have o5:w5.os=wr.os∧w5.tape=wr.tape∧w5.output=wr.output:=by rw[ew5];exact⟨rfl,rfl,rfl⟩
      have B5:Below w1.heap.size w1 w5:=⟨o5.1.trans hB.os,o5.2.1.trans hB.tape,o5.2.2.trans hB.output,by rw[z5];exact B3.size,fun k hk=>by rw[b5 k (by omega) (by omega)];exact hB.block k hk⟩
      have O5:=JF (w':=w5) hown fun k hk hkb=>b5 k hk fun e=>hnb (by rw[← e];exact hkb)
      obtain⟨x0,x1,x2,x3,x4,x5,hy1,hy2⟩:∃ x0 x1 x2 x3 x4 x5,([y0,y1,y2,y3,y4,y5]:List Int).set ix.toNat tx=[x0,x1,x2,x3,x4,x5]∧(#[.int .i64 y0,.int .i64 y1,.int .i64 y2,.int .i64 y3,.int .i64 y4,.int .i64 y5]:Array Value).setIfInBounds ix.toNat (.int .i64 tx)=#[.int .i64 x0,.int .i64 x1,.int .i64 x2,.int .i64 x3,.int .i64 x4,.int .i64 x5]:=by
       have:ix=0∨ix=1∨ix=2∨ix=3∨ix=4∨ix=5:=by omega
       rcases this with rfl | rfl | rfl | rfl | rfl | rfl <;> exact⟨_,_,_,_,_,_,rfl,rfl⟩
      rw[hy2]at n5;have hfo:(h.drop (k+1)).foldl lstepR (([y0,y1,y2,y3,y4,y5]:List Int).set ix.toNat tx)=h.foldl lstepR [0,0,0,0,0,0]:=hfo;rw[hy1]at hfo
      obtain⟨uo,c8⟩:∃ u,w3.cell? ⟨b8,ix.toNat,none⟩=some u:=by
       refine⟨(#[.int .i64 y0,.int .i64 y1,.int .i64 y2,.int .i64 y3,.int .i64 y4,.int .i64 y5]:Array Value)[ix.toNat]'(by simp;omega),?_⟩;simp only[World.cell?,n3];exact Array.getElem?_eq_getElem _
      have f8:w3.frozen? ⟨b8,ix.toNat,none⟩=false:=by simp[World.frozen?,n3]
      have HW5:=(show Hid (w5=_) from ew5);rw[ew3]at c8 f8;clear ew3 ew5
      go_wp2
      rw[← HW5.out]
      go_roundw
      case rel=>exact⟨k+1,hk1,by go_num,B5,by omega,O5,x0,x1,x2,x3,x4,x5,hfo,n5⟩
      case measure=>simp[RowKit.intOf];omega
     ·have b1:(kx == 1)=false:=beq_eq_false_iff_ne.2 hk1';unfold lstepR at hfo;rw[b1]at hfo;have hfo:=(show Hid _ from hfo);clear ew3
      go_wp2
      rw[← HW3.out]
      go_roundw
      case rel=>exact⟨k+1,hk1,by go_num,B3,by omega,O3,y0,y1,y2,y3,y4,y5,hfo.out,n3⟩
      case measure=>simp[RowKit.intOf];omega
    ·obtain rfl:k=h.length:=by omega
     rw[List.drop_length]at hfo;have hfo:[y0,y1,y2,y3,y4,y5]=h.foldl lstepR [0,0,0,0,0,0]:=hfo;obtain⟨i0,hi,hz0,hz1,hz2⟩:=info_parts Try.infoInt
     have hap:=fun ty c0=>run_append_lies (P:=Try.prog) wr 24 ty w1.heap.size 3 i0 (.int .i64 0) 1 8 Try.underlying24 hi hz0 hz1 hz2 rfl (by omega) u4 acc.length (intsV acc) hown ⟨b8,0,none⟩ 6 c0 [.int .i64 y0,.int .i64 y1,.int .i64 y2,.int .i64 y3,.int .i64 y4,.int .i64 y5] rfl (World.news_of_block n8) (by simp[Value.oneCell']) (by omega) (by unfold maxLen;omega) (by omega) hz _ rfl
     go_wp2_with (first | (at_builtin;refine Us rfl (.tmp 56) (.tmp 57) (by rfl) (by rfl) (by rfl) (hap _ _) ?_;rintro g2 cap2 w4 ⟨ho4,hg4,ha4,hl4⟩) | fail)
     go_ret
     have hr:r=acc++[y0,y1,y2,y3,y4,y5]:=by rw[← hp,← hfo,hacc2.out]
     subst hr
     have e6:(acc++[y0,y1,y2,y3,y4,y5]).length=acc.length+6:=by simp
     have ho5:w4.ownsRow w1.heap.size 3 1 (.slice (some ⟨g2,0,none⟩) (acc++[y0,y1,y2,y3,y4,y5]).length cap2) (acc++[y0,y1,y2,y3,y4,y5]).length (intsV (acc++[y0,y1,y2,y3,y4,y5])):=by
      rw[e6,Yo];exact ho4
     obtain⟨N,hN,hNR,hNb⟩:=Zk ho5
     have hNb':∀ b j u,N b j=some u→b=g2:=fun b j u hu=>by
      have:=hNb b j u hu
      simpa[Value.ownBlock] using this.symm
     have hg2:w.heap.size≤g2:=by
      have:=hB1.size
      rcases ha4 with h4 | h4
      ·have:=(hown.lt _ h4).1;omega
      ·omega
     have hMg:∀ j,M g2 j=none:=fun j=>by
      cases hm:M g2 j with
      | none=>rfl
      | some u=>have:=Yw (hC _ _ _ hm);omega
     have B4:Below w1.heap.size w1 w4:=⟨hg4.os.trans hB.os,hg4.tape.trans hB.tape,hg4.output.trans hB.output,B8 hB.size hg4.size,fun k hk=>by
      rw[hg4.block k (by omega) (fun e=>by have:=(hown.lt _ e.symm).1;omega)];exact hB.block k hk⟩
     have B04:Below w.heap.size w w4:=hB1.trans (B4.mono (by have:=hB1.size;omega));refine⟨_,mblk M N g2,rfl,B04,Vf hMg,VP (hC.below B04) hN,fun b j hb=>?_,?_,trivial⟩
     ·unfold mblk;rw[if_neg (by omega)]
     ·rw[e6]at hNR;exact hNR.mono (VO hNb')
end Go.Proofs
namespace Go.AM
open Go.Proofs
open Go.Proofs
def Vd (a1:(List rf5Op)):Option (List Int):=rviewP a1
theorem Va (a1:(List rf5Op)) (r:(List Int)) (h:Vd a1=some r):Run Try.prog (.call 94 [l43 none a1] (l3 none r)):=.ext0 (rview94 h)
def QY:Option Bool :=
 (some true)
def JA (w8:(List Int)) (K9:(Option Bool)):List Int→Nat→Option Bool
 | [],k1=>K9
 | x1::r1,k1=>((idx w8 (k1:Int)).bind fun e14=>(bif (e14 != x1) then (some false) else (JA w8 K9 r1 (k1+1))))
def YL (a1:(List rf5Op)) (a2:(List Int)):Option Bool :=
 ((YJ a1).bind fun w5=>((Vd w5).bind fun w6=>((Xz a1 a2).bind fun w7=>((Vd w7).bind fun w8=>(chk (lenOk w6) (JA w8 (QY) w6 0))))))
theorem Db (a1:(List rf5Op)) (a2:(List Int)) (r:Bool) (h:YL a1 a2=some r):Run Try.prog (.call 68 [l43 none a1,l3 none a2] (.bool r)):=by
 refine cW Try.func68 rfl (env0:=[(0,l43 none a1),(1,l3 none a2)]) ?_;unfold YL at h;refine W.seq ?_;let z0:=fun t=>EN ((0,l43 none a1)::(1,l3 none a2)::t);refine W.rt (e2:=z0 []) ?_;refine W.sr ?_;obtain⟨w5,hw5,h⟩:=qd h;let z1:=fun t=>z0 ((9,l43 none a1)::(10,l43 (some 10) w5)::t);refine WO.ck 1 (F:=93) (l:=[l43 none a1]) (C:=[]) (r:=l43 (some 1) w5) (HZ a1 w5 hw5) (e1:=z1 []) ?_;obtain⟨w6,hw6,h⟩:=qd h;let z2:=fun t=>z1 ((11,l3 none w6)::t);refine WO.ck 0 (F:=94) (l:=[l43 none w5]) (C:=[]) (r:=l3 none w6) (Va w5 w6 hw6) (e1:=z2 []) ?_;obtain⟨w7,hw7,h⟩:=qd h;let z3:=fun t=>z2 ((12,l43 none a1)::(13,l3 none a2)::(14,l43 (some 14) w7)::t);refine WO.ck 2 (F:=95) (l:=[l43 none a1,l3 none a2]) (C:=[]) (r:=l43 (some 1) w7) (UO a1 a2 w7 hw7) (e1:=z3 []) ?_;obtain⟨w8,hw8,h⟩:=qd h;refine WO.ck 0 (F:=94) (l:=[l43 none w7]) (C:=[]) (r:=l3 none w8) (Va w7 w8 hw8) (e1:=z3 [(15,l3 none w8)])<|WO.fn (e2:=[(5,l3 none w6),(6,l3 none w8)]) ?_;refine W.seq<|W.join (σ:=Unit) (fun s=>[]) (fun s=>(QY)=some r) (fun s h=>?_) (fun hK9=>?_)
 ·unfold QY at h;refine W.seq<|W.rt (e2:=[(4,.bool true)]) ?_;refine W.wk (e:=[(4,.bool true)]) ?_;cases h;exact W.rr
 refine W.sr<|WO.pq 1 (jM (.int .i64) w6) (e1:=[(5,l3 none w6),(6,l3 none w8),(16,l3 none w6),(17,I6 (w6.length:Int))]) ?_;let z4:=fun t=>EN ((6,l3 none w8)::(16,l3 none w6)::(17,I6 (w6.length:Int))::t);refine WO.fn (e2:=z4 [(18,.int .i64 0)]) ?_;refine W.block ?_;obtain⟨hl1,h⟩:=qh h;refine W.wk (e:=z4 [(18,I6 ((0:Nat):Int))])<|W.range (σ:=Unit) w6 (fun k1 s=>z4 [(18,I6 (k1:Int))]) (fun r0 k0 s=>JA w8 (QY) r0 k0=some r) (fun s h=>?_) (fun x1 r1 k1 s hx1 hk1 h hN1=>?_) () h
 ·rw[JA.eq_1]at h;refine W.sr ?_;let y0:Env:=[(16,l3 none w6),(17,I6 (w6.length:Int)),(18,I6 ((w6).length:Int)),(19,.bool false)];refine WO.pq 0 (jB (qS (l:=w6))) (e1:=((6,l3 none w8)::y0))<|WO.fn (e2:=((6,l3 none w8)::y0)) ?_;refine W.seq<|W.cF<|W.exit<|W.wk (e:=[]) ?_;exact hK9 () h
 ·rw[JA.eq_2]at h;refine W.sr ?_;let y1:Env:=[(16,l3 none w6),(17,I6 (w6.length:Int)),(18,I6 (k1:Int)),(19,.bool true)];let z5:=fun t=>EN ((6,l3 none w8)::t);refine WO.pq 0 (jB (jp hk1)) (e1:=z5 y1)<|WO.fn (e2:=z5 y1) ?_;refine W.seq<|W.cT<|W.skip ?_;let y2:Env:=[(16,l3 none w6),(17,I6 (w6.length:Int)),(18,I6 (k1:Int))];refine W.wk (e:=z5 y2)<|W.seq<|W.block<|W.sr ?_;let z6:=fun t=>z4 ((18,I6 (k1:Int))::t);refine WO.pq 1 (jq (f:=(AV.int .i64)) hx1) (e1:=z6 [(20,I6 (k1:Int)),(21,.ptr (I6 x1))])<|WO.fn (e2:=z5 ((7,I6 (k1:Int))::(8,I6 x1)::y2)) ?_;refine W.sr ?_;obtain⟨e14,he14,h⟩:=qd h;refine WO.pq 2 (Dp (f:=(AV.int .i64)) he14) (e1:=z5 [(7,I6 (k1:Int)),(8,I6 x1),(16,l3 none w6),(17,I6 (w6.length:Int)),(18,I6 (k1:Int)),(23,l3 none w8),(24,I6 (k1:Int)),(25,.ptr (I6 e14))])<|WO.fn (e2:=z6 [(28,.bool (e14 != x1))]) ?_;refine W.ch (e14 != x1) h (fun h=>?_) (fun h=>?_)
  ·refine W.seq<|W.rt (e2:=[(4,.bool false)]) ?_;refine W.wk (e:=[(4,.bool false)]) ?_;cases h;exact W.rr
  refine W.sw (e:=z5 y2) ?_;refine W.rg<|WO.pq 0 (jI (qE hl1 hk1)) (e1:=z6 [(29,I6 ((k1+1:Nat):Int))])<|WO.fn (e2:=z4 [(18,I6 ((k1+1:Nat):Int))]) ?_;exact hN1 () h
def QX:Option ((List Int)×Int) :=
 (some (([]:(List Int)),5))
def Jz (a1:(List rf5Op)) (K3:(Option ((List Int)×Int))):List (List Int)→Nat→Option ((List Int)×Int)
 | [],k1=>K3
 | x1::r1,k1=>((YL a1 x1).bind fun w10=>(bif w10 then (some (x1,0)) else (Jz a1 K3 r1 (k1+1))))
def YK (fuel:Nat) (a1:(List rf5Op)):Option ((List Int)×Int) :=
 ((Qe fuel a1).bind fun w5=>((jG fuel w5).bind fun w6=>(chk (lenOk w6) (Jz a1 (QX) w6 0))))
theorem Da (fuel:Nat) (a1:(List rf5Op)) (r:((List Int)×Int)) (h:YK fuel a1=some r):Run Try.prog (.call 31 [l43 none a1] (.tup [l3 none r.1,I6 r.2])):=by
 refine cW Try.func31 rfl (env0:=[(0,l43 none a1)]) ?_;unfold YK at h;refine W.seq ?_;let z0:=fun t=>EN ((0,l43 none a1)::t);refine W.rt (e2:=z0 []) ?_;refine W.seq<|W.join (σ:=Unit) (fun s=>[]) (fun s=>(QX)=some r) (fun s h=>?_) (fun hK3=>?_)
 ·unfold QX at h;refine W.seq<|W.rt (e2:=[(2,.nils),(3,.int .i64 5)]) ?_;refine W.weak [2,3] [] [(2,0,3,1,70002)] [] (env':=[(2,l3 (some 70002) ([]:(List Int))),(3,.int .i64 5)]) (by kernel_rfl) ?_;cases h;exact W.rr
 refine W.sr ?_;obtain⟨w5,hw5,h⟩:=qd h;let z1:=fun t=>z0 ((6,l43 none a1)::(7,l3 (some 7) w5)::t);refine WO.ck 1 (F:=57) (l:=[l43 none a1]) (C:=[]) (r:=l3 (some 1) w5) (Vb fuel a1 w5 hw5) (e1:=z1 []) ?_;obtain⟨w6,hw6,h⟩:=qd h;refine WO.ck 0 (F:=67) (l:=[l3 none w5]) (C:=[]) (r:=l24 none w6) (NC fuel w5 w6 hw6) (e1:=z1 [(8,l24 none w6)])<|WO.pq 0 (jM (encL 3 1 (AV.int .i64)) w6) (e1:=z1 [(8,l24 none w6),(9,I6 (w6.length:Int))]) ?_;let z2:=fun t=>z0 ((8,l24 none w6)::(9,I6 (w6.length:Int))::t);refine WO.fn (e2:=z2 [(10,.int .i64 0)]) ?_;refine W.block ?_;obtain⟨hl1,h⟩:=qh h;refine W.wk (e:=z2 [(10,I6 ((0:Nat):Int))])<|W.range (σ:=Unit) w6 (fun k1 s=>z2 [(10,I6 (k1:Int))]) (fun r0 k0 s=>Jz a1 (QX) r0 k0=some r) (fun s h=>?_) (fun x1 r1 k1 s hx1 hk1 h hN1=>?_) () h
 ·rw[Jz.eq_1]at h;refine W.sr ?_;let y0:Env:=[(8,l24 none w6),(9,I6 (w6.length:Int)),(10,I6 ((w6).length:Int)),(11,.bool false)];refine WO.pq 0 (jB (qS (l:=w6))) (e1:=z0 y0)<|WO.fn (e2:=z0 y0) ?_;refine W.seq<|W.cF<|W.exit<|W.wk (e:=[]) ?_;exact hK3 () h
 ·rw[Jz.eq_2]at h;refine W.sr ?_;let y1:Env:=[(8,l24 none w6),(9,I6 (w6.length:Int)),(10,I6 (k1:Int)),(11,.bool true)];refine WO.pq 0 (jB (jp hk1)) (e1:=z0 y1)<|WO.fn (e2:=z0 y1) ?_;refine W.seq<|W.cT<|W.skip ?_;let y2:Env:=[(8,l24 none w6),(9,I6 (w6.length:Int)),(10,I6 (k1:Int))];refine W.wk (e:=z0 y2)<|W.seq<|W.block<|W.sr<|WO.pq 0 (jq (f:=(encL 3 1 (AV.int .i64))) hx1) (e1:=z2 [(10,I6 (k1:Int)),(12,.ptr (l3 none x1))]) ?_;let z3:=fun t=>z0 ((5,l3 none x1)::t);refine WO.fn (e2:=z3 y2) ?_;refine W.sr ?_;obtain⟨w10,hw10,h⟩:=qd h;let z4:=fun t=>z3 ((8,l24 none w6)::(9,I6 (w6.length:Int))::(10,I6 (k1:Int))::t);refine WO.ck 2 (F:=68) (l:=[l43 none a1,l3 none x1]) (C:=[]) (r:=.bool w10) (Db a1 x1 w10 hw10) (e1:=z4 [(14,l43 none a1),(15,l3 none x1),(16,.bool w10)])<|WO.fn (e2:=z4 [(16,.bool w10)]) ?_;refine W.ch w10 h (fun h=>?_) (fun h=>?_)
  ·refine W.seq<|W.rt (e2:=[(2,l3 none x1),(3,.int .i64 0)]) ?_;refine W.wk (e:=[(2,l3 none x1),(3,.int .i64 0)]) ?_;cases h;exact W.rr
  refine W.sw (e:=z0 y2) ?_;refine W.rg<|WO.pq 0 (jI (qE hl1 hk1)) (e1:=z2 [(10,I6 (k1:Int)),(18,I6 ((k1+1:Nat):Int))])<|WO.fn (e2:=z2 [(10,I6 ((k1+1:Nat):Int))]) ?_;exact hN1 () h
def jn (v17:Bool):Option Bool :=
 (some v17)
def jY (v11:Bool):Option Bool :=
 (some v11)
def Qa (fuel:Nat) (a1:(List rf5Op)):Option Bool :=
 ((UY a1).bind fun w4=>((UA fuel w4).bind fun w5=>((XW a1).bind fun w8=>(bif (!w8) then (bif ((w5.1.length:Int) == 0) then (bif (w5.2 == 2) then ((Xq fuel).bind fun w10=>((jY) w10)) else ((jY) false)) else ((jY) false)) else ((YK fuel a1).bind fun w13=>((Jn w5.1 w13.1).bind fun w15=>(bif w15 then (bif (w5.2 == w13.2) then ((Xq fuel).bind fun w16=>((jn) w16)) else ((jn) false)) else ((jn) false))))))))
theorem YH (fuel:Nat) (a1:(List rf5Op)) (r:Bool) (h:Qa fuel a1=some r):Run Try.prog (.call 7 [l43 none a1] (.bool r)):=by
 refine cW Try.func7 rfl (env0:=[(0,l43 none a1)]) ?_;unfold Qa at h;refine W.seq ?_;let z0:=fun t=>EN ((0,l43 none a1)::t);refine W.rt (e2:=z0 []) ?_;refine W.sr ?_;obtain⟨w4,hw4,h⟩:=qd h;let z1:=fun t=>z0 ((8,l43 none a1)::(9,l44 (some 9) w4)::t);refine WO.ck 1 (F:=18) (l:=[l43 none a1]) (C:=[]) (r:=l44 (some 1) w4) (qbb a1 w4 hw4) (e1:=z1 []) ?_;obtain⟨w5,hw5,h⟩:=qd h;refine WO.ck 0 (F:=30) (l:=[l44 none w4]) (C:=[]) (r:=.tup [l3 none w5.1,I6 w5.2]) (DN fuel w4 w5 hw5) (e1:=z1 [(10,.tup [l3 none w5.1,I6 w5.2])]) ?_;let z2:=fun t=>z0 ((3,l3 none w5.1)::(4,I6 w5.2)::t);refine WO.fn (e2:=z2 []) ?_;refine W.seq<|W.sr ?_;obtain⟨w8,hw8,h⟩:=qd h;refine WO.ck 1 (F:=20) (l:=[l43 none a1]) (C:=[]) (r:=.bool w8) (ND a1 w8 hw8) (e1:=z2 [(13,l43 none a1),(14,.bool w8)]) ?_;let z3:=fun t=>z2 ((15,.bool (!w8))::t);refine WO.fn (e2:=z3 []) ?_;refine W.ch (!w8) h (fun h=>?_) (fun h=>?_)
 ·refine W.seq<|W.join (σ:=(Bool)) (fun s=>[(2,.bool s)]) (fun s=>(jY) s=some r) (fun v11 h=>?_) (fun hK9=>?_)
  ·unfold jY at h;refine W.wk (e:=[(2,.bool v11)]) ?_;cases h;exact W.rr
  refine W.rg ?_;let z4:=fun t=>z3 ((16,l3 none w5.1)::(17,I6 (w5.1.length:Int))::t);refine WO.pq 1 (jM (.int .i64) w5.1) (e1:=z4 [])<|WO.bh 2 (fun b=>z4 [(18,.bool b),(19,.bool b)]) ((w5.1.length:Int) == 0) h (fun h=>?_) (fun h=>?_)
  ·let z5:=fun t=>z4 ((18,.bool true)::(19,.bool true)::(20,I6 w5.2)::t);refine WO.bh 4 (fun b=>z5 [(21,.bool b),(22,.bool b),(23,.bool b)]) (w5.2 == 2) h (fun h=>?_) (fun h=>?_)
   ·obtain⟨w10,hw10,h⟩:=qd h;refine WO.ck 0 (F:=21) (l:=[]) (C:=[]) (r:=.bool w10) (ZC fuel w10 hw10) (e1:=z5 [(21,.bool true),(22,.bool true),(23,.bool true),(24,.bool w10)])<|WO.fn (e2:=[(2,.bool w10)]) ?_;exact hK9 w10 h
   refine WO.fn (e2:=[(2,.bool false)]) ?_;exact hK9 false h
  refine WO.fn (e2:=[(2,.bool false)]) ?_;exact hK9 false h
 refine W.sw (e:=z2 []) ?_;refine W.sr ?_;obtain⟨w13,hw13,h⟩:=qd h;refine WO.ck 1 (F:=31) (l:=[l43 none a1]) (C:=[]) (r:=.tup [l3 none w13.1,I6 w13.2]) (Da fuel a1 w13 hw13) (e1:=z2 [(27,l43 none a1),(28,.tup [l3 none w13.1,I6 w13.2])]) ?_;let z6:=fun t=>EN ((3,l3 none w5.1)::(4,I6 w5.2)::(5,l3 none w13.1)::(6,I6 w13.2)::t);refine WO.fn (e2:=z6 []) ?_;refine W.seq<|W.join (σ:=(Bool)) (fun s=>[(2,.bool s)]) (fun s=>(jn) s=some r) (fun v17 h=>?_) (fun hK14=>?_)
 ·unfold jn at h;refine W.wk (e:=[(2,.bool v17)]) ?_;cases h;exact W.rr
 refine W.rg ?_;obtain⟨w15,hw15,h⟩:=qd h;let z7:=fun t=>z6 ((31,l3 none w5.1)::(32,l3 none w13.1)::t);refine WO.ck 2 (F:=24) (l:=[l3 none w5.1,l3 none w13.1]) (C:=[]) (r:=.bool w15) (QG w5.1 w13.1 w15 hw15) (e1:=z7 [(33,.bool w15)])<|WO.bh 1 (fun b=>z7 [(33,.bool b),(34,.bool b)]) w15 h (fun h=>?_) (fun h=>?_)
 ·let z8:=fun t=>z7 ((33,.bool true)::(34,.bool true)::(35,I6 w5.2)::(36,I6 w13.2)::t);refine WO.bh 5 (fun b=>z8 [(37,.bool b),(38,.bool b),(39,.bool b)]) (w5.2 == w13.2) h (fun h=>?_) (fun h=>?_)
  ·obtain⟨w16,hw16,h⟩:=qd h;refine WO.ck 0 (F:=21) (l:=[]) (C:=[]) (r:=.bool w16) (ZC fuel w16 hw16) (e1:=z8 [(37,.bool true),(38,.bool true),(39,.bool true),(40,.bool w16)])<|WO.fn (e2:=[(2,.bool w16)]) ?_;exact hK14 w16 h
  refine WO.fn (e2:=[(2,.bool false)]) ?_;exact hK14 false h
 refine WO.fn (e2:=[(2,.bool false)]) ?_;exact hK14 false h
def vcat (q:List rf5Op):List Int:=([1,2,3,4,5,6]:List Int).flatMap (fun t=>readsW t q s0)++last6 (lastS s0 q)
theorem DZ {q:List rf5Op} (hq:NoAb q) (t:Int):∀ (r pre:List rf5Op),q=pre++r→rdsT t r (fromL q r pre.length)=readsW t r (lastS s0 pre)
 | [],pre,_=>rfl
 | x::r,pre,he=>by
  have ih:=DZ hq t r (pre++[x]) (by rw[he];simp);rw[A1,B7,Qv]at ih;show (bif x.qa == t then (bif x.qb == 0 then [fromAt q pre.length x] else []) else [])++rdsT t r (fromL q r (pre.length+1))=(bif rdB t x then [lastS s0 pre x.qc] else [])++readsW t r (stepW (lastS s0 pre) x);rw[ih]
  congr 1
  unfold rdB;by_cases h0:x.qb=0
  ·have b0:(x.qb == 0)=true:=by simp[h0]
   rw[b0,D4,qbO hq he h0];rfl
  ·have b0:(x.qb == 0)=false:=beq_eq_false_iff_ne.2 h0;rw[b0,Bool.and_false];cases x.qa == t <;> rfl
theorem Hv {q:List rf5Op} (hi:∀ x,x∈q→0≤x.qc∧x.qc≤5):∀ (r pre:List rf5Op),q=pre++r→r.foldl lstepR (last6 (lastS s0 pre))=last6 (lastS s0 q)
 | [],pre,he=>by rw[A3]at he;rw[he];rfl
 | x::r,pre,he=>by
  have hx:=hi x (by rw[he];simp)
  have e2:lstepR (last6 (lastS s0 pre)) x=last6 (lastS s0 (pre++[x])):=by
   rw[Qv];show lstepR (last6 (lastS s0 pre)) x=last6 (stepW (lastS s0 pre) x);unfold lstepR stepW wrB last6
   cases x.qb == 1 with
   | false=>rfl
   | true =>
    have h6:x.qc=0∨x.qc=1∨x.qc=2∨x.qc=3∨x.qc=4∨x.qc=5:=by omega
    rcases h6 with h | h | h | h | h | h <;> rw[h] <;> rfl
  rw[List.foldl_cons,e2];exact Hv hi r (pre++[x]) (by rw[he];simp)
theorem UN {q:List rf5Op} (H:Hist q) (hq:NoAb q):rviewP q=some (vcat q):=by
 have hl:=H.len;unfold rviewP;rw[qcj H,A0]
 have hck:(decide (q.length≤1000) && (decide ((fromL q q 0).length=q.length) && q.all okR))=true:=by
  simp only[A2,decide_eq_true_eq,VR,C9];refine⟨hl,trivial,fun y hy=>?_⟩;have hi:=H.item y hy;unfold okR;rw[decide_eq_true hi.1,decide_eq_true (by omega)];simp
 rw[hck,qt]
 congr 1
 unfold rdsF vcat
 have e:∀ t:Int,rdsT t q (fromL q q 0)=readsW t q s0:=fun t=>DZ hq t q [] rfl
 have f:=Hv H.item q [] rfl
 congr 1
 show (([1,2,3,4,5,6]:List Nat).flatMap fun j=>rdsT (j:Nat) q (fromL q q 0))=_;simp only[A8,D1,e];rfl
theorem Dh (t:Int) (K:List rf5Op→Option (List rf5Op)):∀ (r:List rf5Op) (k:Nat) (v:List rf5Op),v.length+r.length≤50000→qY t K r k v=K (v++r.filter fun x=>x.qa == t)
 | [],k,v,_=>by rw[qY.eq_1];simp
 | x::r,k,v,hl=>by
  have hl:v.length+(r.length+1)≤50000:=hl;rw[qY.eq_2];unfold JU;rw[D6]
  cases hx:x.qa == t with
  | true =>
   rw[cond_true,capS (by omega) (by simp;omega),qt,Dh t K r (k+1) _ (by simp;omega)];simp
  | false =>
   rw[cN,Dh t K r (k+1) _ (by omega)];simp
theorem qbJ {q:List rf5Op} (hq:q.length≤1000) (K:List rf5Op→Option (List rf5Op)):∀ (r:List Int) (k:Nat) (v:List rf5Op),v.length+r.length * 1000≤40000→qH q K r k v=K (v++serV q r)
 | [],k,v,_=>by rw[qH.eq_1];simp[serV]
 | t::r,k,v,hl=>by
  have hl:v.length+(r.length+1) * 1000≤40000:=hl;rw[qH.eq_2,jy (by omega),qt,Dh t _ q 0 v (by omega)];unfold Jb;have:=A7 (fun x:rf5Op=>x.qa == t) q;rw[qbJ hq K r (k+1) _ (by rw[A1];omega)];have e:serV q (t::r)=(q.filter fun x=>x.qa == t)++serV q r:=rfl;rw[e];simp
theorem DP {q:List rf5Op} (hq:q.length≤1000) {o:List Int} (ho:o.length≤6):Xz q o=some (serV q o):=by
 unfold Xz;rw[jy (by omega),qt,qbJ hq _ o 0 [] (by simp;omega)];simp[qZ]
theorem Ha {h:List rf5Op}:∀ {o:List Int},(∀ t,t∈o→t∈commL h)→serV (partL h) o=serV h o
 | [],_=>rfl
 | t::o,hm=>by
  have e:∀ q,serV q (t::o)=(q.filter fun x=>x.qa == t)++serV q o:=fun _=>rfl
  rw[e,e,Ha fun u hu=>hm u (by simp[hu])]
  congr 1
  rw[VN,D9]
  refine E0 fun x _=>?_
  by_cases hx:x.qa=t
  ·have hd:doneB h t=true:=decide_eq_true (Yb.1 (hm t (by simp))).2;rw[hx,hd];simp
  ·simp[hx]
theorem Zh (t:Int):∀ (l:List rf5Op) (s:Int→Int),(readsW t l s).length=(l.filter (rdB t)).length
 | [],s=>rfl
 | x::l,s=>by
  show ((bif rdB t x then [s x.qc] else [])++readsW t l (stepW s x)).length=_;rw[A1,Zh t l,D6];cases rdB t x <;> simp <;> omega
theorem UK {q:List rf5Op} {t:Int}:∀ {o:List Int},o.Nodup→(serV q o).filter (fun x=>x.qa == t)=if t∈o then q.filter (fun x=>x.qa == t) else []
 | [],_=>rfl
 | u::o,hn=>by
  obtain⟨n1,n2⟩:=List.nodup_cons.1 hn;have e:serV q (u::o)=(q.filter fun x=>x.qa == u)++serV q o:=rfl;rw[e,D3,UK n2,D9];by_cases hu:t=u
  ·subst hu;rw[if_neg n1,if_pos (by simp),A3]
   refine E0 fun x _=>?_
   simp
  ·have h0:q.filter (fun x=>(x.qa == t) && (x.qa == u))=[]:=by
    rw[F3];intro x _ hx;simp only[A2,beq_iff_eq]at hx;exact hu (by omega)
   rw[h0,List.nil_append];by_cases hm:t∈o
   ·rw[if_pos hm,if_pos (by simp[hm])]
   ·rw[if_neg hm,if_neg (by simp[hm,hu])]
theorem qcc {h:List rf5Op} (H:Hist h) {o:List Int} (hp:o.Perm (commL h)) (t:Int):(readsW t (serV (partL h) o) s0).length=(readsW t (partL h) s0).length:=by
 rw[Zh,Zh]
 have e:∀ l:List rf5Op,l.filter (rdB t)=(l.filter fun x=>x.qa == t).filter fun x=>x.qb == 0:=fun l=>by
  rw[D9]
  refine E0 fun x _=>?_
  unfold rdB;rw[Bool.and_comm]
 rw[e,e,UK (hp.nodup_iff.2 (Jd h))];by_cases hm:t∈o
 ·rw[if_pos hm]
 ·rw[if_neg hm]
  have:(partL h).filter (fun x=>x.qa == t)=[]:=by
   rw[F3];intro x hx hxt;exact hm (hp.mem_iff.2 (by rw[← eq_of_beq hxt];exact qde H hx))
  rw[this]
theorem Zx {a b c d:List Int} (h:a.length=b.length):((a++c) == (b++d))=((a == b) && (c == d)):=by
 rw[C7,A2,beq_iff_eq,beq_iff_eq,beq_iff_eq];exact⟨fun e=>List.append_inj e h,fun ⟨e1,e2⟩=>by rw[e1,e2]⟩
theorem qdL (f g:Int→Int):(last6 f == last6 g)=((f 0 == g 0) && ((f 1 == g 1) && ((f 2 == g 2) && ((f 3 == g 3) && ((f 4 == g 4) && (f 5 == g 5)))))):=by
 unfold last6;rw[C7];simp
theorem qbU {p q:List rf5Op} (h:∀ t,(readsW t p s0).length=(readsW t q s0).length):(vcat p == vcat q)=sameV p q:=by
 unfold vcat sameV;simp only[A8,D1,A3,List.append_assoc];rw[Zx (h 1),Zx (h 2),Zx (h 3),Zx (h 4),Zx (h 5),Zx (h 6)];simp only[qdL,List.all_cons,List.all_nil,D4,Bool.and_assoc]
theorem qcQ {p q:List rf5Op} (h:∀ t,(readsW t p s0).length=(readsW t q s0).length):(vcat p).length=(vcat q).length:=by
 unfold vcat;simp only[A8,D1,A1,h];rfl
theorem qbH (b:List Int):∀ (a pre b':List Int),b=pre++b'→a.length=b'.length→JA b QY a pre.length=some (b' == a)
 | [],pre,b',_,hl=>by
  have:b'=[]:=List.length_eq_zero_iff.1 hl.symm;subst this;rw[JA.eq_1];rfl
 | x::a,pre,y::b',hb,hl=>by
  have h:idx b ((pre.length:Nat):Int)=some y:=by
   rw[hb];exact qbt (by simp)
  have ih:=qbH b a (pre++[y]) b' (by rw[hb];simp) (by simpa using hl);rw[A1,B7]at ih;rw[JA.eq_2,h];simp only[A0];rw[ih];show _=some ((y == x) && (b' == a));cases hxy:y == x <;> simp[bne,hxy]
theorem qce {h:List rf5Op} (hv:validB h=true) {o:List Int} (hp:o.Perm (commL h)):YL h o=some (sameV (serV (partL h) o) (partL h)):=by
 obtain⟨H,h40⟩:=UB hv;have hp40:(partL h).length≤40:=B8 (A7 _ _) h40
 have HP:Hist (partL h):=Vl H (by omega) fun x hx=>(List.mem_filter.1 hx).1
 have ho:o.length≤6:=by rw[hp.length_eq];exact Yc h
 have hl:=UL (partL h) o;have h6:o.length * (partL h).length≤6 * 40:=Nat.mul_le_mul ho hp40
 have HS:Hist (serV (partL h) o):=Vl HP (by omega) fun x hx=>ZX hx
 have hrd:=qcc H hp
 have hvl:(vcat (partL h)).length≤100000:=by
  unfold vcat
  have:∀ t,(readsW t (partL h) s0).length≤40:=fun t=>by
   rw[Zh];exact B8 (A7 _ _) hp40
  simp only[A8,D1,A1,last6,D7,List.length_nil];have h1:=this 1;have h2:=this 2;have h3:=this 3;have h4:=this 4;have h5:=this 5;have h6:=this 6;omega
 unfold YL Vd;rw[qcf H,A0,UN HP (Zj hv),A0,DP H.len ho,A0,← Ha (fun t ht=>hp.mem_iff.1 ht),UN HS (fun x hx=>Zj hv x (ZX hx)),A0,jy (by omega),qt];have hsl:=qbH (vcat (serV (partL h) o)) (vcat (partL h)) [] (vcat (serV (partL h) o)) rfl (qcQ fun t=>(hrd t).symm);rw[qbU hrd]at hsl;exact hsl
theorem Uc:∀ (n:Nat) (l:List Int),l.length≤n→permsF n l=permsF l.length l
 | n,[],_=>by cases n <;> rfl
 | 0,x::l,h=>by simp at h
 | n+1,x::l,h=>by
  have e:∀ n,permsF (n+1) (x::l)=(x::l).flatMap fun y=>(permsF n ((x::l).erase y)).map (y::·):=fun _=>rfl
  rw[D7,e,e]
  have key:∀ (L:List Int),(∀ y,y∈L→y∈x::l)→(L.flatMap fun y=>(permsF n ((x::l).erase y)).map (y::·))=L.flatMap fun y=>(permsF l.length ((x::l).erase y)).map (y::·):=by
   intro L
   induction L with
   | nil=>intro _;rfl
   | cons z L ih =>
    intro hL
    have hz:((x::l).erase z).length=l.length:=by rw[E7 (hL z (by simp))];rfl
    rw[A8,A8,ih fun y hy=>hL y (by simp[hy]),Uc n _ (by rw[hz];simpa using h),hz]
  exact key _ fun _ h=>h
theorem DM {h:List rf5Op} (hv:validB h=true) (K:Option (List Int×Int)):∀ (ps:List (List Int)) (k:Nat),(∀ p,p∈ps→p.Perm (commL h))→Jz h K ps k=match ps.find? (fun o=>sameV (serV (partL h) o) (partL h)) with | some p=>some (p,0) | none=>K
 | [],k,_=>by rw[Jz.eq_1];rfl
 | p::ps,k,hp=>by
  rw[Jz.eq_2,qce hv (hp p (by simp)),A0,DM hv K ps (k+1) fun q hq=>hp q (by simp[hq]),List.find?_cons];cases sameV (serV (partL h) p) (partL h) <;> rfl
theorem qcd {h:List rf5Op} (hv:validB h=true):YK bigFuel h=some (viewR h):=by
 obtain⟨H,h40⟩:=UB hv;have h6:=Yc h;have e:bigFuel=36893488147419103231+1:=rfl;have hpm:∀ p,p∈permsF (commL h).length (commL h)↔p.Perm (commL h):=YP (Jd h) (B6 _);have hlen:=Zi (commL h).length (commL h) (B6 _);unfold YK;rw[qco H,A0,e,Hi _ _ (Jd h) (by omega) h6,A0,Uc _ _ (by omega),jy (by have:=qds h6;omega),qt,DM hv _ _ 0 fun p hp=>(hpm p).1 hp];unfold viewR;rw[hv,if_pos rfl,Zs _ (Jd h)];unfold QX;cases (permsF (commL h).length (commL h)).find? (fun o=>sameV (serV (partL h) o) (partL h)) <;> rfl
theorem Vk {h:List rf5Op} (hl:lenOk h=true):Qa bigFuel h=some true:=by
 unfold Qa;rw[qdT hl,A0,qcP,A0,qba hl,A0,qcJ]
 cases hv:validB h with
 | false =>
  have e3:viewR h=([],2):=by unfold viewR;rw[hv];rfl
  rw[e3];rfl
 | true =>
  have h3:=qcO h;rw[qcd hv];simp only[Bool.not_true,cN,A0];rw[qbx (by omega)];simp[jn]
end Go.AM
namespace Go.AM
open Go.Proofs Go.Proofs.Ytoiejpkfpjingaa Go.ChangeShapes Go.WideShapes Go.ChangeAt Go.RowKit
theorem readsOp:Reads Try.prog 43 qM (fun _=>True) :=
 Dj (P := Try.prog) (size := 3) (fs := #[Field.mk "Txn" 3 0 false "" "" 0, Field.mk "Kind" 3 1 false "" "" 8, Field.mk "Item" 3 2 false "" "" 16]) (fun b : Int × Int × Int × Unit => (⟨b.1, b.2.1, b.2.2.1⟩ : rf5Op)) (by kernel_rfl) (by kernel_rfl)
  (Ys (f:=AV.int .i64) (ok:=fun n=>(Lit.int .i64 n).wf=true) (n:=1) (off':=1) rfl (by kernel_rfl) rfl (VM (k:=.i64) (by kernel_rfl)) (Ys (f:=AV.int .i64) (ok:=fun n=>(Lit.int .i64 n).wf=true) (n:=1) (off':=2) rfl (by kernel_rfl) rfl (VM (k:=.i64) (by kernel_rfl)) (Ys (f:=AV.int .i64) (ok:=fun n=>(Lit.int .i64 n).wf=true) (n:=1) (off':=3) rfl (by kernel_rfl) rfl (VM (k:=.i64) (by kernel_rfl)) (qay rfl))))
  (fun b=>rfl) (fun b h=>trivial)
theorem qcn:Reads Try.prog 23 (encL 43 3 qM) (fun l=>l.length≤maxLen∧∀ d,d∈l→True) :=
 DW (by kernel_rfl) (by kernel_rfl) (by decide) readsOp (fun _=>rfl) (fun _=>rfl)
theorem qcA {α:Type} {l:List α} (h:l.length≤maxLen):lenOk l=true:=Nat.ble_eq_true_of_le (by unfold maxLen at h;omega)
theorem own:ownKnob Try.prog.godebug=none:=by kernel_rfl
theorem mixed:Try.prog.follows .mixedOrders=true:=by kernel_rfl
theorem laid:laidOutB Try.prog=true:=by kernel_rfl
end Go.AM
