import Derived.Test.YtoiejpkfpjingaaHDT
import Derived.Test.YtoiejpkfpjingaaHD2
import Derived.Test.YtoiejpkfpjingaaASimK
import Derived.Test.YtoiejpkfpjingaaChecked
import Derived.Test.YtoiejpkfpjingaaELkA
import Derived.Laws.EntriesVeiled
set_option linter.all false
set_option maxRecDepth 100000
open Option renaming bind_some→A0, map→A4, map_eq_some_iff→C8
open Int renaming toNat→A1
open Go.World renaming cell?→A2, frozen?→D1, cell?_of_block→F6
open List renaming mem_of_getElem?→A3, any_cons→A6, getElem?_map→A7, length_erase_of_mem→A8, getElem?_eq_getElem→A9, range→B5, mem_cons_of_mem→B7, map_cons→B9, mem_cons_self→C4, getD_eq_getElem?_getD→C5, getElem?_take_of_lt→C6, getElem_of_mem→C7, length_filter_le→D2, map_nil→D3, filter_cons→D4, any_eq_false→D8, length_map→D9, perm_cons_erase→E0, eq_nil_of_length_eq_zero→E7, take_of_length_le→E8, mem_append_left→E9, getElem_cons_drop→F0, take_append_drop→F3, pairwise_filter→F4, pairwise_iff_forall_sublist→F5
open Nat renaming le_refl→A5, le_trans→B6
open Bool renaming and_eq_true→D0, false_eq_true→D5, true_and→D6, or_false→D7
open Array renaming getElem?_eq_getElem→F7
namespace Go.AM
open Go.Proofs
def srcB (E:Int→Int→Bool) (l:List Int) (b:Int):Bool:=!(l.any fun a=>E a b)
def topo (E:Int→Int→Bool):Nat→List Int→Option (List Int)
 | _,[]=>some []
 | 0,_::_=>none
 | n+1,x::l=>match (x::l).find? (srcB E (x::l)) with
  | none=>none
  | some b=>(topo E n ((x::l).erase b)).map (b::·)
def permsF:Nat→List Int→List (List Int)
 | _,[]=>[[]]
 | 0,_::_=>[]
 | n+1,x::l=>(x::l).flatMap fun y=>(permsF n ((x::l).erase y)).map (y::·)
def agreesB (E:Int→Int→Bool):List Int→Bool
 | []=>true
 | b::r=>(r.all fun c=>!E c b) && agreesB E r
theorem Vh {E:Int→Int→Bool}:∀ {p:List Int},agreesB E p=true↔p.Pairwise fun a c=>E c a=false
 | []=>by simp[agreesB]
 | b::r=>by
  rw[List.pairwise_cons,← Vh (p:=r)];simp[agreesB]
theorem Nk:∀ {n:Nat} {l:List Int},l.Nodup→l.length≤n→∀ p,p∈permsF n l↔p.Perm l
 | n,[],_,_,p=>by
  have:permsF n []=[[]]:=by cases n <;> rfl
  rw[this,List.mem_singleton,List.perm_nil]
 | 0,x::l,_,h,_=>by simp at h
 | n+1,x::l,hn,hl,p=>by
  have e:permsF (n+1) (x::l)=(x::l).flatMap fun y=>(permsF n ((x::l).erase y)).map (y::·):=rfl
  rw[e,List.mem_flatMap];constructor
  ·rintro⟨y,hy,hp⟩
   obtain⟨q,hq,rfl⟩:=List.mem_map.1 hp;have:=(Nk (n:=n) (hn.erase y) (by rw[A8 hy];simp at hl ⊢;omega) q).1 hq;exact (this.cons y).trans (E0 hy).symm
  ·intro hp
   cases p with
   | nil=>exact absurd hp.length_eq (by simp)
   | cons y q =>
    have hy:y∈x::l:=hp.mem_iff.1 (by simp);refine⟨y,hy,List.mem_map.2 ⟨q,?_,rfl⟩⟩;refine (Nk (n:=n) (hn.erase y) (by rw[A8 hy];simp at hl ⊢;omega) q).2 ?_;have:=hp.trans (E0 hy);exact (List.perm_cons y).1 this
theorem qeK {α:Type} (p q:List α):sub (p++q) ((p.length:Nat):Int) ((p++q).length:Int)=some q:=by
 unfold sub
 have e:(((p++q).length:Nat):Int).toNat=(p++q).length:=by omega
 rw[if_pos ⟨by omega,by simp only[List.length_append];omega,by omega⟩,e,List.take_length];simp
theorem Zy (x a:qj):qv x a=true↔x=a:=by
 cases x;cases a;simp[qv]
theorem Dk {x a:qj} (h:¬ x=a):qv x a=false:=by rw[← Bool.not_eq_true,Zy];exact h
theorem DL {V:Type} (z v:V) (k t:qj):∀ l:List (qj×V),mget qv z t (mset qv k v l)=bif qv k t then v else mget qv z t l
 | []=>by
  unfold mset mget mget;rfl
 | p::r=>by
  have ih:=DL z v k t r;unfold mset
  cases hk:qv p.1 k with
  | true =>
   have hk:=(Zy _ _).1 hk;simp only[cT];unfold mget;have e2:qv (p.1,v).1 t=qv p.1 t:=rfl;rw[e2,hk];cases qv k t <;> rfl
  | false =>
   simp only[cN];unfold mget;rw[ih]
   cases hp:qv p.1 t with
   | false=>rfl
   | true =>
    have hp:=(Zy _ _).1 hp
    have h:qv k t=false:=Dk fun e=>by
     rw[hp,← e,(Zy k k).2 rfl]at hk;cases hk
    rw[h];rfl
theorem NY {V:Type} (k:qj) (v:V):∀ l:List (qj×V),(mset qv k v l).length≤l.length+1
 | []=>by simp[mset]
 | p::r=>by
  have:=NY k v r;unfold mset;cases qv p.1 k <;> simp <;> omega
def partL (h:List rf5Op):List rf5Op:=h.filter fun x=>decide (endL x.qb 2 h 0 ≥ 0)
theorem YG {h:List rf5Op} {t:Int}:t∈commL h↔(1≤t∧t≤6)∧endL t 2 h 0 ≥ 0:=by
 unfold commL;rw[List.mem_filter,decide_eq_true_eq]
 refine and_congr_left fun _=>?_
 simp;omega
theorem Yg (h:List rf5Op):(commL h).Nodup:=List.Pairwise.filter _ (by decide)
theorem Xx (h:List rf5Op):(commL h).length≤6:=B6 (D2 _ _) (by simp)
theorem qcZ {h:List rf5Op} (K:List hsOp→Option (List hsOp)):∀ (r:List rf5Op) (k:Nat) (v:List hsOp),(∀ x,x∈r→1≤x.qb∧x.qb≤6)→v.length+r.length≤1000 →
  jo (commL h) K (r.map cv) k v=K (v++(r.filter fun x=>decide (endL x.qb 2 h 0 ≥ 0)).map cv)
 | [],k,v,_,_=>by rw[D3,jo.eq_1];simp
 | x::r,k,v,hx,hl=>by
  have hl:v.length+(r.length+1)≤1000:=hl
  have ih:=fun v' h1=>qcZ (h:=h) K r (k+1) v' (fun y hy=>hx y (B7 _ hy)) h1
  rw[B9,jo.eq_2];unfold QF;have hb:=hx x (C4 ..)
  have hc:(commL h).contains (cv x).qb=decide (endL x.qb 2 h 0 ≥ 0):=by
   rw[Bool.eq_iff_iff,List.contains_iff_mem,decide_eq_true_eq];show x.qb∈commL h↔_;rw[YG];exact⟨fun h=>h.2,fun h=>⟨hb,h⟩⟩
  rw[VB (by have:=Xx h;omega),hc,D4];simp only[A0]
  cases decide (endL x.qb 2 h 0 ≥ 0) with
  | true =>
   simp only[cT,if_true];rw[capS (by omega) (by simp;omega),qx,ih _ (by simp;omega)];simp
  | false =>
   simp only[cN,D5,if_false];rw[ih _ (by omega)]
theorem qfH {h:List rf5Op} (H:Hist h):QM bigFuel (h.map cv)=some ((partL h).map cv):=by
 have:=H.len;unfold QM;rw[YO H,A0,jv (by simp;omega),qx,qcZ _ h 0 [] H.txn (by simpa using this)];rfl
theorem qcP {h:List rf5Op} (hl:lenOk h=true) (K:List rf5Op→Option (List rf5Op)):∀ (r:List rf5Op) (k:Nat) (v:List rf5Op),v.length+r.length≤1000 →
  JU h K r k v=K (v++r.filter fun x=>decide (endL x.qb 2 h 0 ≥ 0))
 | [],k,v,_=>by rw[JU.eq_1];simp
 | x::r,k,v,hv=>by
  have hv:v.length+(r.length+1)≤1000:=hv
  have ih:=fun v' h1=>qcP hl K r (k+1) v' h1
  rw[JU.eq_2];unfold YR;rw[qfj hl,D4];simp only[A0]
  cases decide (endL x.qb 2 h 0 ≥ 0) with
  | true =>
   simp only[cT,if_true];rw[capS (by omega) (by simp;omega),qx,ih _ (by simp;omega)];simp
  | false =>
   simp only[cN,D5,if_false];rw[ih _ (by omega)]
theorem qfw {h:List rf5Op} (H:Hist h):VS h=some (partL h):=by
 have:=H.len;have hl:lenOk h=true:=jv (by omega);unfold VS;rw[hl,qx,qcP hl _ h 0 [] (by simpa using this)];rfl
theorem Yy {h:List rf5Op} (hl:lenOk h=true) (K:List Int→Option (List Int)) (m:Nat) (v:List Int) (t t':Int) (hv:v.length≤10) (h1:1≤t) (h2:t≤6) (ht:t'=t+1) :
  jx h K (m+1) v t=jx h K m (v++if endL t 2 h 0 ≥ 0 then [t] else []) t':=by
 subst ht;rw[jx.eq_2,dT h2,qfj hl];unfold QQ;simp only[cT,A0];rw[wr (by omega) (by omega)];by_cases hc:endL t 2 h 0 ≥ 0
 ·rw[dT hc,if_pos hc,cT,capS (by omega) (by simp;omega),qx]
 ·rw[dF hc,if_neg hc,cN,List.append_nil]
theorem Nr (v:List Int) (c:Prop) [Decidable c] (t:Int) (n:Nat) (hv:v.length≤n):(v++if c then [t] else []).length≤n+1:=by
 split <;> simp <;> omega
theorem qfG {h:List rf5Op} (H:Hist h):XO bigFuel h=some (commL h):=by
 have:=H.len;have hl:lenOk h=true:=jv (by omega);unfold XO;have e:bigFuel=36893488147419103225+1+1+1+1+1+1+1:=rfl;have l0:([]:List Int).length≤0:=A5 _;have l1:=Nr _ (endL 1 2 h 0 ≥ 0) 1 0 l0;have l2:=Nr _ (endL 2 2 h 0 ≥ 0) 2 1 l1;have l3:=Nr _ (endL 3 2 h 0 ≥ 0) 3 2 l2;have l4:=Nr _ (endL 4 2 h 0 ≥ 0) 4 3 l3;have l5:=Nr _ (endL 5 2 h 0 ≥ 0) 5 4 l4;rw[e,Yy hl _ _ _ 1 2 (by omega) (by omega) (by omega) rfl,Yy hl _ _ _ 2 3 (by omega) (by omega) (by omega) rfl,Yy hl _ _ _ 3 4 (by omega) (by omega) (by omega) rfl,Yy hl _ _ _ 4 5 (by omega) (by omega) (by omega) rfl,Yy hl _ _ _ 5 6 (by omega) (by omega) (by omega) rfl,Yy hl _ _ _ 6 7 (by omega) (by omega) (by omega) rfl];rw[jx.eq_2,dF (by omega),cN];unfold JE commL
 congr 1
 simp only[D4,List.filter_nil];by_cases c1:endL 1 2 h 0 ≥ 0 <;> by_cases c2:endL 2 2 h 0 ≥ 0 <;> by_cases c3:endL 3 2 h 0 ≥ 0 <;> by_cases c4:endL 4 2 h 0 ≥ 0 <;> by_cases c5:endL 5 2 h 0 ≥ 0 <;> by_cases c6:endL 6 2 h 0 ≥ 0 <;> simp[c1,c2,c3,c4,c5,c6]
def clash (x y:rf5Op):Bool:=(x.qb != y.qb) && ((x.qi == y.qi) && ((if y.qh > x.qh then y.qh else x.qh) == 1))
def confL:List rf5Op→Int→Int→Bool
 | [],_,_=>false
 | x::r,a,b=>(r.any fun y=>clash x y && ((x.qb == a) && (y.qb == b))) || confL r a b
theorem qhT (x:rf5Op) (hx:1≤x.qb∧x.qb≤6) (K:List (qj×Bool)→Option (List (qj×Bool))):∀ (r:List rf5Op) (k:Nat) (v:List (qj×Bool)),(∀ y,y∈r→1≤y.qb∧y.qb≤6)→v.length+r.length≤10000000 →
  ∃ v',qJ (cv x) K (r.map cv) k v=K v'∧v'.length≤v.length+r.length∧∀ a b,edgeB v' a b=(edgeB v a b || r.any fun y=>clash x y && ((x.qb == a) && (y.qb == b)))
 | [],k,v,_,_=>⟨v,by rw[D3,qJ.eq_1],by simp,fun a b=>by simp⟩
 | y::r,k,v,hy,hl=>by
  have hl:v.length+(r.length+1)≤10000000:=hl;have hb:=hy y (C4 ..)
  have ih:=fun v' h1=>qhT x hx K r (k+1) v' (fun z hz=>hy z (B7 _ hz)) h1
  have e:qJ (cv x) K ((y::r).map cv) k v=jJ (cv x) (cv y) v (jw (qJ (cv x) K (r.map cv) (k+1))) (clash x y):=by
   rw[B9,qJ.eq_2];show (bif (x.qb != y.qb) then (bif (x.qi == y.qi) then _ else _) else _)=_;unfold clash;cases (x.qb != y.qb) <;> cases (x.qi == y.qi) <;> rfl
  rw[e];unfold jJ jw
  cases hc:clash x y with
  | false =>
   simp only[cN];obtain⟨v',h1,h2,h3⟩:=ih v (by omega);refine⟨v',h1,by simp;omega,fun a b=>?_⟩;rw[h3,A6,hc];simp
  | true =>
   simp only[cT];have w1:wfI .i64 (cv x).qb=true:=wf6 (by show -1000≤x.qb;omega) (by show x.qb≤1000;omega);have w2:wfI .i64 (cv y).qb=true:=wf6 (by show -1000≤y.qb;omega) (by show y.qb≤1000;omega);have w3:Nat.blt v.length 1000000000=true:=Nat.ble_eq_true_of_le (by omega);rw[w1,w2,w3];simp only[Bool.and_self,qx];have hm:=NY (qj.mk (cv x).qb (cv y).qb) true v;obtain⟨v',h1,h2,h3⟩:=ih _ (by omega:(mset qv (qj.mk (cv x).qb (cv y).qb) true v).length+r.length≤10000000);refine⟨v',h1,by simp;omega,fun a b=>?_⟩;rw[h3,A6,hc,D6]
   have e2:edgeB (mset qv (qj.mk (cv x).qb (cv y).qb) true v) a b=(((x.qb == a) && (y.qb == b)) || edgeB v a b):=by
    unfold edgeB;rw[DL]
    have:qv (qj.mk (cv x).qb (cv y).qb) (qj.mk a b)=((x.qb == a) && (y.qb == b)):=by
     show ((x.qb == a) && ((y.qb == b) && true))=_;rw[Bool.and_true]
    rw[this];cases (x.qb == a) && (y.qb == b) <;> rfl
   rw[e2];cases edgeB v a b <;> cases (x.qb == a) && (y.qb == b) <;> simp
theorem qhU {h:List rf5Op} (hh:h.length≤1000) (ht:∀ x,x∈h→1≤x.qb∧x.qb≤6) (K:List (qj×Bool)→Option (List (qj×Bool))):∀ (r:List rf5Op) (k:Nat) (v:List (qj×Bool)) (pre:List rf5Op),h=pre++r→pre.length=k→v.length+r.length * 1000≤9000000 →
  ∃ v',qG (h.map cv) K (r.map cv) k v=K v'∧v'.length≤v.length+r.length * 1000∧∀ a b,edgeB v' a b=(edgeB v a b || confL r a b)
 | [],k,v,pre,_,_,_=>⟨v,by rw[D3,qG.eq_1],by simp,fun a b=>by simp[confL]⟩
 | x::r,k,v,pre,he,hk,hl=>by
  have hl:v.length+(r.length+1) * 1000≤9000000:=hl
  have hlen:pre.length+(r.length+1)≤1000:=by rw[he]at hh;simpa using hh
  have hs:sub (h.map cv) ((k+1:Nat):Int) ((h.map cv).length:Int)=some (r.map cv):=by
   have:=qeK ((pre++[x]).map cv) (r.map cv)
   have e:(pre++[x]).map cv++r.map cv=h.map cv:=by rw[he];simp
   rw[e]at this
   simpa[hk] using this
  rw[B9,qG.eq_2,hs,A0,jv (by simp;omega),qx];obtain⟨v1,h1,h2,h3⟩:=qhT x (ht x (by rw[he];simp)) (jn (qG (h.map cv) K (r.map cv) (k+1))) r 0 v (fun y hy=>ht y (by rw[he];simp[hy])) (by omega);obtain⟨v2,g1,g2,g3⟩:=qhU hh ht K r (k+1) v1 (pre++[x]) (by rw[he];simp) (by simp[hk]) (by omega);refine⟨v2,by rw[h1];exact g1,by simp;omega,fun a b=>?_⟩;rw[g3,h3];show ((_ || _) || _)=(_ || (_ || confL r a b));rw[Bool.or_assoc]
theorem qfJ {h:List rf5Op} (hh:h.length≤1000) (ht:∀ x,x∈h→1≤x.qb∧x.qb≤6):∃ es,Qk (h.map cv)=some es∧∀ a b,edgeB es a b=confL h a b:=by
 unfold Qk;rw[jv (by simp;omega),qx];obtain⟨es,h1,_,h3⟩:=qhU hh ht (qR) h 0 [] [] rfl rfl (by simp;omega);exact⟨es,h1,fun a b=>by rw[h3];simp[edgeB,mget]⟩
def at2 (v:List Bool) (a b:Int):Bool:=v.getD (a.toNat * 7+b.toNat) false
theorem qht {v:List Bool} (hv:v.length=49) {a b:Int} (ha:0≤a∧a≤6) (hb:0≤b∧b≤6):v[((0+A1 a * 7)+A1 b * 1)]? = some (at2 v a b):=by
 have e:(0+A1 a * 7)+A1 b * 1=a.toNat * 7+b.toNat:=by omega
 rw[e]
 have hl:a.toNat * 7+b.toNat<v.length:=by omega
 unfold at2;rw[C5,A9 hl];rfl
theorem qhQ {v:List Bool} (hv:v.length=49) {a b c d:Int} (ha:0≤a∧a≤6) (hb:0≤b∧b≤6) (hc:0≤c∧c≤6) (hd:0≤d∧d≤6):at2 (v.set ((0+A1 c * 7)+A1 d * 1) true) a b=(at2 v a b || ((c == a) && (d == b))):=by
 have e:(0+A1 c * 7)+A1 d * 1=c.toNat * 7+d.toNat:=by omega
 rw[e];unfold at2;rw[C5,C5,List.getElem?_set];by_cases h:c.toNat * 7+d.toNat=a.toNat * 7+b.toNat
 ·have h1:c=a:=by omega
  have h2:d=b:=by omega
  subst h1;subst h2;rw[if_pos rfl,if_pos (by omega)];simp
 ·rw[if_neg h]
  have:((c == a) && (d == b))=false:=by
   rw[Bool.and_eq_false_iff,beq_eq_false_iff_ne,beq_eq_false_iff_ne];by_cases h1:c=a
   ·right;intro h2;subst h1;subst h2;exact h rfl
   ·exact .inl h1
  rw[this,D7]
theorem qaf (x:rf5Op) (a b:Int):∀ pre:List rf5Op,confL (pre++[x]) a b=(confL pre a b || pre.any fun p=>clash p x && ((p.qb == a) && (x.qb == b)))
 | []=>by simp[confL]
 | p::pre=>by
  show ((pre++[x]).any _ || confL (pre++[x]) a b)=((pre.any _ || confL pre a b) || _);rw[qaf x a b pre,List.any_append,A6];simp only[A6,List.any_nil,D7];generalize pre.any (fun y=>clash p y && (p.qb == a && y.qb == b))=A;generalize (clash p x && (p.qb == a && x.qb == b))=B;generalize confL pre a b=C;generalize pre.any (fun p=>clash p x && (p.qb == a && x.qb == b))=D;cases A <;> cases B <;> cases C <;> cases D <;> rfl
theorem qhR (x:rf5Op) (hx:1≤x.qb∧x.qb≤6) (hxk:0≤x.qh∧x.qh≤3) (K:List Bool→Option (List Bool)):∀ (e:List rf5Op) (k:Nat) (v:List Bool),(∀ y,y∈e→(1≤y.qb∧y.qb≤6)∧0≤y.qh∧y.qh≤3)→v.length=49 →
  ∃ v',qW x K e k v=K v'∧v'.length=49∧∀ a b,0≤a∧a≤6→0≤b∧b≤6→at2 v' a b=(at2 v a b || e.any fun p=>clash p x && ((p.qb == a) && (x.qb == b)))
 | [],k,v,_,hv=>⟨v,by rw[qW.eq_1],hv,fun a b _ _=>by simp⟩
 | y::e,k,v,hy,hv=>by
  obtain⟨hb,hk⟩:=hy y (C4 ..)
  have ih:=fun v' h1=>qhR x hx hxk K e (k+1) v' (fun z hz=>hy z (B7 _ hz)) h1
  have e1:qW x K (y::e) k v=Jg x y v (jT (qW x K e (k+1))) (clash y x):=by
   rw[qW.eq_2,wr (by omega) (by omega)];unfold clash;have c1:(x.qi == y.qi)=(y.qi == x.qi):=Bool.beq_comm
   have c2:(x.qb != y.qb)=(y.qb != x.qb):=by simp only[bne,Bool.beq_comm]
   rw[c1,c2]
   have hkk:((if x.qh > y.qh then x.qh else y.qh) == 1)=(decide (x.qh<2) && (decide (y.qh<2) && decide (x.qh+y.qh > 0))):=by
    have h1:x.qh=0∨x.qh=1∨x.qh=2∨x.qh=3:=by omega
    have h2:y.qh=0∨y.qh=1∨y.qh=2∨y.qh=3:=by omega
    rcases h1 with h1 | h1 | h1 | h1 <;> rcases h2 with h2 | h2 | h2 | h2 <;> rw[h1,h2] <;> rfl
   rw[hkk];cases decide (x.qh<2) <;> cases decide (y.qh<2) <;> cases decide (x.qh+y.qh > 0) <;> cases (y.qi == x.qi) <;> cases (y.qb != x.qb) <;> rfl
  rw[e1];unfold Jg jT
  cases hc:clash y x with
  | false =>
   simp only[cN];obtain⟨v',h1,h2,h3⟩:=ih v hv;refine⟨v',h1,h2,fun a b ha hb'=>?_⟩;rw[h3 a b ha hb',A6,hc];simp
  | true =>
   simp only[cT];rw[dT (by omega),dT (by omega),dT (by rw[hv];omega)];simp only[qx];obtain⟨v',h1,h2,h3⟩:=ih _ (by rw[List.length_set];exact hv:(v.set ((0+A1 y.qb * 7)+A1 x.qb * 1) true).length=49);refine⟨v',h1,h2,fun a b ha hb'=>?_⟩;rw[h3 a b ha hb',A6,hc,D6,qhQ hv ha hb' (by omega) (by omega),Bool.or_assoc]
theorem qhS {w:List rf5Op} (hh:w.length≤1000) (ht:∀ y,y∈w→(1≤y.qb∧y.qb≤6)∧0≤y.qh∧y.qh≤3) (K:List Bool→Option (List Bool)):∀ (r:List rf5Op) (k:Nat) (v:List Bool) (pre:List rf5Op),w=pre++r→pre.length=k→v.length=49→(∀ a b,0≤a∧a≤6→0≤b∧b≤6→at2 v a b=confL pre a b) →
  ∃ v',qZ w K r k v=K v'∧v'.length=49∧∀ a b,0≤a∧a≤6→0≤b∧b≤6→at2 v' a b=confL w a b
 | [],k,v,pre,he,hk,hv,hc=>⟨v,by rw[qZ.eq_1],hv,fun a b ha hb=>by rw[hc a b ha hb,he,List.append_nil]⟩
 | x::r,k,v,pre,he,hk,hv,hc=>by
  have hlen:pre.length+(r.length+1)≤1000:=by rw[he]at hh;simpa using hh
  have hs:sub w 0 (k:Int)=some pre:=by rw[he,← hk];exact UZ pre _
  rw[qZ.eq_2,hs,A0,jv (by omega),qx];obtain⟨tx,kx⟩:=ht x (by rw[he];simp);obtain⟨v1,h1,h2,h3⟩:=qhR x tx kx (Jp (qZ w K r (k+1))) pre 0 v (fun y hy=>ht y (by rw[he];simp[hy])) hv;obtain⟨v2,g1,g2,g3⟩:=qhS hh ht K r (k+1) v1 (pre++[x]) (by rw[he];simp) (by simp[hk]) h2 (fun a b ha hb=>by rw[h3 a b ha hb,hc a b ha hb,qaf]);exact⟨v2,by rw[h1];exact g1,g2,g3⟩
theorem qfF {h:List rf5Op} (H:Hist h):∃ v,XN h=some v∧v.length=49∧∀ a b,0≤a∧a≤6→0≤b∧b≤6→at2 v a b=confL (partL h) a b:=by
 have hl:=H.len;have hp:(partL h).length≤1000:=B6 (D2 _ _) hl;unfold XN;rw[qfw H,A0,jv (by omega),qx]
 have h0:∀ a b,0≤a∧a≤6→0≤b∧b≤6→at2 (List.replicate 49 false) a b=confL [] a b:=fun a b ha hb=>by
  unfold at2;rw[C5,List.getElem?_replicate];split <;> rfl
 obtain⟨v,h1,h2,h3⟩:=qhS hp (fun y hy=>⟨H.txn y (List.mem_filter.1 hy).1,H.kind y (List.mem_filter.1 hy).1⟩) jm (partL h) 0 _ [] rfl rfl (by simp) h0;refine⟨v,?_,h2,h3⟩;rw[h1];unfold jm;rw[h2];simp[chk]
theorem Nw {p:Int→Bool}:∀ (l:List Int),(l.findIdx? p=none∧l.find? p=none)∨∃ k b,l.findIdx? p=some k∧l.find? p=some b∧l[k]? = some b∧(l.Nodup→l.take k++l.drop (k+1)=l.erase b)
 | []=>.inl ⟨rfl,rfl⟩
 | a::l=>by
  rw[List.findIdx?_cons,List.find?_cons]
  cases hp:p a with
  | true=>exact .inr ⟨0,a,rfl,rfl,rfl,fun _=>by simp⟩
  | false =>
   rcases Nw (p:=p) l with ⟨h1,h2⟩ | ⟨k,b,h1,h2,h3,h4⟩
   ·exact .inl ⟨by rw[h1];rfl,h2⟩
   ·refine .inr ⟨k+1,b,by rw[h1];rfl,h2,by simpa using h3,fun hn=>?_⟩
    have hb:b≠a:=fun e=>by
     have:=List.find?_some h2;rw[e,hp]at this;cases this
    rw[List.erase_cons_tail (by simpa using fun e=>hb e.symm)];simp only[List.take_succ_cons,List.drop_succ_cons,List.cons_append];rw[h4 (List.nodup_cons.1 hn).2]
theorem Nt {g:Int→Option Bool} {p:Int→Bool}:∀ (l:List Int) (k:Nat),(∀ x,x∈l→g x=some (p x))→Ja g Qq l k=some (match l.findIdx? p with | some j=>((k+j:Nat):Int) | none => -1)
 | [],k,_=>by rw[Ja.eq_1];rfl
 | x::l,k,h=>by
  rw[Ja.eq_2,h x (by simp),A0,List.findIdx?_cons,Nt l (k+1) fun y hy=>h y (by simp[hy])]
  cases p x with
  | true=>simp
  | false =>
   simp only[cN,D5,if_false]
   cases l.findIdx? p with
   | none=>rfl
   | some j =>
    show some (((k+1+j:Nat)):Int)=some (((k+(j+1):Nat)):Int)
    congr 1;omega
theorem UF {l:List Int} (hl:l.length≤100000) {g:Int→Option Bool} {p:Int→Bool} (h:∀ x,x∈l→g x=some (p x)):QB l g=some (match l.findIdx? p with | some j=>(j:Int) | none => -1):=by
 unfold QB;rw[jv (by omega),qx,Nt l 0 h];cases l.findIdx? p <;> simp
theorem Hd {l:List Int} (hl:l.length≤100000) {g:Int→Option Bool} {p:Int→Bool} (h:∀ x,x∈l→g x=some (p x)):Qr l g=some (l.any p):=by
 unfold Qr;rw[UF hl h,A0]
 congr 1
 cases hf:l.findIdx? p with
 | none =>
  rw[List.findIdx?_eq_none_iff]at hf
  have:l.any p=false:=by rw[D8];intro x hx;simp[hf x hx]
  rw[this];rfl
 | some j =>
  have:l.any p=true:=by
   rw[List.any_eq_true];obtain⟨hj,h1,_⟩:=List.findIdx?_eq_some_iff_getElem.1 hf;exact⟨_,List.getElem_mem hj,h1⟩
  rw[this];simp
theorem qgA {es:List (qj×Bool)} {l:List Int} (hl:l.length≤100000) (hw:∀ x,x∈l→wfI .i64 x=true) (b:Int) (hb:wfI .i64 b=true):Ql b l es=some (srcB (edgeB es) l b):=by
 unfold Ql;rw[Hd (p:=fun a=>edgeB es a b) hl fun x hx=>?_]
 ·rfl
 ·unfold Qt;rw[hw x hx,hb];rfl
theorem qaP {es:List (qj×Bool)} (K:List Int→Option (List Int×Bool)):∀ (n m:Nat) (v out left:List Int),left.length=n→snap 0 n v=left→left.Nodup→(∀ x,x∈left→wfI .i64 x=true)→n<m→out.length+n≤1000 →
  jH es K m v n out=match topo (edgeB es) n left with | none=>some ([],false) | some o=>K (out++o)
 | 0,m,v,out,left,hl,hs,_,_,hm,_=>by
  obtain⟨m,rfl⟩:∃ m',m=m'+1:=⟨m - 1,by omega⟩;have:left=[]:=E7 hl;subst this;rw[jH.eq_2,dF (by omega)];simp[topo]
 | n+1,m,v,out,left,hl,hs,hn,hw,hm,ho=>by
  obtain⟨m,rfl⟩:∃ m',m=m'+1:=⟨m - 1,by omega⟩;rw[jH.eq_2,dT (by omega),cT,hs];rw[UF (p:=srcB (edgeB es) left) (by omega) fun x hx=>qgA (by omega) hw x (hw x hx),A0]
  have ht:topo (edgeB es) (n+1) left=match left.find? (srcB (edgeB es) left) with | none=>none | some b=>(topo (edgeB es) n (left.erase b)).map (b::·):=by
   cases left with
   | nil=>simp at hl
   | cons x r=>rfl
  rw[ht]
  rcases Nw (p:=srcB (edgeB es) left) left with ⟨h1,h2⟩ | ⟨k,b,h1,h2,h3,h4⟩
  ·rw[h1,h2];rfl
  ·rw[h1,h2];simp only;have hk:=(List.getElem?_eq_some_iff.1 h3).1;have hb:b∈left:=A3 h3
   have hvk:v[0+A1 (k:Int)]? = some b:=by
    have:=congrArg (fun l=>l[k]?) hs;unfold snap at this;simp only[List.drop_zero,List.getElem?_take]at this;rw[if_pos (by omega)]at this;rw[Nat.zero_add,Int.toNat_natCast,this];exact h3
   rw[dF (by omega),cN,dT (by omega),qx,hvk,A0,capS (by omega) (by simp;omega),qx,wr (by omega) (by omega)];unfold YJ;rw[dT ⟨rfl,by omega,by omega,by omega,rfl⟩,qx,A0,Int.toNat_natCast];simp only
   have hle:(left.erase b).length=n:=by rw[A8 hb];omega
   have he:left.length - 1=n:=by omega
   rw[he,qaP K n m _ (out++[b]) (left.erase b) hle ?_ (hn.erase b) (fun x hx=>hw x (List.mem_of_mem_erase hx)) (by omega) (by simp;omega)]
   ·cases topo (edgeB es) n (left.erase b) with
    | none=>rfl
    | some o=>simp
   ·unfold snap;rw[List.drop_zero,h4 hn]
    have:(left.erase b++[0]).take n=(left.erase b).take n:=by rw[List.take_append_of_le_length (by omega)]
    rw[this,E8 (by omega)]
theorem Dw {es:List (qj×Bool)} {l:List Int} (hl:l.length≤500) (hn:l.Nodup) (hw:∀ x,x∈l→wfI .i64 x=true):QK bigFuel es l=some (match topo (edgeB es) l.length l with | none=>([],false) | some o=>(o,true)):=by
 unfold QK XI;rw[capS (by omega) (by omega),qx,A0,qaP _ l.length bigFuel l [] l rfl (by unfold snap;simp) hn hw (by unfold bigFuel;omega) (by simp;omega)];cases topo (edgeB es) l.length l <;> rfl
theorem Hv {α β:Type} {f:α→List β} {m:Nat}:∀ {l:List α},(∀ x,x∈l→(f x).length≤m)→(l.flatMap f).length≤l.length * m
 | [],_=>by simp
 | a::l,h=>by
  rw[List.flatMap_cons,List.length_append,List.length_cons,Nat.add_mul,Nat.one_mul]
  have:=Hv (l:=l) fun x hx=>h x (by simp[hx])
  have:=h a (by simp);omega
def facN:Nat→Nat
 | 0=>1
 | n+1=>(n+1) * facN n
theorem ZZ:∀ (n:Nat) (l:List Int),l.length≤n→(permsF n l).length≤facN l.length∧∀ p,p∈permsF n l→p.length=l.length
 | n,[],_=>by
  have:permsF n []=[[]]:=by cases n <;> rfl
  rw[this];exact⟨A5 _,fun p hp=>by rw[List.mem_singleton.1 hp]⟩
 | 0,x::l,h=>by simp at h
 | n+1,x::l,h=>by
  have e:permsF (n+1) (x::l)=(x::l).flatMap fun y=>(permsF n ((x::l).erase y)).map (y::·):=rfl
  have hy:∀ y,y∈x::l→((x::l).erase y).length=l.length:=fun y hy=>by rw[A8 hy];rfl
  have hl:l.length≤n:=by simpa using h
  refine⟨?_,fun p hp=>?_⟩
  ·rw[e];refine B6 (Hv (m:=facN l.length) fun y hm=>?_) (A5 _);rw[D9];have:=(ZZ n ((x::l).erase y) (by rw[hy y hm];exact hl)).1;rw[hy y hm]at this;exact this
  ·rw[e,List.mem_flatMap]at hp;obtain⟨y,hm,hp⟩:=hp;obtain⟨q,hq,rfl⟩:=List.mem_map.1 hp;have:=(ZZ n ((x::l).erase y) (by rw[hy y hm];exact hl)).2 q hq;rw[hy y hm]at this;simp[this]
theorem qhg {n:Nat} (h:n≤6):facN n≤720:=by
 have:n=0∨n=1∨n=2∨n=3∨n=4∨n=5∨n=6:=by omega
 rcases this with rfl | rfl | rfl | rfl | rfl | rfl | rfl <;> decide
theorem qdb (x:Int) (K:List (List Int)→Option (List (List Int))):∀ (ps:List (List Int)) (k:Nat) (v:List (List Int)),(∀ p,p∈ps→p.length≤100)→v.length+ps.length≤90000→Qd x K ps k v=K (v++ps.map (x::·))
 | [],k,v,_,_=>by rw[Qd.eq_1];simp
 | p::ps,k,v,hp,hl=>by
  have hl:v.length+(ps.length+1)≤90000:=hl;have:=hp p (by simp);rw[Qd.eq_2,capS (by omega) (by simp;omega),qx,capS (by omega) (by simp;omega),qx,qdb x K ps (k+1) _ (fun q hq=>hp q (by simp[hq])) (by simp;omega)];simp
theorem qgz {pre r:List Int} {x:Int} (hn:(pre++x::r).Nodup):pre++r=(pre++x::r).erase x:=by
 rw[List.erase_append_right]
 ·simp
 ·intro h;have:=List.nodup_append.1 hn;exact this.2.2 x h x (by simp) rfl
theorem qdc {a:List Int} (hn:a.Nodup) (h6:a.length≤6) (P0:List Int→List (List Int)) (K0:List Int→Option (List (List Int))) (hK:∀ x,x∈a→K0 (a.erase x)=some (P0 (a.erase x))∧(P0 (a.erase x)).length≤10000∧∀ p,p∈P0 (a.erase x)→p.length≤50) (K:List (List Int)→Option (List (List Int))) :
  ∀ (r:List Int) (k:Nat) (v:List (List Int)) (pre:List Int),a=pre++r→pre.length=k→v.length≤k * 10000→Jf a K0 K r k v=K (v++r.flatMap fun y=>(P0 (a.erase y)).map (y::·))
 | [],k,v,pre,_,_,_=>by rw[Jf.eq_1];simp
 | x::r,k,v,pre,he,hk,hv=>by
  have hlen:pre.length+(r.length+1)≤6:=by rw[he]at h6;simpa using h6
  have h1:sub a 0 (k:Int)=some pre:=by rw[he,← hk];exact UZ pre _
  have h2:sub a ((k+1:Nat):Int) (a.length:Int)=some r:=by
   have:=qeK (pre++[x]) r
   have e:(pre++[x])++r=a:=by rw[he];simp
   rw[e]at this
   simpa[hk] using this
  obtain⟨k1,k2,k3⟩:=hK x (by rw[he];simp)
  have h3:([]:List Int)++pre++r=a.erase x:=by rw[he,List.nil_append];exact qgz (he ▸ hn)
  rw[Jf.eq_2,h1,A0,capS (by omega) (by simp;omega),qx,h2,A0,capS (by omega) (by simp;omega),qx,h3,k1,A0,jv (by omega),qx];rw[qdb x _ _ 0 v (fun p hp=>by have:=k3 p hp;omega) (by omega)];unfold QX;rw[qdc hn h6 P0 K0 hK K r (k+1) _ (pre++[x]) (by rw[he];simp) (by simp[hk]) (by simp;omega)];simp
theorem qba:∀ (n:Nat) (l:List Int),l.Nodup→l.length≤n→l.length≤6→JY (n+1) l=some (permsF n l)
 | n,[],_,_,_=>by
  have:permsF n []=[[]]:=by cases n <;> rfl
  rw[JY.eq_2,this];rfl
 | 0,x::l,_,h,_=>by simp at h
 | n+1,x::l,hn,hl,h6=>by
  have e:permsF (n+1) (x::l)=(x::l).flatMap fun y=>(permsF n ((x::l).erase y)).map (y::·):=rfl
  have hy:∀ y,y∈x::l→((x::l).erase y).length=l.length:=fun y hy=>by rw[A8 hy];rfl
  have hl:l.length≤n:=by simpa using hl
  have h6':l.length≤5:=by simpa using h6
  have hz:(((x::l).length:Int) == 0)=false:=by rw[beq_eq_false_iff_ne];simp;omega
  rw[JY.eq_2,hz,cN,jv (by omega),qx,qdc hn h6 (permsF n) (JY (n+1)) (fun y hm=>?_) _ (x::l) 0 [] [] rfl rfl (by simp),e]
  ·rfl
  ·have hlen:=ZZ n ((x::l).erase y) (by rw[hy y hm];exact hl);rw[hy y hm]at hlen;refine⟨qba n _ (hn.erase y) (by rw[hy y hm];exact hl) (by rw[hy y hm];omega),?_,fun p hp=>by rw[hlen.2 p hp];omega⟩;have:=qhg (n:=l.length) (by omega);omega
def chkFrom (E:Int→Int→Bool) (pre:List Int):List Int→Bool
 | []=>true
 | x::r=>(pre.all fun a=>!E x a) && chkFrom E (pre++[x]) r
theorem qai {E:Int→Int→Bool}:∀ (r pre:List Int),agreesB E (pre++r)=(agreesB E pre && chkFrom E pre r)
 | [],pre=>by simp[chkFrom]
 | x::r,pre=>by
  have h1:agreesB E (pre++[x])=(agreesB E pre && pre.all fun a=>!E x a):=by
   induction pre with
   | nil=>simp[agreesB]
   | cons a p ih =>
    show ((p++[x]).all (fun c=>!E c a) && agreesB E (p++[x]))=((p.all (fun c=>!E c a) && agreesB E p) && (!E x a && p.all fun a=>!E x a));rw[ih,List.all_append];simp only[List.all_cons,List.all_nil,Bool.and_true];generalize p.all (fun c=>!E c a)=A;generalize E x a=B;generalize agreesB E p=C;generalize p.all (fun a=>!E x a)=D;cases A <;> cases B <;> cases C <;> cases D <;> rfl
  have:=qai (E:=E) r (pre++[x]);rw[List.append_assoc]at this;show agreesB E (pre++([x]++r))=(agreesB E pre && ((pre.all fun a=>!E x a) && chkFrom E (pre++[x]) r));rw[this,h1,Bool.and_assoc]
theorem qbH {w:List Bool} (hw:w.length=49) (x:Int) (hx:0≤x∧x≤6) (K:Option Bool):∀ (e:List Int) (k:Nat),(∀ y,y∈e→0≤y∧y≤6)→Qx x w K e k=bif e.all (fun a=>!at2 w x a) then K else some false
 | [],k,_=>by rw[Qx.eq_1];rfl
 | y::e,k,hy=>by
  have hb:=hy y (by simp);rw[Qx.eq_2,dT (by omega),qx,dT (by omega),qx,qht hw hx hb,A0,qbH hw x hx K e (k+1) fun z hz=>hy z (by simp[hz]),List.all_cons];cases at2 w x y <;> rfl
theorem qbI {w:List Bool} (hw:w.length=49) {p:List Int} (hl:p.length≤100) (hp:∀ y,y∈p→0≤y∧y≤6) (K:Option Bool):∀ (r:List Int) (k:Nat) (pre:List Int),p=pre++r→pre.length=k→JG p w K r k=bif chkFrom (at2 w) pre r then K else some false
 | [],k,pre,_,_=>by rw[JG.eq_1];rfl
 | x::r,k,pre,he,hk=>by
  have hlen:pre.length+(r.length+1)≤100:=by rw[he]at hl;simpa using hl
  have h1:sub p 0 (k:Int)=some pre:=by rw[he,← hk];exact UZ pre _
  rw[JG.eq_2,h1,A0,jv (by omega),qx,qbH hw x (hp x (by rw[he];simp)) _ pre 0 fun y hy=>hp y (by rw[he];simp[hy])];unfold XP;rw[qbI hw hl hp K r (k+1) (pre++[x]) (by rw[he];simp) (by simp[hk])];show _=bif ((pre.all fun a=>!at2 w x a) && chkFrom (at2 w) (pre++[x]) r) then K else some false;cases pre.all (fun a=>!at2 w x a) <;> rfl
theorem qcV {w:List Bool} (hw:w.length=49) {p:List Int} (hl:p.length≤100) (hp:∀ y,y∈p→0≤y∧y≤6):Zu p w=some (agreesB (at2 w) p):=by
 unfold Zu
 have hne:(!w.isEmpty)=true:=by cases w with | nil=>simp at hw | cons=>rfl
 rw[hne,qx,jv (by omega),qx,qbI hw hl hp _ p 0 [] rfl rfl];have:=qai (E:=at2 w) p [];rw[List.nil_append]at this;rw[this];show _=some (true && chkFrom (at2 w) [] p);rw[D6];cases chkFrom (at2 w) [] p <;> rfl
theorem NI {E F:Int→Int→Bool}:∀ {p:List Int},(∀ a b,a∈p→b∈p→E a b=F a b)→agreesB E p=agreesB F p
 | [],_=>rfl
 | b::r,h=>by
  show ((r.all fun c=>!E c b) && agreesB E r)=((r.all fun c=>!F c b) && agreesB F r);rw[NI (p:=r) fun x y hx hy=>h x y (by simp[hx]) (by simp[hy])]
  congr 1
  rw[Bool.eq_iff_iff,List.all_eq_true,List.all_eq_true];exact⟨fun g c hc=>by rw[← h c b (by simp[hc]) (by simp)];exact g c hc,fun g c hc=>by rw[h c b (by simp[hc]) (by simp)];exact g c hc⟩
theorem qbA (a:Int):∀ l:List rf5Op,confL l a a=false
  | []=>rfl
  | x::r=>by
    show (r.any _ || confL r a a)=false;rw[qbA a r,D7,D8];intro y hy;unfold clash;by_cases h1:x.qb=a
    · by_cases h2:y.qb=a
      · simp[h1,h2]
      · simp[h2]
    · simp[h1]
def orderR (h:List rf5Op):List Int×Int:=if validB h then (match topo (confL (partL h)) (commL h).length (commL h) with | some o=>(o,0) | none=>([],8)) else ([],2)
theorem Dl {h:List rf5Op}:∀ x,x∈commL h→wfI .i64 x=true:=fun x hx=>wf6 (by have:=(YG.1 hx).1;omega) (by have:=(YG.1 hx).1;omega)
theorem qbb {h:List rf5Op} (H:Hist h):(partL h).length≤1000∧∀ x,x∈partL h→1≤x.qb∧x.qb≤6 :=
  ⟨B6 (D2 _ _) H.len,fun x hx=>H.txn x (List.mem_filter.1 hx).1⟩
theorem qfL (h:List rf5Op):YX bigFuel ((h.take 43).map cv)=some (orderR h):=by
  unfold YX orderR;rw[Vj,A0]
  cases hv:validB h with
  | false=>rfl
  | true =>
    obtain⟨H,hlen⟩:=YN hv;have:h.take 43=h:=E8 (by omega);obtain⟨es,h1,h2⟩:=qfJ (qbb H).1 (qbb H).2
    have hE:edgeB es=confL (partL h):=funext fun a=>funext fun b=>h2 a b
    rw[this,Bool.not_true,cN,qfH H,A0,h1,A0,YO H,A0,Dw (by have:=Xx h;omega) (Yg h) Dl,hE,A0];simp only[if_true];cases topo (confL (partL h)) (commL h).length (commL h) <;> rfl
theorem Dr (s:LS) (o:hsOp) (i:Nat):(takeL s o).ex i=if o.qh=1∧i=o.qi.toNat then o.qb else s.ex i:=by
 unfold takeL;by_cases h:o.qh=1
 ·rw[if_pos h];simp[h]
 ·rw[if_neg h];simp[h]
theorem Dq (s:LS) (o:hsOp) (i:Nat) (x:Int):(takeL s o).sh i x=if o.qh≠1∧i=o.qi.toNat∧x=o.qb then true else s.sh i x:=by
 unfold takeL;by_cases h:o.qh=1
 ·rw[if_pos h];simp[h]
 ·rw[if_neg h];simp[h]
theorem Good.pre {p q:List hsOp} (h:Good (p++q)):Good p:=fun a o b e=>h a o (b++q) (by rw[e];simp)
theorem qfc:∀ (n:Nat) (p:List hsOp),p.length=n→Good p→(∀ o,o∈p→OkOp o)→∀ x,x∈p→x.qh≤1 →
  (∃ e,e∈p∧e.qb=x.qb∧1<e.qh)∨((x.qh=1→(lkS p).ex x.qi.toNat=x.qb)∧(x.qh≠1→(lkS p).sh x.qi.toNat x.qb=true))
 | 0,p,hl,_,_,x,hx,_=>by
  rw[E7 hl]at hx;cases hx
 | n+1,p,hl,hg,ho,x,hx,hk=>by
  rcases List.eq_nil_or_concat p with rfl | ⟨p,o,rfl⟩
  ·cases hx
  rw[List.concat_eq_append]at *;rw[Yl];have hoo:=ho o (by simp);have hgo:=hg p o [] rfl
  rcases List.mem_append.1 hx with h | h
  ·have hxo:=ho x hx
   rcases qfc n p (by simp at hl;exact hl) hg.pre (fun y hy=>ho y (E9 _ hy)) x h hk with ⟨e,e1,e2⟩ | ⟨h1,h2⟩
   ·exact .inl ⟨e,E9 _ e1,e2⟩
   ·by_cases hok:o.qh≤1
    ·right;rw[if_pos hok];refine⟨fun h3=>?_,fun h3=>?_⟩
     ·rw[Dr];split
      ·rename_i h4;have h5:=h1 h3;have h6:=hgo hok x.qb;unfold hindP at h6;rw[← h4.2,h5]at h6;by_cases e:x.qb=o.qb
       ·exact e.symm
       ·exact absurd (.inl ⟨rfl,by have:=hxo.1;omega,e⟩) h6
      ·exact h1 h3
     ·rw[Dq];split
      ·rfl
      ·exact h2 h3
    ·rw[if_neg hok];by_cases e:x.qb=o.qb
     ·exact .inl ⟨o,by simp,e.symm,by omega⟩
     ·right;refine⟨fun h3=>?_,fun h3=>?_⟩
      ·show (if (lkS p).ex x.qi.toNat=o.qb then 0 else (lkS p).ex x.qi.toNat)=_;rw[h1 h3,if_neg e]
      ·show (if x.qb=o.qb then false else (lkS p).sh x.qi.toNat x.qb)=true;rw[if_neg e];exact h2 h3
  ·rw[List.mem_singleton.1 h]at hk ⊢;right;rw[if_pos hk];refine⟨fun h3=>?_,fun h3=>?_⟩
   ·rw[Dr,if_pos ⟨h3,rfl⟩]
   ·rw[Dq,if_pos ⟨h3,rfl,rfl⟩]
theorem qdm {l:List hsOp} (hg:Good l) (ho:∀ o,o∈l→OkOp o) {i j:Nat} {x y:hsOp} (hx:l[i]? = some x) (hy:l[j]? = some y) (hij:i<j) (hyk:y.qh≤1) (hxk:x.qh≤1) (hne:x.qb≠y.qb) (hit:x.qi=y.qi) (hw:x.qh=1∨y.qh=1):∃ (e:Nat) (z:hsOp),e<j∧l[e]? = some z∧z.qb=x.qb∧1<z.qh:=by
 have hjl:=(List.getElem?_eq_some_iff.1 hy).1
 have hsplit:l=l.take j++y::l.drop (j+1):=by
  have h1:=F0 hjl;rw[(List.getElem?_eq_some_iff.1 hy).2]at h1;rw[h1,F3]
 have hxm:x∈l.take j:=by
  have:(l.take j)[i]? = some x:=by rw[C6 hij];exact hx
  exact A3 this
 have hg':=hg;rw[hsplit]at hg';have hxo:=ho x (A3 hx)
 rcases qfc _ _ rfl hg'.pre (fun o h=>ho o (List.mem_of_mem_take h)) x hxm hxk with ⟨e,e1,e2,e3⟩ | ⟨h1,h2⟩
 ·obtain⟨k,hk,he⟩:=C7 e1
  have hk2:k<j:=by rw[List.length_take]at hk;omega
  refine⟨k,e,hk2,?_,e2,e3⟩
  have:(l.take j)[k]? = some e:=by rw[A9 hk,he]
  rwa [C6 hk2]at this
 ·exfalso;have h3:=hg (l.take j) y (l.drop (j+1)) hsplit hyk x.qb;unfold hindP at h3;rw[← hit]at h3;by_cases hx1:x.qh=1
  ·exact h3 (.inl ⟨h1 hx1,by have:=hxo.1;omega,hne⟩)
  ·exact h3 (.inr ⟨hw.resolve_left hx1,hne,h2 hx1⟩)
theorem VH.idx {l:List hsOp} (h:VH l) {i j:Nat} {x y:hsOp} (hx:l[i]? = some x) (hy:l[j]? = some y) (hij:i<j) (ht:x.qb=y.qb):x.qh≤1:=by
 have hjl:=(List.getElem?_eq_some_iff.1 hy).1
 have hsplit:l=l.take j++y::l.drop (j+1):=by
  have h1:=F0 hjl;rw[(List.getElem?_eq_some_iff.1 hy).2]at h1;rw[h1,F3]
 have hxm:x∈l.take j:=by
  have:(l.take j)[i]? = some x:=by rw[C6 hij];exact hx
  exact A3 this
 exact (h _ _ _ hsplit).2.2 x hxm ht
theorem VH.end_one {l:List hsOp} (h:VH l) {i j:Nat} {x y:hsOp} (hx:l[i]? = some x) (hy:l[j]? = some y) (ht:x.qb=y.qb) (h1:1<x.qh) (h2:1<y.qh):i=j:=by
 rcases Nat.lt_trichotomy i j with h3 | h3 | h3
 ·have:=h.idx hx hy h3 ht;omega
 ·exact h3
 ·have:=h.idx hy hx h3 ht.symm;omega
theorem UW (t k:Int):∀ (r:List rf5Op) (j:Nat),endL t k r j = -1∨∃ i:Nat,endL t k r j=(i:Int)
 | [],j=>.inl rfl
 | x::r,j=>by
  unfold endL
  cases (x.qb == t) && (x.qh == k) with
  | true=>exact .inr ⟨j,rfl⟩
  | false=>exact UW t k r (j+1)
theorem qac {t k:Int}:∀ (r:List rf5Op) (j i:Nat) (x:rf5Op),r[i]? = some x→x.qb=t→x.qh=k→0≤endL t k r j
 | [],j,i,x,h,_,_=>by simp at h
 | y::r,j,0,x,h,ht,hk=>by
  simp at h;subst h;unfold endL;rw[ht,hk];simp
 | y::r,j,i+1,x,h,ht,hk=>by
  unfold endL
  cases (y.qb == t) && (y.qh == k) with
  | true=>show (0:Int)≤(j:Int);omega
  | false=>exact qac r (j+1) i x (by simpa using h) ht hk
theorem qdf {l:List hsOp} (hv:VH l) {e i:Nat} {z:hsOp} (hz:l[e]? = some z) (hk:1<z.qh) (hk3:z.qh≤3) (he:e<i):0≤overL (l.map uv) z.qb∧overL (l.map uv) z.qb<(i:Int):=by
 have hzu:(l.map uv)[e]? = some (uv z):=by rw[A7,hz];rfl
 have hb:∀ k,1<k→endL z.qb k (l.map uv) 0 = -1∨endL z.qb k (l.map uv) 0=(e:Int):=by
  intro k hk1
  rcases UW z.qb k (l.map uv) 0 with h | ⟨j,h⟩
  ·exact .inl h
  ·right;obtain⟨y,h1,_,h3,h4⟩:=qad _ _ _ 0 j h;rw[Nat.sub_zero,A7,C8]at h1;obtain⟨y',h5,rfl⟩:=h1;have h3:y'.qh=k:=h3;have h4:y'.qb=z.qb:=h4;have:=hv.end_one h5 hz h4 (by omega) hk;rw[h,this]
 have h2:=hb 2 (by omega);have h3:=hb 3 (by omega);have hpos:0≤endL z.qb z.qh (l.map uv) 0:=qac (l.map uv) 0 e (uv z) hzu rfl rfl
 have hkk:z.qh=2∨z.qh=3:=by omega
 unfold overL
 rcases hkk with e1 | e1 <;> rw[e1]at hpos <;> split <;> omega
theorem qgQ {h:List rf5Op}:∀ (r:List rf5Op) (k:Nat),(∀ j x,r[j]? = some x→x.qh≤1→(h.take (k+j)).any (badP h (k+j) x)=false)→okC h r k=true
 | [],_,_=>rfl
 | x::r,k,hh=>by
  unfold okC
  rw[qgQ r (k+1) fun j y hy hk=>by
   have:=hh (j+1) y (by simpa using hy) hk
   rwa [show k+(j+1)=k+1+j by omega]at this]
  by_cases hk:x.qh > 1
  ·rw[dT hk];rfl
  ·have:=hh 0 x rfl (by omega);rw[Nat.add_zero]at this;rw[this];simp
theorem qds {l:List hsOp} (hg:Good l) (hv:VH l) (ho:∀ o,o∈l→OkOp o):okC (l.map uv) (l.map uv) 0=true:=by
 refine qgQ _ 0 fun j x hx hk=>?_
 rw[Nat.zero_add,D8];intro p hp;obtain⟨i,hi,hpi⟩:=C7 hp
 have hij:i<j:=by rw[List.length_take]at hi;omega
 have hpi2:(l.map uv)[i]? = some p:=by
  have:((l.map uv).take j)[i]? = some p:=by rw[A9 hi,hpi]
  rwa [C6 hij]at this
 rw[A7,C8]at hx hpi2;obtain⟨y,hy,rfl⟩:=hx;obtain⟨q,hq,rfl⟩:=hpi2;unfold badP;simp only[D0,beq_iff_eq,bne_iff_ne,ne_eq,Bool.or_eq_true,decide_eq_true_eq,not_and];intro h1 h2 h3;obtain⟨e,z,he,hz,hzt,hzk⟩:=qdm hg ho hq hy hij hk (by have h1:q.qh=1:=h1;omega) h3 h2 (.inl h1);have:=qdf hv hz hzk (ho z (A3 hz)).2.2.2.1 he;rw[hzt]at this;have e1:overL (l.map uv) (uv q).qb=overL (l.map uv) q.qb:=rfl;rw[e1];omega
def commits (l:List hsOp):List Int:=(l.filter fun o=>o.qh == 2).map hsOp.qb
theorem Na {α:Type} {x y:α}:∀ {l:List α},[x,y].Sublist l→∃ i j:Nat,i<j∧l[i]? = some x∧l[j]? = some y
 | [],h=>by cases h
 | z::l,h=>by
  cases h with
  | cons _ h =>
   obtain⟨i,j,h1,h2,h3⟩:=Na h;exact⟨i+1,j+1,by omega,by simpa using h2,by simpa using h3⟩
  | cons_cons _ h =>
   have hm:y∈l:=h.subset (.head _);obtain⟨j,hj,e⟩:=C7 hm;exact⟨0,j+1,by omega,rfl,by simp[A9 hj,e]⟩
theorem qbB {a b:Int}:∀ {l:List rf5Op},confL l a b=true→∃ x y,[x,y].Sublist l∧clash x y=true∧x.qb=a∧y.qb=b
 | [],h=>by cases h
 | x::r,h=>by
  unfold confL at h;rw[Bool.or_eq_true,List.any_eq_true]at h
  rcases h with ⟨y,hy,h⟩ | h
  ·simp only[D0,beq_iff_eq]at h;exact⟨x,y,List.Sublist.cons_cons _ (List.singleton_sublist.2 hy),h.1,h.2.1,h.2.2⟩
  ·obtain⟨x',y',h1,h2⟩:=qbB h;exact⟨x',y',h1.cons _,h2⟩
theorem qgb {l:List hsOp} (hg:Good l) (hv:VH l) (ho:∀ o,o∈l→OkOp o):(commits l).Pairwise fun a c=>confL (partL (l.map uv)) c a=false:=by
 unfold commits;rw[List.pairwise_map,F4,F5];intro a c hac ha hc;obtain⟨ia,ic,hlt,hia,hic⟩:=Na hac
 have ha:a.qh=2:=by simpa using ha
 have hc:c.qh=2:=by simpa using hc
 rw[← Bool.not_eq_true];intro hconf;obtain⟨x,y,hxy,hcl,hxt,hyt⟩:=qbB hconf;have hxy2:[x,y].Sublist (l.map uv):=hxy.trans List.filter_sublist;obtain⟨ix,iy,hlt2,hix,hiy⟩:=Na hxy2;rw[A7,C8]at hix hiy;obtain⟨x,hx,rfl⟩:=hix;obtain⟨y,hy,rfl⟩:=hiy;have hxt:x.qb=c.qb:=hxt;have hyt:y.qb=a.qb:=hyt;have hxo:=ho x (A3 hx);have hyo:=ho y (A3 hy)
 have hcl2:x.qb≠y.qb∧x.qi=y.qi∧(if y.qh > x.qh then y.qh else x.qh)=1:=by
  unfold clash at hcl;simp only[D0,bne_iff_ne,ne_eq,beq_iff_eq]at hcl;exact hcl
 obtain⟨c1,c2,c3⟩:=hcl2
 have hk:x.qh≤1∧y.qh≤1∧(x.qh=1∨y.qh=1):=by
  split at c3 <;> omega
 obtain⟨e,z,he,hz,hzt,hzk⟩:=qdm hg ho hx hy hlt2 hk.2.1 hk.1 c1 c2 hk.2.2;have h1:e=ic:=hv.end_one hz hic (hzt.trans hxt) hzk (by omega)
 have h2:iy≤ia:=by
  rcases Nat.lt_or_ge ia iy with h | h
  ·have:=hv.idx hia hy h hyt.symm;omega
  ·exact h
 omega
theorem qaE {l:List hsOp} (hv:VH l):(commits l).Nodup:=by
 unfold commits;rw[List.nodup_iff_pairwise_ne,List.pairwise_map,F4,F5];intro a c hac ha hc e;obtain⟨ia,ic,hlt,hia,hic⟩:=Na hac
 have ha:a.qh=2:=by simpa using ha
 have:=hv.idx hia hic hlt e;omega
theorem qct {l:List hsOp} (hv:VH l) (ho:∀ o,o∈l→OkOp o):(commits l).Perm (commL (l.map uv)):=by
 refine (List.perm_ext_iff_of_nodup (qaE hv) (Yg _)).2 fun t=>?_
 rw[YG];unfold commits;rw[List.mem_map];constructor
 ·rintro⟨o,hm,rfl⟩
  obtain⟨hm,hk⟩:=List.mem_filter.1 hm
  have hk:o.qh=2:=by simpa using hk
  have hoo:=ho o hm;obtain⟨i,hi,e⟩:=C7 hm;refine⟨⟨hoo.1,hoo.2.1⟩,qac (l.map uv) 0 i (uv o) ?_ rfl hk⟩;rw[A7,A9 hi,e];rfl
 ·rintro⟨_,h⟩
  rcases UW t 2 (l.map uv) 0 with h1 | ⟨i,h1⟩
  ·omega
  ·obtain⟨y,h2,_,h3,h4⟩:=qad _ _ _ 0 i h1;rw[Nat.sub_zero,A7,C8]at h2;obtain⟨y',h5,rfl⟩:=h2;exact⟨y',List.mem_filter.2 ⟨A3 h5,by have h3:y'.qh=2:=h3;simpa using h3⟩,h4⟩
theorem qdt {l:List hsOp} (hg:Good l) (hv:VH l) (ho:∀ o,o∈l→OkOp o):agreesB (confL (partL (l.map uv))) (commits l)=true:=Vh.2 (qgb hg hv ho)
end Go.AM
namespace Go.AM
open Go.RowKit
variable {P:Program} {n:Nat} {K V:Type} {F:K→AV} {G:V→AV} {eq:K→K→Bool}
inductive AllP {α:Type} (q:α→Prop):List α→Prop where
 | nil:AllP q []
 | cons {a l}:q a→AllP q l→AllP q (a::l)
theorem AllP.mem {α:Type} {q:α→Prop}:∀ {l:List α},AllP q l→∀ x,x∈l→q x
 | _,.nil,x,h=>by cases h
 | _,.cons h t,x,hx=>by
  rcases List.mem_cons.1 hx with rfl | hx
  ·exact h
  ·exact t.mem x hx
def stepA (P:Program) (n:Nat) (all:List Oper) (env:Env) (k:Nat):Option Env :=
 match all[k]? with
 | some o=>match awanted all o env with
  | some true=>astep P n o env
  | _=>none
 | none=>none
def lkE:List (Nat×Env)→Nat→Env
 | [],_=>[]
 | p::r,k=>match Nat.beq p.1 k with
  | true=>p.2
  | false=>lkE r k
theorem qfd:∀ {l:List (Nat×Env)} {k:Nat},k∈l.map (·.1)→∃ p,p∈l∧p.1=k∧lkE l k=p.2
 | [],k,h=>by cases h
 | p::r,k,h=>by
  unfold lkE
  cases hb:Nat.beq p.1 k with
  | true=>exact⟨p,C4 ..,Nat.eq_of_beq_eq_true hb,rfl⟩
  | false =>
   rw[B9,List.mem_cons]at h
   rcases h with rfl | h
   ·rw[Nat.beq_refl]at hb;cases hb
   ·obtain⟨q,h1,h2,h3⟩:=qfd h;exact⟨q,B7 _ h1,h2,h3⟩
theorem Run.anyL {all:List Oper} {R:List Nat} {env e1:Env} (l:List (Nat×Env)) (hne:R.isEmpty=false) (h0:R.filter (readyR all R)=l.map (·.1)) (hs:AllP (fun p=>stepA P n all env p.1=some p.2) l) (hr:AllP (fun p=>Run P (.any n all (R.erase p.1) p.2 e1)) l):Run P (.any n all R env e1):=by
 have key:∀ k,k∈R→readyR all R k=true→∃ p,p∈l∧p.1=k∧lkE l k=p.2:=fun k hk hd=>qfd (by rw[← h0];exact List.mem_filter.2 ⟨hk,hd⟩)
 refine .anyStep (lkE l) (fun e=>by rw[e]at hne;cases hne) (fun k o hk ho hd=>?_) (fun k hk hd=>?_)
 ·obtain⟨p,h1,rfl,h3⟩:=key k hk hd;have:=hs.mem p h1;unfold stepA at this;rw[ho]at this;simp only at this;split at this
  ·rename_i hw;rw[h3];exact .op hw this .nil
  ·cases this
 ·obtain⟨p,h1,rfl,h3⟩:=key k hk hd;rw[h3];exact hr.mem p h1
theorem W.regionA {id:Nat} {ops:Array Oper} {Q:Ex→Env→Prop} {env e1:Env} (hb:jS ops=true) (h:Run P (.any n ops.toList (B5 ops.size) env e1)) (hq:WO P n false ops.toList [] (Q .normal) e1):W P n (.region id ops true) Q env:=by
 obtain⟨e2,h1,h2⟩:=hq;exact⟨_,e2,.regionA hb h h1,h2⟩
theorem ZR {all:List Oper} {env:Env} {id kt k:Nat} {l:List (K×V)} {a:K} {b:V} (hk:(F a).keyV.isSome=true) (hn:Nat.blt l.length 1000000000=true) (hf:∀ x,keyFits P kt (F x)=true) (he:∀ x y,akeq (F x) (F y)=eq x y)
  (hp:(match all[k]? with | some o=>mupPre P all o env | none=>none)=some (id,kt,F a,G b,l.map (fun p=>F p.1),l.map (fun p=>G p.2))):stepA P n all env k=some (ins id (hobE F G (mset eq a b l)) env):=by
 unfold stepA
 cases hk0:all[k]? with
 | none=>rw[hk0]at hp;cases hp
 | some o =>
  rw[hk0]at hp;simp only[mupPre]at hp
  split at hp <;> try cases hp
  rename_i hw
  split at hp <;> try cases hp
  rename_i t m k0 v0 ho
  split at hp <;> try cases hp
  rename_i id' k' v' kt' e' hd hm hk' hv ht
  split at hp <;> try cases hp
  rename_i ks vs hel hl;simp only[Option.some.injEq,Prod.mk.injEq]at hp;obtain⟨rfl,rfl,rfl,hb,rfl,rfl⟩:=hp;simp only[hw];unfold astep;rw[ho];simp only[hd,hm,hk',hv,ht,hl];rw[hf,hk,Vd hf,hel,D9,hn];simp only[Bool.and_self];unfold hobE
  rcases Ve (G:=G) he a b l with ⟨j,g1,g2,g3⟩ | ⟨g1,g2,g3⟩
  ·rw[g1,g2,g3,hb]
  ·rw[g1,g2,g3,hb]
inductive AQ (q:Nat→Env→Prop):List (Nat×Env)→Prop where
 | n:AQ q []
 | c {e l} (k:Nat):q k e→AQ q l→AQ q ((k,e)::l)
theorem AQ.all {q:Nat→Env→Prop} {l:List (Nat×Env)} (h:AQ q l):AllP (fun p=>q p.1 p.2) l:=by
 induction h with
 | n=>exact .nil
 | c k a b ih=>exact .cons a ih
theorem WO.s1 {all:List Oper} {o:Oper} {k:Nat} {env e:Env} (ho:all[k]? = some o) (h:stepsK P n false all 1 [o] env=some e:=by kernel_rfl):∃ o,all[k]? = some o∧WO P n false all [o] (fun e'=>e'=e) env:=⟨o,ho,WO.steps 1 h (WO.nil rfl)⟩
end Go.AM
namespace Go.AM
open Go.Proofs
structure je where
 f_h:(List hsOp)
 qp:(List Int)
 qy:(List (Int×Int))
 qH:(List (Int×Int))
def Nz (x:je):AV:=.agg [l44 none x.f_h,l3 none x.qp,mpE (AV.int .i64) (AV.int .i64) x.qy,mpE (AV.int .i64) (AV.int .i64) x.qH]
def JO (v10:Bool):Option Bool :=
 (some v10)
def Qs (a1:je) (a2:Int) (a3:Int):Option Bool :=
 (chk (wfI .i64 a2) (chk (wfI .i64 a3) (bif (decide ((mget keq1 0 a2 a1.qy)<(mget keq1 0 a3 a1.qH))) then (chk (wfI .i64 a3) (chk (wfI .i64 a2) ((JO) (decide ((mget keq1 0 a3 a1.qy)<(mget keq1 0 a2 a1.qH)))))) else ((JO) false))))
theorem ZT (a1:je) (a2:Int) (a3:Int) (r:Bool) (h:Qs a1 a2 a3=some r):Run Try.prog (.call 80 [.agg [l44 none a1.f_h,l3 none a1.qp,mpE (AV.int .i64) (AV.int .i64) a1.qy,mpE (AV.int .i64) (AV.int .i64) a1.qH],I6 a2,I6 a3] (.bool r)):=by
 refine cW Try.func80 rfl (env0:=[(0,.agg [l44 none a1.f_h,l3 none a1.qp,mpE (AV.int .i64) (AV.int .i64) a1.qy,mpE (AV.int .i64) (AV.int .i64) a1.qH]),(1,I6 a2),(2,I6 a3)]) ?_;unfold Qs at h;refine W.seq ?_;let z0:=fun t=>EN ((1,I6 a2)::(2,I6 a3)::(3,.ptr (.agg [l44 none a1.f_h,l3 none a1.qp,mpE (AV.int .i64) (AV.int .i64) a1.qy,mpE (AV.int .i64) (AV.int .i64) a1.qH]))::t);refine W.rT [1,2,3] [3] (e2:=z0 []) ?_;refine W.seq<|W.join (σ:=(Bool)) (fun s=>[(6,.bool s)]) (fun s=>(JO) s=some r) (fun v10 h=>?_) (fun hK5=>?_)
 ·unfold JO at h;refine W.wk (e:=[(6,.bool v10)]) ?_;cases h;exact W.rr
 refine W.rg ?_;obtain⟨hc6,h⟩:=qq h;let z1:=fun t=>z0 ((7,.ptr (mpE (AV.int .i64) (AV.int .i64) a1.qy))::(8,mpE (AV.int .i64) (AV.int .i64) a1.qy)::(9,I6 a2)::(10,I6 (mget keq1 0 a2 a1.qy))::t);refine WO.pk 3 ((alookup Try.prog 85 [] (mpE (AV.int .i64) (AV.int .i64) a1.qy) (I6 a2)).map AV.strip) (congrArg (A4 AV.strip) (jK (F:=(AV.int .i64)) (G:=(AV.int .i64)) (eq:=keq1) (l:=a1.qy) (k:=a2) (z:=0) (kt:=3) (e:=3) (Js hc6) (by kernel_rfl) (fun x=>by kernel_rfl) (fun x y=>by kernel_rfl) (by kernel_rfl))) (e1:=z1 []) ?_;obtain⟨hc7,h⟩:=qq h;let z2:=fun t=>z1 ((11,.ptr (mpE (AV.int .i64) (AV.int .i64) a1.qH))::(12,mpE (AV.int .i64) (AV.int .i64) a1.qH)::(13,I6 a3)::(14,I6 (mget keq1 0 a3 a1.qH))::t);refine WO.pk 3 ((alookup Try.prog 85 [] (mpE (AV.int .i64) (AV.int .i64) a1.qH) (I6 a3)).map AV.strip) (congrArg (A4 AV.strip) (jK (F:=(AV.int .i64)) (G:=(AV.int .i64)) (eq:=keq1) (l:=a1.qH) (k:=a3) (z:=0) (kt:=3) (e:=3) (Js hc7) (by kernel_rfl) (fun x=>by kernel_rfl) (fun x y=>by kernel_rfl) (by kernel_rfl))) (e1:=z2 []) ?_;refine WO.bh 2 (fun b=>z2 [(15,.bool b),(16,.bool b)]) (decide ((mget keq1 0 a2 a1.qy)<(mget keq1 0 a3 a1.qH))) h (fun h=>?_) (fun h=>?_)
 ·obtain⟨hc8,h⟩:=qq h;let z3:=fun t=>z2 ((15,.bool true)::(16,.bool true)::(17,.ptr (mpE (AV.int .i64) (AV.int .i64) a1.qy))::(18,mpE (AV.int .i64) (AV.int .i64) a1.qy)::(19,I6 a3)::(20,I6 (mget keq1 0 a3 a1.qy))::t);refine WO.pk 3 ((alookup Try.prog 85 [] (mpE (AV.int .i64) (AV.int .i64) a1.qy) (I6 a3)).map AV.strip) (congrArg (A4 AV.strip) (jK (F:=(AV.int .i64)) (G:=(AV.int .i64)) (eq:=keq1) (l:=a1.qy) (k:=a3) (z:=0) (kt:=3) (e:=3) (Js hc8) (by kernel_rfl) (fun x=>by kernel_rfl) (fun x y=>by kernel_rfl) (by kernel_rfl))) (e1:=z3 []) ?_;obtain⟨hc9,h⟩:=qq h;refine WO.pk 3 ((alookup Try.prog 85 [] (mpE (AV.int .i64) (AV.int .i64) a1.qH) (I6 a2)).map AV.strip) (congrArg (A4 AV.strip) (jK (F:=(AV.int .i64)) (G:=(AV.int .i64)) (eq:=keq1) (l:=a1.qH) (k:=a2) (z:=0) (kt:=3) (e:=3) (Js hc9) (by kernel_rfl) (fun x=>by kernel_rfl) (fun x y=>by kernel_rfl) (by kernel_rfl))) (e1:=z3 [(21,.ptr (mpE (AV.int .i64) (AV.int .i64) a1.qH)),(22,mpE (AV.int .i64) (AV.int .i64) a1.qH),(23,I6 a2),(24,I6 (mget keq1 0 a2 a1.qH))]) ?_;refine WO.fn (e2:=[(6,.bool (decide ((mget keq1 0 a3 a1.qy)<(mget keq1 0 a2 a1.qH))))]) ?_;exact hK5 (decide ((mget keq1 0 a3 a1.qy)<(mget keq1 0 a2 a1.qH))) h
 refine WO.fn (e2:=[(6,.bool false)]) ?_;exact hK5 false h
def XH (a1:(List hsOp)) (a2:hsOp):Option Bool :=
 ((QU a1 a2).bind fun w5=>(some (decide (w5 ≥ 0))))
theorem VO (a1:(List hsOp)) (a2:hsOp) (r:Bool) (h:XH a1 a2=some r):Run Try.prog (.call 38 [l44 none a1,.agg [I6 a2.qb,I6 a2.qh,I6 a2.qi]] (.bool r)):=by
 refine cW Try.func38 rfl (env0:=[(0,l44 none a1),(1,.agg [I6 a2.qb,I6 a2.qh,I6 a2.qi])]) ?_;unfold XH at h;refine W.seq ?_;let z0:=fun t=>EN ((0,l44 none a1)::(3,.ptr (.agg [I6 a2.qb,I6 a2.qh,I6 a2.qi]))::t);refine W.rT [0,3] [3] (e2:=z0 []) ?_;refine W.sr ?_;obtain⟨w5,hw5,h⟩:=ql h;refine WO.ck 2 (F:=74) (l:=[l44 none a1,.agg [I6 a2.qb,I6 a2.qh,I6 a2.qi]]) (C:=[]) (r:=I6 w5) (ZI a1 a2 w5 hw5) (e1:=z0 [(5,l44 none a1),(6,.agg [I6 a2.qb,I6 a2.qh,I6 a2.qi]),(7,I6 w5)])<|WO.fn (e2:=[(4,.bool (decide (w5 ≥ 0)))]) ?_;refine W.wk (e:=[(4,.bool (decide (w5 ≥ 0)))]) ?_;cases h;exact W.rr
def jG (a1:je) (a2:Int) (a3:Int):Option Bool :=
 ((XH a1.f_h (hsOp.mk a2 1 a3)).bind fun w6=>(some w6))
theorem Jo (a1:je) (a2:Int) (a3:Int) (r:Bool) (h:jG a1 a2 a3=some r):Run Try.prog (.call 106 [.agg [l44 none a1.f_h,l3 none a1.qp,mpE (AV.int .i64) (AV.int .i64) a1.qy,mpE (AV.int .i64) (AV.int .i64) a1.qH],I6 a2,I6 a3] (.bool r)):=by
 refine cW Try.func106 rfl (env0:=[(0,.agg [l44 none a1.f_h,l3 none a1.qp,mpE (AV.int .i64) (AV.int .i64) a1.qy,mpE (AV.int .i64) (AV.int .i64) a1.qH]),(1,I6 a2),(2,I6 a3)]) ?_;unfold jG at h;refine W.seq ?_;let z0:=fun t=>EN ((1,I6 a2)::(2,I6 a3)::(3,.ptr (.agg [l44 none a1.f_h,l3 none a1.qp,mpE (AV.int .i64) (AV.int .i64) a1.qy,mpE (AV.int .i64) (AV.int .i64) a1.qH]))::t);refine W.rT [1,2,3] [3] (e2:=z0 []) ?_;refine W.sr ?_;obtain⟨w6,hw6,h⟩:=ql h;refine WO.ck 5 (F:=38) (l:=[l44 none a1.f_h,.agg [I6 a2,.int .i64 1,I6 a3]]) (C:=[]) (r:=.bool w6) (VO a1.f_h (hsOp.mk a2 1 a3) w6 hw6) (e1:=z0 [(7,.ptr (l44 none a1.f_h)),(8,l44 none a1.f_h),(9,I6 a2),(10,I6 a3),(11,.agg [I6 a2,.int .i64 1,I6 a3]),(12,.bool w6)])<|WO.fn (e2:=[(6,.bool w6)]) ?_;refine W.wk (e:=[(6,.bool w6)]) ?_;cases h;exact W.rr
def Qj:Option Bool :=
 (some false)
def jX (a2:Int) (a3:Int) (K5:(Option Bool)):List hsOp→Nat→Option Bool
 | [],k1=>K5
 | x1::r1,k1=>(bif ((x1.qb == a2) && ((x1.qh == 1) && ((x1.qi == a3) && true))) then (some false) else (bif ((x1.qb == a2) && ((x1.qh == 0) && ((x1.qi == a3) && true))) then (some true) else (jX a2 a3 K5 r1 (k1+1))))
def Ju (a1:je) (a2:Int) (a3:Int):Option Bool :=
 (chk (lenOk a1.f_h) (jX a2 a3 (Qj) a1.f_h 0))
theorem QH (a1:je) (a2:Int) (a3:Int) (r:Bool) (h:Ju a1 a2 a3=some r):Run Try.prog (.call 107 [.agg [l44 none a1.f_h,l3 none a1.qp,mpE (AV.int .i64) (AV.int .i64) a1.qy,mpE (AV.int .i64) (AV.int .i64) a1.qH],I6 a2,I6 a3] (.bool r)):=by
 refine cW Try.func107 rfl (env0:=[(0,.agg [l44 none a1.f_h,l3 none a1.qp,mpE (AV.int .i64) (AV.int .i64) a1.qy,mpE (AV.int .i64) (AV.int .i64) a1.qH]),(1,I6 a2),(2,I6 a3)]) ?_;unfold Ju at h;refine W.seq ?_;let z0:=fun t=>EN ((1,I6 a2)::(2,I6 a3)::t);let z1:=fun t=>z0 ((3,.ptr (.agg [l44 none a1.f_h,l3 none a1.qp,mpE (AV.int .i64) (AV.int .i64) a1.qy,mpE (AV.int .i64) (AV.int .i64) a1.qH]))::t);refine W.rT [1,2,3] [3] (e2:=z1 []) ?_;refine W.seq<|W.join (σ:=Unit) (fun s=>[]) (fun s=>(Qj)=some r) (fun s h=>?_) (fun hK5=>?_)
 ·unfold Qj at h;refine W.seq<|W.rt (e2:=[(6,.bool false)]) ?_;refine W.wk (e:=[(6,.bool false)]) ?_;cases h;exact W.rr
 refine W.sr<|WO.pq 2 (jM jf a1.f_h) (e1:=z1 [(9,.ptr (l44 none a1.f_h)),(10,l44 none a1.f_h),(11,I6 (a1.f_h.length:Int))]) ?_;let z2:=fun t=>z0 ((10,l44 none a1.f_h)::(11,I6 (a1.f_h.length:Int))::t);refine WO.fn (e2:=z2 [(12,.int .i64 0)]) ?_;refine W.block ?_;obtain⟨hl1,h⟩:=qq h;refine W.wk (e:=z2 [(12,I6 ((0:Nat):Int))])<|W.range (σ:=Unit) a1.f_h (fun k1 s=>z2 [(12,I6 (k1:Int))]) (fun r0 k0 s=>jX a2 a3 (Qj) r0 k0=some r) (fun s h=>?_) (fun x1 r1 k1 s hx1 hk1 h hN1=>?_) () h
 ·rw[jX.eq_1]at h;refine W.sr ?_;let y0:Env:=[(2,I6 a3),(10,l44 none a1.f_h),(11,I6 (a1.f_h.length:Int)),(12,I6 ((a1.f_h).length:Int)),(13,.bool false)];refine WO.pq 0 (jB (jj (l:=a1.f_h))) (e1:=((1,I6 a2)::y0))<|WO.fn (e2:=((1,I6 a2)::y0)) ?_;refine W.seq<|W.cF<|W.exit<|W.wk (e:=[]) ?_;exact hK5 () h
 ·rw[jX.eq_2]at h;refine W.sr ?_;let y1:Env:=[(2,I6 a3),(10,l44 none a1.f_h),(11,I6 (a1.f_h.length:Int)),(12,I6 (k1:Int)),(13,.bool true)];let z3:=fun t=>EN ((1,I6 a2)::t);refine WO.pq 0 (jB (jD hk1)) (e1:=z3 y1)<|WO.fn (e2:=z3 y1) ?_;refine W.seq<|W.cT<|W.skip ?_;let y2:Env:=[(10,l44 none a1.f_h),(11,I6 (a1.f_h.length:Int)),(12,I6 (k1:Int))];refine W.wk (e:=z0 y2)<|W.seq<|W.block<|W.sr ?_;let z4:=fun t=>z2 ((12,I6 (k1:Int))::t);refine WO.pq 0 (jE (f:=jf) hx1) (e1:=z4 [(14,.ptr (.agg [I6 x1.qb,I6 x1.qh,I6 x1.qi]))])<|WO.fi [1,2,8,10,11,12] [8] (e2:=z0 ((8,.ptr (.agg [I6 x1.qb,I6 x1.qh,I6 x1.qi]))::y2)) ?_;refine W.seq ?_;let z5:=fun t=>z4 ((16,.agg [I6 x1.qb,I6 x1.qh,I6 x1.qi])::t);refine W.rt (e2:=z5 []) ?_;refine W.block<|W.seq<|W.rt (e2:=z5 [(17,.bool ((x1.qb == a2) && ((x1.qh == 1) && ((x1.qi == a3) && true))))]) ?_;refine W.ch ((x1.qb == a2) && ((x1.qh == 1) && ((x1.qi == a3) && true))) h (fun h=>?_) (fun h=>?_)
  ·refine W.seq<|W.rt (e2:=[(6,.bool false)]) ?_;refine W.wk (e:=[(6,.bool false)]) ?_;cases h;exact W.rr
  refine W.seq<|W.rt (e2:=z4 [(22,.bool ((x1.qb == a2) && ((x1.qh == 0) && ((x1.qi == a3) && true))))]) ?_;refine W.ch ((x1.qb == a2) && ((x1.qh == 0) && ((x1.qi == a3) && true))) h (fun h=>?_) (fun h=>?_)
  ·refine W.seq<|W.rt (e2:=[(6,.bool true)]) ?_;refine W.wk (e:=[(6,.bool true)]) ?_;cases h;exact W.rr
  refine W.sw (e:=z0 y2) ?_;refine W.rg<|WO.pq 0 (jI (qS hl1 hk1)) (e1:=z4 [(27,I6 ((k1+1:Nat):Int))])<|WO.fn (e2:=z2 [(12,I6 ((k1+1:Nat):Int))]) ?_;exact hN1 () h
def jN (v19:Int):Option Int :=
 (some v19)
def jZ (x1:Int) (v8:Int) (K9:(Int→Option Int)) (v17:Bool):Option Int :=
 (bif v17 then (K9 x1) else (K9 v8))
def jL (N1:(Int→Option Int)) (v18:Int):Option Int :=
 (N1 v18)
def qP (a1:je) (a2:Int) (a3:Int) (K6:(Int→Option Int)):List Int→Nat→Int→Option Int
 | [],k1,v8=>(K6 v8)
 | x1::r1,k1,v8=>((jG a1 x1 a3).bind fun w12=>(bif w12 then (chk (wfI .i64 x1) (chk (wfI .i64 a2) (bif (decide ((mget keq1 0 x1 a1.qH)<(mget keq1 0 a2 a1.qy))) then (bif (v8 == 0) then ((jZ x1 v8 (jL (qP a1 a2 a3 K6 r1 (k1+1)))) true) else (chk (wfI .i64 x1) (chk (wfI .i64 v8) ((jZ x1 v8 (jL (qP a1 a2 a3 K6 r1 (k1+1)))) (decide ((mget keq1 0 x1 a1.qH) > (mget keq1 0 v8 a1.qH))))))) else ((jZ x1 v8 (jL (qP a1 a2 a3 K6 r1 (k1+1)))) false)))) else ((jZ x1 v8 (jL (qP a1 a2 a3 K6 r1 (k1+1)))) false)))
def Jz (a1:je) (a2:Int) (a3:Int):Option Int :=
 (chk (lenOk a1.qp) (qP a1 a2 a3 (jN) a1.qp 0 0))
theorem Xk (a1:je) (a2:Int) (a3:Int) (r:Int) (h:Jz a1 a2 a3=some r):Run Try.prog (.call 108 [.agg [l44 none a1.f_h,l3 none a1.qp,mpE (AV.int .i64) (AV.int .i64) a1.qy,mpE (AV.int .i64) (AV.int .i64) a1.qH],I6 a2,I6 a3] (I6 r)):=by
 refine cW Try.func108 rfl (env0:=[(0,.agg [l44 none a1.f_h,l3 none a1.qp,mpE (AV.int .i64) (AV.int .i64) a1.qy,mpE (AV.int .i64) (AV.int .i64) a1.qH]),(1,I6 a2),(2,I6 a3)]) ?_;unfold Jz at h;refine W.seq ?_;let z0:=fun t=>EN ((1,I6 a2)::(2,I6 a3)::(3,.ptr (.agg [l44 none a1.f_h,l3 none a1.qp,mpE (AV.int .i64) (AV.int .i64) a1.qy,mpE (AV.int .i64) (AV.int .i64) a1.qH]))::t);refine W.rT [1,2,3] [3] (e2:=z0 []) ?_;refine W.seq ?_;let z1:=fun t=>z0 ((7,.int .i64 0)::t);refine W.rt (e2:=z1 []) ?_;refine W.seq<|W.join (σ:=(Int)) (fun s=>[(7,I6 s)]) (fun s=>(jN) s=some r) (fun v19 h=>?_) (fun hK6=>?_)
 ·unfold jN at h;refine W.seq<|W.rt (e2:=[(6,I6 v19)]) ?_;refine W.wk (e:=[(6,I6 v19)]) ?_;cases h;exact W.rr
 refine W.sr<|WO.pq 2 (jM (.int .i64) a1.qp) (e1:=z1 [(10,.ptr (l3 none a1.qp)),(11,l3 none a1.qp),(12,I6 (a1.qp.length:Int))]) ?_;let z2:=fun t=>z1 ((11,l3 none a1.qp)::(12,I6 (a1.qp.length:Int))::t);refine WO.fn (e2:=z2 [(13,.int .i64 0)]) ?_;refine W.block ?_;obtain⟨hl1,h⟩:=qq h;refine W.wk (e:=z2 [(13,I6 ((0:Nat):Int))])<|W.range (σ:=(Int)) a1.qp (fun k1 s=>z0 [(7,I6 s),(11,l3 none a1.qp),(12,I6 (a1.qp.length:Int)),(13,I6 (k1:Int))]) (fun r0 k0 s=>qP a1 a2 a3 (jN) r0 k0 s=some r) (fun v8 h=>?_) (fun x1 r1 k1 s hx1 hk1 h hN1=>?_) 0 h
 ·have h:qP a1 a2 a3 (jN) [] (a1.qp).length v8=some r:=h;rw[qP.eq_1]at h;refine W.sr ?_;let y0:Env:=[(2,I6 a3),(3,.ptr (.agg [l44 none a1.f_h,l3 none a1.qp,mpE (AV.int .i64) (AV.int .i64) a1.qy,mpE (AV.int .i64) (AV.int .i64) a1.qH])),(7,I6 v8),(11,l3 none a1.qp),(12,I6 (a1.qp.length:Int)),(13,I6 ((a1.qp).length:Int)),(14,.bool false)];refine WO.pq 0 (jB (jj (l:=a1.qp))) (e1:=((1,I6 a2)::y0))<|WO.fn (e2:=((1,I6 a2)::y0)) ?_;refine W.seq<|W.cF<|W.exit<|W.wk (e:=[(7,I6 v8)]) ?_;exact hK6 v8 h
 ·obtain⟨v8,rfl⟩:∃ x,x=s:=⟨s,rfl⟩;have h:qP a1 a2 a3 (jN) (x1::r1) k1 v8=some r:=h;rw[qP.eq_2]at h;refine W.sr ?_;let y1:Env:=[(2,I6 a3),(3,.ptr (.agg [l44 none a1.f_h,l3 none a1.qp,mpE (AV.int .i64) (AV.int .i64) a1.qy,mpE (AV.int .i64) (AV.int .i64) a1.qH])),(7,I6 v8),(11,l3 none a1.qp),(12,I6 (a1.qp.length:Int)),(13,I6 (k1:Int)),(14,.bool true)];let z3:=fun t=>EN ((1,I6 a2)::t);refine WO.pq 0 (jB (jD hk1)) (e1:=z3 y1)<|WO.fn (e2:=z3 y1) ?_;refine W.seq<|W.cT<|W.skip ?_;let y2:Env:=[(11,l3 none a1.qp),(12,I6 (a1.qp.length:Int)),(13,I6 (k1:Int))];let z4:=fun t=>z0 ((7,I6 v8)::t);refine W.wk (e:=z4 y2)<|W.seq<|W.join (σ:=(Int)) (fun s=>z0 ((7,I6 s)::y2)) (fun s=>(jL (qP a1 a2 a3 (jN) r1 (k1+1))) s=some r) (fun v18 h=>?_) (fun hK9=>?_)
  ·unfold jL at h;refine W.rg ?_;let z5:=fun t=>z0 ((7,I6 v18)::(11,l3 none a1.qp)::(12,I6 (a1.qp.length:Int))::t);refine WO.pq 0 (jI (qS hl1 hk1)) (e1:=z5 [(13,I6 (k1:Int)),(48,I6 ((k1+1:Nat):Int))])<|WO.fn (e2:=z5 [(13,I6 ((k1+1:Nat):Int))]) ?_;exact hN1 v18 h
  refine W.block<|W.sr<|WO.pq 0 (jE (f:=(AV.int .i64)) hx1) (e1:=z4 [(11,l3 none a1.qp),(12,I6 (a1.qp.length:Int)),(13,I6 (k1:Int)),(15,.ptr (I6 x1))]) ?_;let z6:=fun t=>z4 ((9,I6 x1)::t);refine WO.fn (e2:=z6 y2) ?_;refine W.seq ?_;let z7:=fun t=>z6 ((11,l3 none a1.qp)::(12,I6 (a1.qp.length:Int))::(13,I6 (k1:Int))::t);refine W.join (σ:=(Bool)) (fun s=>z7 [(46,.bool s)]) (fun s=>(jZ x1 v8 (jL (qP a1 a2 a3 (jN) r1 (k1+1)))) s=some r) (fun v17 h=>?_) (fun hK11=>?_)
  ·unfold jZ at h;refine W.ch v17 h (fun h=>?_) (fun h=>?_)
   ·refine W.rt (e2:=z0 ((7,I6 x1)::y2)) ?_;exact hK9 x1 h
   refine W.sw (e:=z4 y2) ?_;exact hK9 v8 h
  refine W.rg ?_;obtain⟨w12,hw12,h⟩:=ql h;let z8:=fun t=>z7 ((17,.agg [l44 none a1.f_h,l3 none a1.qp,mpE (AV.int .i64) (AV.int .i64) a1.qy,mpE (AV.int .i64) (AV.int .i64) a1.qH])::(18,I6 x1)::(19,I6 a3)::t);refine WO.ck 3 (F:=106) (l:=[.agg [l44 none a1.f_h,l3 none a1.qp,mpE (AV.int .i64) (AV.int .i64) a1.qy,mpE (AV.int .i64) (AV.int .i64) a1.qH],I6 x1,I6 a3]) (C:=[]) (r:=.bool w12) (Jo a1 x1 a3 w12 hw12) (e1:=z8 [(20,.bool w12)])<|WO.bh 1 (fun b=>z8 [(20,.bool b),(21,.bool b)]) w12 h (fun h=>?_) (fun h=>?_)
  ·obtain⟨hc13,h⟩:=qq h;let z9:=fun t=>z8 ((20,.bool true)::(21,.bool true)::(22,.ptr (mpE (AV.int .i64) (AV.int .i64) a1.qH))::(23,mpE (AV.int .i64) (AV.int .i64) a1.qH)::(24,I6 x1)::(25,I6 (mget keq1 0 x1 a1.qH))::t);refine WO.pk 3 ((alookup Try.prog 85 [] (mpE (AV.int .i64) (AV.int .i64) a1.qH) (I6 x1)).map AV.strip) (congrArg (A4 AV.strip) (jK (F:=(AV.int .i64)) (G:=(AV.int .i64)) (eq:=keq1) (l:=a1.qH) (k:=x1) (z:=0) (kt:=3) (e:=3) (Js hc13) (by kernel_rfl) (fun x=>by kernel_rfl) (fun x y=>by kernel_rfl) (by kernel_rfl))) (e1:=z9 []) ?_;obtain⟨hc14,h⟩:=qq h;let z10:=fun t=>z9 ((26,.ptr (mpE (AV.int .i64) (AV.int .i64) a1.qy))::(27,mpE (AV.int .i64) (AV.int .i64) a1.qy)::(28,I6 a2)::(29,I6 (mget keq1 0 a2 a1.qy))::t);refine WO.pk 3 ((alookup Try.prog 85 [] (mpE (AV.int .i64) (AV.int .i64) a1.qy) (I6 a2)).map AV.strip) (congrArg (A4 AV.strip) (jK (F:=(AV.int .i64)) (G:=(AV.int .i64)) (eq:=keq1) (l:=a1.qy) (k:=a2) (z:=0) (kt:=3) (e:=3) (Js hc14) (by kernel_rfl) (fun x=>by kernel_rfl) (fun x y=>by kernel_rfl) (by kernel_rfl))) (e1:=z10 []) ?_;refine WO.bh 3 (fun b=>z10 [(30,.bool b),(31,.bool b),(32,.bool b)]) (decide ((mget keq1 0 x1 a1.qH)<(mget keq1 0 a2 a1.qy))) h (fun h=>?_) (fun h=>?_)
   ·let z11:=fun t=>z10 ((30,.bool true)::(31,.bool true)::(32,.bool true)::(33,I6 v8)::t);refine WO.bh 3 (fun b=>z11 [(34,.bool b),(35,.bool b)]) (v8 == 0) h (fun h=>?_) (fun h=>?_)
    ·refine WO.fn (e2:=z7 [(46,.bool true)]) ?_;exact hK11 true h
    obtain⟨hc15,h⟩:=qq h;let z12:=fun t=>z11 ((34,.bool false)::(35,.bool false)::(36,.ptr (mpE (AV.int .i64) (AV.int .i64) a1.qH))::(37,mpE (AV.int .i64) (AV.int .i64) a1.qH)::(38,I6 x1)::(39,I6 (mget keq1 0 x1 a1.qH))::t);refine WO.pk 3 ((alookup Try.prog 85 [] (mpE (AV.int .i64) (AV.int .i64) a1.qH) (I6 x1)).map AV.strip) (congrArg (A4 AV.strip) (jK (F:=(AV.int .i64)) (G:=(AV.int .i64)) (eq:=keq1) (l:=a1.qH) (k:=x1) (z:=0) (kt:=3) (e:=3) (Js hc15) (by kernel_rfl) (fun x=>by kernel_rfl) (fun x y=>by kernel_rfl) (by kernel_rfl))) (e1:=z12 []) ?_;obtain⟨hc16,h⟩:=qq h;refine WO.pk 3 ((alookup Try.prog 85 [] (mpE (AV.int .i64) (AV.int .i64) a1.qH) (I6 v8)).map AV.strip) (congrArg (A4 AV.strip) (jK (F:=(AV.int .i64)) (G:=(AV.int .i64)) (eq:=keq1) (l:=a1.qH) (k:=v8) (z:=0) (kt:=3) (e:=3) (Js hc16) (by kernel_rfl) (fun x=>by kernel_rfl) (fun x y=>by kernel_rfl) (by kernel_rfl))) (e1:=z12 [(40,.ptr (mpE (AV.int .i64) (AV.int .i64) a1.qH)),(41,mpE (AV.int .i64) (AV.int .i64) a1.qH),(42,I6 v8),(43,I6 (mget keq1 0 v8 a1.qH))]) ?_;refine WO.fn (e2:=z7 [(46,.bool (decide ((mget keq1 0 x1 a1.qH) > (mget keq1 0 v8 a1.qH))))]) ?_;exact hK11 (decide ((mget keq1 0 x1 a1.qH) > (mget keq1 0 v8 a1.qH))) h
   refine WO.fn (e2:=z7 [(46,.bool false)]) ?_;exact hK11 false h
  refine WO.fn (e2:=z7 [(46,.bool false)]) ?_;exact hK11 false h
def jk:Option Bool :=
 (some true)
def jF (N1:(Option Bool)):Option Bool :=
 N1
def Jq (N2:(Option Bool)):Option Bool :=
 N2
def jR (N3:(Option Bool)) (v17:Bool):Option Bool :=
 (bif v17 then (some false) else N3)
def qU (a1:je) (x1:Int) (x2:Int) (K8:(Option Bool)):List Nat→Nat→Option Bool
 | [],k3=>K8
 | x3::r3,k3=>(bif (decide (x1<x2)) then ((Qs a1 x1 x2).bind fun w14=>(bif w14 then ((jG a1 x1 (k3:Int)).bind fun w15=>(bif w15 then ((jG a1 x2 (k3:Int)).bind fun w16=>((jR (qU a1 x1 x2 K8 r3 (k3+1))) w16)) else ((jR (qU a1 x1 x2 K8 r3 (k3+1))) false))) else ((jR (qU a1 x1 x2 K8 r3 (k3+1))) false))) else ((jR (qU a1 x1 x2 K8 r3 (k3+1))) false))
def qV (a1:je) (x1:Int) (K5:(Option Bool)):List Int→Nat→Option Bool
 | [],k2=>K5
 | x2::r2,k2=>(chk (lenOk (B5 (A1 6))) (qU a1 x1 x2 (Jq (qV a1 x1 K5 r2 (k2+1))) (B5 (A1 6)) 0))
def qN (a1:je) (K3:(Option Bool)):List Int→Nat→Option Bool
 | [],k1=>K3
 | x1::r1,k1=>(chk (lenOk a1.qp) (qV a1 x1 (jF (qN a1 K3 r1 (k1+1))) a1.qp 0))
def Jb (a1:je):Option Bool :=
 (chk (lenOk a1.qp) (qN a1 (jk) a1.qp 0))
theorem Yb (a1:je) (r:Bool) (h:Jb a1=some r):Run Try.prog (.call 78 [.agg [l44 none a1.f_h,l3 none a1.qp,mpE (AV.int .i64) (AV.int .i64) a1.qy,mpE (AV.int .i64) (AV.int .i64) a1.qH]] (.bool r)):=by
 refine cW Try.func78 rfl (env0:=[(0,.agg [l44 none a1.f_h,l3 none a1.qp,mpE (AV.int .i64) (AV.int .i64) a1.qy,mpE (AV.int .i64) (AV.int .i64) a1.qH])]) ?_;unfold Jb at h;refine W.seq ?_;let z0:=fun t=>EN ((1,.ptr (.agg [l44 none a1.f_h,l3 none a1.qp,mpE (AV.int .i64) (AV.int .i64) a1.qy,mpE (AV.int .i64) (AV.int .i64) a1.qH]))::t);refine W.rT [1] [1] (e2:=z0 []) ?_;refine W.seq<|W.join (σ:=Unit) (fun s=>[]) (fun s=>(jk)=some r) (fun s h=>?_) (fun hK3=>?_)
 ·unfold jk at h;refine W.seq<|W.rt (e2:=[(2,.bool true)]) ?_;refine W.wk (e:=[(2,.bool true)]) ?_;cases h;exact W.rr
 refine W.sr<|WO.pq 2 (jM (.int .i64) a1.qp) (e1:=z0 [(8,.ptr (l3 none a1.qp)),(9,l3 none a1.qp),(10,I6 (a1.qp.length:Int))]) ?_;let z1:=fun t=>z0 ((9,l3 none a1.qp)::(10,I6 (a1.qp.length:Int))::t);refine WO.fn (e2:=z1 [(11,.int .i64 0)]) ?_;refine W.block ?_;obtain⟨hl1,h⟩:=qq h;refine W.wk (e:=z1 [(11,I6 ((0:Nat):Int))])<|W.range (σ:=Unit) a1.qp (fun k1 s=>z1 [(11,I6 (k1:Int))]) (fun r0 k0 s=>qN a1 (jk) r0 k0=some r) (fun s h=>?_) (fun x1 r1 k1 s hx1 hk1 h hN1=>?_) () h
 ·rw[qN.eq_1]at h;refine W.sr ?_;let y0:Env:=[(9,l3 none a1.qp),(10,I6 (a1.qp.length:Int)),(11,I6 ((a1.qp).length:Int)),(12,.bool false)];refine WO.pq 0 (jB (jj (l:=a1.qp))) (e1:=z0 y0)<|WO.fn (e2:=z0 y0) ?_;refine W.seq<|W.cF<|W.exit<|W.wk (e:=[]) ?_;exact hK3 () h
 ·rw[qN.eq_2]at h;refine W.sr ?_;let y1:Env:=[(9,l3 none a1.qp),(10,I6 (a1.qp.length:Int)),(11,I6 (k1:Int)),(12,.bool true)];refine WO.pq 0 (jB (jD hk1)) (e1:=z0 y1)<|WO.fn (e2:=z0 y1) ?_;refine W.seq<|W.cT<|W.skip ?_;let y2:Env:=[(9,l3 none a1.qp),(10,I6 (a1.qp.length:Int)),(11,I6 (k1:Int))];refine W.wk (e:=z0 y2)<|W.seq<|W.join (σ:=Unit) (fun s=>z0 y2) (fun s=>(jF (qN a1 (jk) r1 (k1+1)))=some r) (fun s h=>?_) (fun hK5=>?_)
  ·unfold jF at h;refine W.rg<|WO.pq 0 (jI (qS hl1 hk1)) (e1:=z1 [(11,I6 (k1:Int)),(48,I6 ((k1+1:Nat):Int))])<|WO.fn (e2:=z1 [(11,I6 ((k1+1:Nat):Int))]) ?_;exact hN1 () h
  refine W.block<|W.sr<|WO.pq 0 (jE (f:=(AV.int .i64)) hx1) (e1:=z1 [(11,I6 (k1:Int)),(13,.ptr (I6 x1))]) ?_;let z2:=fun t=>z0 ((4,I6 x1)::t);refine WO.fn (e2:=z2 y2) ?_;refine W.sr ?_;let z3:=fun t=>z2 ((9,l3 none a1.qp)::(10,I6 (a1.qp.length:Int))::(11,I6 (k1:Int))::t);refine WO.pq 2 (jM (.int .i64) a1.qp) (e1:=z3 [(15,.ptr (l3 none a1.qp)),(16,l3 none a1.qp),(17,I6 (a1.qp.length:Int))]) ?_;let z4:=fun t=>z3 ((16,l3 none a1.qp)::(17,I6 (a1.qp.length:Int))::t);refine WO.fn (e2:=z4 [(18,.int .i64 0)]) ?_;refine W.block ?_;obtain⟨hl2,h⟩:=qq h;refine W.wk (e:=z4 [(18,I6 ((0:Nat):Int))])<|W.range (σ:=Unit) a1.qp (fun k2 s=>z4 [(18,I6 (k2:Int))]) (fun r0 k0 s=>qV a1 x1 (jF (qN a1 (jk) r1 (k1+1))) r0 k0=some r) (fun s h=>?_) (fun x2 r2 k2 s hx2 hk2 h hN2=>?_) () h
  ·rw[qV.eq_1]at h;refine W.sr ?_;let y3:Env:=[(4,I6 x1),(9,l3 none a1.qp),(10,I6 (a1.qp.length:Int)),(11,I6 (k1:Int)),(16,l3 none a1.qp),(17,I6 (a1.qp.length:Int)),(18,I6 ((a1.qp).length:Int)),(19,.bool false)];refine WO.pq 0 (jB (jj (l:=a1.qp))) (e1:=z0 y3)<|WO.fn (e2:=z0 y3) ?_;refine W.seq<|W.cF<|W.exit<|W.wk (e:=z0 y2) ?_;exact hK5 () h
  ·rw[qV.eq_2]at h;refine W.sr ?_;let y4:Env:=[(4,I6 x1),(9,l3 none a1.qp),(10,I6 (a1.qp.length:Int)),(11,I6 (k1:Int)),(16,l3 none a1.qp),(17,I6 (a1.qp.length:Int)),(18,I6 (k2:Int)),(19,.bool true)];refine WO.pq 0 (jB (jD hk2)) (e1:=z0 y4)<|WO.fn (e2:=z0 y4) ?_;refine W.seq<|W.cT<|W.skip ?_;let y5:Env:=[(9,l3 none a1.qp),(10,I6 (a1.qp.length:Int)),(11,I6 (k1:Int)),(16,l3 none a1.qp),(17,I6 (a1.qp.length:Int)),(18,I6 (k2:Int))];refine W.wk (e:=z2 y5)<|W.seq<|W.join (σ:=Unit) (fun s=>z2 y5) (fun s=>(Jq (qV a1 x1 (jF (qN a1 (jk) r1 (k1+1))) r2 (k2+1)))=some r) (fun s h=>?_) (fun hK8=>?_)
   ·unfold Jq at h;refine W.rg<|WO.pq 0 (jI (qS hl2 hk2)) (e1:=z4 [(18,I6 (k2:Int)),(47,I6 ((k2+1:Nat):Int))])<|WO.fn (e2:=z4 [(18,I6 ((k2+1:Nat):Int))]) ?_;exact hN2 () h
   refine W.block<|W.sr<|WO.pq 0 (jE (f:=(AV.int .i64)) hx2) (e1:=z4 [(18,I6 (k2:Int)),(20,.ptr (I6 x2))]) ?_;let z5:=fun t=>z2 ((6,I6 x2)::t);refine WO.fn (e2:=z5 y5) ?_;refine W.seq ?_;let z6:=fun t=>z5 ((9,l3 none a1.qp)::(10,I6 (a1.qp.length:Int))::(11,I6 (k1:Int))::(16,l3 none a1.qp)::(17,I6 (a1.qp.length:Int))::(18,I6 (k2:Int))::t);refine W.rt (e2:=z6 [(22,.int .i64 0)]) ?_;refine W.block ?_;obtain⟨hl3,h⟩:=qq h;refine W.wk (e:=z6 [(22,I6 ((0:Nat):Int))])<|W.range (σ:=Unit) (B5 (A1 6)) (fun k3 s=>z6 [(22,I6 (k3:Int))]) (fun r0 k0 s=>qU a1 x1 x2 (Jq (qV a1 x1 (jF (qN a1 (jk) r1 (k1+1))) r2 (k2+1))) r0 k0=some r) (fun s h=>?_) (fun x3 r3 k3 s hx3 hk3 h hN3=>?_) () h
   ·rw[qU.eq_1]at h;refine W.sr ?_;let y6:Env:=[(4,I6 x1),(6,I6 x2),(9,l3 none a1.qp),(10,I6 (a1.qp.length:Int)),(11,I6 (k1:Int)),(16,l3 none a1.qp),(17,I6 (a1.qp.length:Int)),(18,I6 (k2:Int)),(22,I6 (((B5 (A1 6))).length:Int)),(23,.bool false)];refine WO.pq 0 (jB (qbh (n:=6))) (e1:=z0 y6)<|WO.fn (e2:=z0 y6) ?_;refine W.seq<|W.cF<|W.exit<|W.wk (e:=z2 y5) ?_;exact hK8 () h
   ·rw[qU.eq_2]at h;refine W.sr ?_;let y7:Env:=[(4,I6 x1),(6,I6 x2),(9,l3 none a1.qp),(10,I6 (a1.qp.length:Int)),(11,I6 (k1:Int)),(16,l3 none a1.qp),(17,I6 (a1.qp.length:Int)),(18,I6 (k2:Int)),(22,I6 (k3:Int)),(23,.bool true)];refine WO.pq 0 (jB (qdl hk3)) (e1:=z0 y7)<|WO.fn (e2:=z0 y7) ?_;refine W.seq<|W.cT<|W.skip ?_;let y8:Env:=[(9,l3 none a1.qp),(10,I6 (a1.qp.length:Int)),(11,I6 (k1:Int)),(16,l3 none a1.qp),(17,I6 (a1.qp.length:Int)),(18,I6 (k2:Int)),(22,I6 (k3:Int))];refine W.wk (e:=z5 y8)<|W.seq<|W.block<|W.seq ?_;let z7:=fun t=>z5 ((7,I6 (k3:Int))::t);refine W.rt (e2:=z7 y8) ?_;refine W.seq ?_;let z8:=fun t=>z6 ((22,I6 (k3:Int))::t);refine W.join (σ:=(Bool)) (fun s=>z8 [(45,.bool s)]) (fun s=>(jR (qU a1 x1 x2 (Jq (qV a1 x1 (jF (qN a1 (jk) r1 (k1+1))) r2 (k2+1))) r3 (k3+1))) s=some r) (fun v17 h=>?_) (fun hK13=>?_)
    ·unfold jR at h;refine W.ch v17 h (fun h=>?_) (fun h=>?_)
     ·refine W.seq<|W.rt (e2:=[(2,.bool false)]) ?_;refine W.wk (e:=[(2,.bool false)]) ?_;cases h;exact W.rr
     refine W.sw (e:=z5 y8) ?_;refine W.rg<|WO.pq 0 (jI (qS hl3 hk3)) (e1:=z8 [(46,I6 ((k3+1:Nat):Int))])<|WO.fn (e2:=z6 [(22,I6 ((k3+1:Nat):Int))]) ?_;exact hN3 () h
    refine W.rg ?_;let z9:=fun t=>z7 ((9,l3 none a1.qp)::(10,I6 (a1.qp.length:Int))::(11,I6 (k1:Int))::(16,l3 none a1.qp)::(17,I6 (a1.qp.length:Int))::(18,I6 (k2:Int))::(22,I6 (k3:Int))::(25,I6 x1)::(26,I6 x2)::t);refine WO.bh 4 (fun b=>z9 [(27,.bool b),(28,.bool b)]) (decide (x1<x2)) h (fun h=>?_) (fun h=>?_)
    ·obtain⟨w14,hw14,h⟩:=ql h;let z10:=fun t=>z9 ((27,.bool true)::(28,.bool true)::(29,.agg [l44 none a1.f_h,l3 none a1.qp,mpE (AV.int .i64) (AV.int .i64) a1.qy,mpE (AV.int .i64) (AV.int .i64) a1.qH])::(30,I6 x1)::(31,I6 x2)::t);refine WO.ck 3 (F:=80) (l:=[.agg [l44 none a1.f_h,l3 none a1.qp,mpE (AV.int .i64) (AV.int .i64) a1.qy,mpE (AV.int .i64) (AV.int .i64) a1.qH],I6 x1,I6 x2]) (C:=[]) (r:=.bool w14) (ZT a1 x1 x2 w14 hw14) (e1:=z10 [(32,.bool w14)])<|WO.bh 2 (fun b=>z10 [(32,.bool b),(33,.bool b),(34,.bool b)]) w14 h (fun h=>?_) (fun h=>?_)
     ·obtain⟨w15,hw15,h⟩:=ql h;let z11:=fun t=>z10 ((32,.bool true)::(33,.bool true)::(34,.bool true)::(35,.agg [l44 none a1.f_h,l3 none a1.qp,mpE (AV.int .i64) (AV.int .i64) a1.qy,mpE (AV.int .i64) (AV.int .i64) a1.qH])::(36,I6 x1)::(37,I6 (k3:Int))::t);refine WO.ck 3 (F:=106) (l:=[.agg [l44 none a1.f_h,l3 none a1.qp,mpE (AV.int .i64) (AV.int .i64) a1.qy,mpE (AV.int .i64) (AV.int .i64) a1.qH],I6 x1,I6 (k3:Int)]) (C:=[]) (r:=.bool w15) (Jo a1 x1 (k3:Int) w15 hw15) (e1:=z11 [(38,.bool w15)])<|WO.bh 2 (fun b=>z11 [(38,.bool b),(39,.bool b),(40,.bool b)]) w15 h (fun h=>?_) (fun h=>?_)
      ·obtain⟨w16,hw16,h⟩:=ql h;refine WO.ck 3 (F:=106) (l:=[.agg [l44 none a1.f_h,l3 none a1.qp,mpE (AV.int .i64) (AV.int .i64) a1.qy,mpE (AV.int .i64) (AV.int .i64) a1.qH],I6 x2,I6 (k3:Int)]) (C:=[]) (r:=.bool w16) (Jo a1 x2 (k3:Int) w16 hw16) (e1:=z11 [(38,.bool true),(39,.bool true),(40,.bool true),(41,.agg [l44 none a1.f_h,l3 none a1.qp,mpE (AV.int .i64) (AV.int .i64) a1.qy,mpE (AV.int .i64) (AV.int .i64) a1.qH]),(42,I6 x2),(43,I6 (k3:Int)),(44,.bool w16)])<|WO.fn (e2:=z8 [(45,.bool w16)]) ?_;exact hK13 w16 h
      refine WO.fn (e2:=z8 [(45,.bool false)]) ?_;exact hK13 false h
     refine WO.fn (e2:=z8 [(45,.bool false)]) ?_;exact hK13 false h
    refine WO.fn (e2:=z8 [(45,.bool false)]) ?_;exact hK13 false h
def Qg:Option Int :=
 (some (-1))
def jW (g2:(hsOp→Option Bool)) (K4:(Option Int)):List hsOp→Nat→Option Int
 | [],k1=>K4
 | x1::r1,k1=>((g2 x1).bind fun w9=>(bif w9 then (some (k1:Int)) else (jW g2 K4 r1 (k1+1))))
def QO (a1:(List hsOp)) (g2:(hsOp→Option Bool)):Option Int :=
 (chk (lenOk a1) (jW g2 (Qg) a1 0))
theorem VI (a1:(List hsOp)) (g2:(hsOp→Option Bool)) (F_g2:Nat) (C_g2:List AV) (hok_g2:okFn Try.prog F_g2=true) (hrun_g2:∀ (x0:hsOp) r,g2 x0=some r→Run Try.prog (.call F_g2 ([.agg [I6 x0.qb,I6 x0.qh,I6 x0.qi]]++C_g2) (.bool r))) (r:Int) (h:QO a1 g2=some r):Run Try.prog (.call 104 [l44 none a1,.clo F_g2 C_g2] (I6 r)):=by
 refine cW Try.func104 rfl (env0:=[(0,l44 none a1),(1,.clo F_g2 C_g2)]) ?_;unfold QO at h;refine W.seq ?_;let z0:=fun t=>EN ((0,l44 none a1)::(1,.clo F_g2 C_g2)::t);refine W.rt (e2:=z0 []) ?_;refine W.seq<|W.join (σ:=Unit) (fun s=>[]) (fun s=>(Qg)=some r) (fun s h=>?_) (fun hK4=>?_)
 ·unfold Qg at h;refine W.seq<|W.rt (e2:=[(4,I6 (-1))]) ?_;refine W.wk (e:=[(4,I6 (-1))]) ?_;cases h;exact W.rr
 refine W.sr<|WO.pq 1 (jM jf a1) (e1:=z0 [(6,l44 none a1),(7,I6 (a1.length:Int))]) ?_;let z1:=fun t=>z0 ((7,I6 (a1.length:Int))::t);refine WO.fn (e2:=z1 [(8,.int .i64 0)]) ?_;refine W.block ?_;obtain⟨hl1,h⟩:=qq h;refine W.wk (e:=z1 [(8,I6 ((0:Nat):Int))])<|W.range (σ:=Unit) a1 (fun k1 s=>z1 [(8,I6 (k1:Int))]) (fun r0 k0 s=>jW g2 (Qg) r0 k0=some r) (fun s h=>?_) (fun x1 r1 k1 s hx1 hk1 h hN1=>?_) () h
 ·rw[jW.eq_1]at h;refine W.sr ?_;let y0:Env:=[(1,.clo F_g2 C_g2),(7,I6 (a1.length:Int)),(8,I6 ((a1).length:Int)),(9,.bool false)];refine WO.pq 0 (jB (jj (l:=a1))) (e1:=((0,l44 none a1)::y0))<|WO.fn (e2:=((0,l44 none a1)::y0)) ?_;refine W.seq<|W.cF<|W.exit<|W.wk (e:=[]) ?_;exact hK4 () h
 ·rw[jW.eq_2]at h;refine W.sr ?_;let y1:Env:=[(1,.clo F_g2 C_g2),(7,I6 (a1.length:Int)),(8,I6 (k1:Int)),(9,.bool true)];let z2:=fun t=>EN ((0,l44 none a1)::t);refine WO.pq 0 (jB (jD hk1)) (e1:=z2 y1)<|WO.fn (e2:=z2 y1) ?_;refine W.seq<|W.cT<|W.skip ?_;let y2:Env:=[(7,I6 (a1.length:Int)),(8,I6 (k1:Int))];refine W.wk (e:=z0 y2)<|W.seq<|W.block<|W.seq ?_;let z3:=fun t=>z0 ((5,I6 (k1:Int))::t);refine W.rt (e2:=z3 y2) ?_;refine W.sr ?_;let z4:=fun t=>z3 ((7,I6 (a1.length:Int))::(8,I6 (k1:Int))::(11,.clo F_g2 C_g2)::(12,l44 none a1)::(13,I6 (k1:Int))::(14,.ptr (.agg [I6 x1.qb,I6 x1.qh,I6 x1.qi]))::t);refine WO.pq 3 (jE (f:=jf) hx1) (e1:=z4 []) ?_;obtain⟨w9,hw9,h⟩:=ql h;refine WO.callK 1 (F:=F_g2) (l:=[.agg [I6 x1.qb,I6 x1.qh,I6 x1.qi]]) (C:=C_g2) (r:=.bool w9) (by kernel_rfl) hok_g2 (hrun_g2 x1 w9 hw9) (e1:=z4 [(15,.agg [I6 x1.qb,I6 x1.qh,I6 x1.qi]),(16,.bool w9)]) (by kernel_rfl)<|WO.fn (e2:=z3 [(7,I6 (a1.length:Int)),(8,I6 (k1:Int)),(16,.bool w9)]) ?_;refine W.ch w9 h (fun h=>?_) (fun h=>?_)
  ·refine W.seq<|W.rt (e2:=[(4,I6 (k1:Int))]) ?_;refine W.wk (e:=[(4,I6 (k1:Int))]) ?_;cases h;exact W.rr
  refine W.sw (e:=z0 y2) ?_;refine W.rg<|WO.pq 0 (jI (qS hl1 hk1)) (e1:=z1 [(8,I6 (k1:Int)),(18,I6 ((k1+1:Nat):Int))])<|WO.fn (e2:=z1 [(8,I6 ((k1+1:Nat):Int))]) ?_;exact hN1 () h
def Jd (a1:hsOp) (c2:Int):Option Bool :=
 (some (a1.qb == c2))
theorem ZF (a1:hsOp) (c2:Int) (r:Bool) (h:Jd a1 c2=some r):Run Try.prog (.call 105 [.agg [I6 a1.qb,I6 a1.qh,I6 a1.qi],.ptr (I6 c2)] (.bool r)):=by
 refine cW Try.func105 rfl (env0:=[(0,.agg [I6 a1.qb,I6 a1.qh,I6 a1.qi]),(1,.ptr (I6 c2))]) ?_;unfold Jd at h;refine W.seq<|W.rT [1,2] [2] (e2:=[(1,.ptr (I6 c2)),(2,.ptr (.agg [I6 a1.qb,I6 a1.qh,I6 a1.qi]))]) ?_;refine W.seq<|W.rt (e2:=[(3,.bool (a1.qb == c2))]) ?_;refine W.wk (e:=[(3,.bool (a1.qb == c2))]) ?_;cases h;exact W.rr
end Go.AM
namespace Go.AM
def beginsP (h:List hsOp):List Int→List (Int×Int)→Option (List (Int×Int))
 | [],m=>some m
 | t::l,m=>(QO h fun y=>Jd y t).bind fun i=>beginsP h l (mset keq1 t i m)
def snapP (fuel:Nat) (a1:List hsOp):Option je:=(Jm fuel a1).bind fun l=>(jV fuel a1 2).bind fun en=>chk (decide (l.length≤1000) && l.all (wfI .i64)) ((beginsP a1 l []).bind fun be=>some ⟨a1,l,be,en⟩)
end Go.AM
namespace Go.Proofs
open Go.RowKit Go.AM
open Go.ChangeMaps (setBlock)
theorem qfT {M:Mem} {ks vs:List AV} {v:Value} (h:R M (.mpv ks vs) v):∃ mo,v=.map mo:=by
 generalize hx:AV.mpv ks vs=x at h
 cases h <;> first | exact⟨_,rfl⟩ | cases hx
theorem qga {M:Mem} {l:List hsOp} {v:Value} (h:R M (l44 none l) v):∃ a cap,v=.slice a l.length cap:=by
 unfold l44 at h;generalize hx:List.map jf l=xs at h
 cases h with
 | lstn =>
  have:l=[]:=by simpa using hx
  subst this;exact⟨none,0,rfl⟩
 | lste _ _ _ ad cap =>
  have:l=[]:=by simpa using hx
  subst this;exact⟨some ad,cap,rfl⟩
 | lst us h1 h2 h5 h3 h4 =>
  subst hx;exact⟨_,_,by rw[D9]⟩
theorem qbg (k v:Int):∀ l:List (Int×Int),(mset keq1 k v l).length≤l.length+1
 | []=>by simp[mset]
 | p::r=>by
  have:=qbg k v r;unfold mset;cases keq1 p.1 k <;> simp <;> omega
set_option maxHeartbeats 4000000 in
theorem qdT {fuel:Nat} {a1:List hsOp} {r:je} (h:snapP fuel a1=some r):CallOk Try.prog 77 [l44 none a1] (Nz r):=by
 intro M w vs hG hC hl hR
 obtain⟨v0,rfl⟩:∃ v0,vs=[v0]:=by
  match vs,hl with
  | [v0],_=>exact⟨v0,rfl⟩
 have r0:R M (l44 none a1) v0:=hR 0 _ v0 rfl rfl;clear hR hl hG;show Calls Try.prog 77 [v0].toArray w (qbK M w (Nz r));unfold snapP at h;obtain⟨l,hcm,h⟩:=ql h;obtain⟨en,hen,h⟩:=ql h;obtain⟨hck,h⟩:=qq h;rw[D0,decide_eq_true_eq]at hck;obtain⟨hlen,hwf⟩:=hck;obtain⟨be,hbe,h⟩:=ql h;cases h;have mixed:=mixedP;have t3:=Try.underlying3;have a3:=Try.isAgg3;have z3:=Try.sizeOf3;have v3:=Try.zeroValue3;have u3:=run_underlying Try.underlying3;have t4:=Try.underlying4;have a4:=Try.isAgg4;have z4:=Try.sizeOf4;have v4:=Try.zeroValue4;have t24:=Try.underlying24;have a24:=Try.isAgg24;have z24:=Try.sizeOf24;have v24:=Try.zeroValue24;have u24:=run_underlying Try.underlying24;have t29:=Try.underlying29;have a29:=Try.isAgg29;have z29:=Try.sizeOf29;have v29:=Try.zeroValue29;have t85:=Try.underlying85;have a85:=Try.isAgg85;have z85:=Try.sizeOf85;have v85:=Try.zeroValue85;have u85:=run_underlying Try.underlying85;have t118:=Try.underlying118;have a118:=Try.isAgg118;have z118:=Try.sizeOf118;have v118:=Try.zeroValue118;have u118:=run_underlying Try.underlying118;have t136:=Try.underlying136;have a136:=Try.isAgg136;have z136:=Try.sizeOf136;have v136:=Try.zeroValue136;have hmm:=@run_makeMap Try.prog
 go_enter Try.func77,Try.ntmps77
 go_wp2_with fail
 obtain⟨w0,ew0⟩:∃ w0,w0=w.alloc (.cells #[.slice none 0 0,.slice none 0 0,.map none,.map none] 118):=⟨_,rfl⟩
 have C0:Cons M w0:=by rw[ew0];exact hC.alloc _
 have hz0:w0.heap[w.heap.size]? = some (.cells #[.slice none 0 0,.slice none 0 0,.map none,.map none] 118 (0,0)):=by rw[ew0];exact heap_alloc_new _ _
 have hs0:w0.heap.size=w.heap.size+1:=by rw[ew0];simp
 have B0:Below w.heap.size w w0:=by rw[ew0];exact (Below.refl _ _).alloc (A5 _) _
 rw[← ew0];have c51:=DB (QW fuel a1 l hcm) M w0 [v0] (glob0 M) C0 rfl (fun j a b ha hb=>by match j,ha,hb with | 0,ha,hb=>cases ha;cases hb;exact r0);refine Calls.mono c51 ?_
 rintro e w1 ⟨lv,M1,rfl,hB1,s1,C1,o1,r1,_⟩
 have c62:=DB (JW fuel a1 2 en hen) M1 (w1.alloc (.map #[] 0)) [v0,.int .i64 2] (glob0 M1) (C1.alloc _) rfl (fun j a b ha hb=>by match j,ha,hb with | 0,ha,hb=>(cases ha;cases hb;exact r0.mono s1) | 1,ha,hb=>(cases ha;cases hb;exact .int _ _))
 go_wp2_with fail
 refine Calls.mono c62 ?_
 rintro e w2 ⟨ev,M2,rfl,hB2,s2,C2,o2,r2,_⟩
 obtain⟨a5,lcap,rfl,hlc⟩:=qfY (l:=l) r1;obtain⟨mo,rfl⟩:=qfT r2;obtain⟨h5,hcap,rfl⟩:∃ h5 hcap,v0=.slice h5 a1.length hcap:=qga r0;clear ew0 c51 c62;obtain⟨w3,ew3⟩:∃ w3,w3=w2.alloc (.cells #[.slice h5 a1.length hcap,.slice a5 l.length lcap,.map (some w1.heap.size),.map mo] 118):=⟨_,rfl⟩;have q1:=hB1.size
 have q2:w1.heap.size+1≤w2.heap.size:=by simpa using hB2.size
 have hs3:w3.heap.size=w2.heap.size+1:=by rw[ew3];simp
 have hb3:w3.heap[w2.heap.size]? = some (.cells #[.slice h5 a1.length hcap,.slice a5 l.length lcap,.map (some w1.heap.size),.map mo] 118 (0,0)):=by rw[ew3];exact heap_alloc_new _ _
 have hm3:w3.heap[w1.heap.size]? = some (.map #[] 0):=by
  rw[ew3,heap_alloc_old _ _ (by omega),hB2.block _ (by simp)];exact heap_alloc_new _ _
 have hz3:w3.heap[w.heap.size]? = some (.cells #[.slice none 0 0,.slice none 0 0,.map none,.map none] 118 (0,0)):=by
  rw[ew3,heap_alloc_old _ _ (by omega),hB2.block _ (by simp;omega),heap_alloc_old _ _ (by omega),hB1.block _ (by omega)];exact hz0
 have B03:Below w.heap.size w w3:=by
  have e1:Below w.heap.size w1 (w1.alloc (.map #[] 0)):=(Below.refl _ _).alloc (by omega) _;have e2:=hB2.mono (B':=w.heap.size) (by simp;omega);rw[ew3];exact ((((B0.trans (hB1.mono (by omega))).trans e1).trans e2)).alloc (by omega) _
 have C3:Cons M2 w3:=by rw[ew3];exact C2.alloc _
 have hno:∀ o,M2 w1.heap.size o=none:=fun o=>by
  rw[o2 _ _ (by simp)]
  cases hm:M1 w1.heap.size o with
  | none=>rfl
  | some u=>have:=VE (C1 _ _ _ hm);omega
 have rH:R M2 (l44 none a1) (.slice h5 a1.length hcap):=(r0.mono s1).mono s2
 have hL:∀ j (hj:j<l.length),∃ b off,a5=some ⟨b,off,none⟩∧M2 b (off+j)=some (.int .i64 l[j]):=fun j hj=>by
  obtain⟨b,off,h1,h2⟩:=hlc j hj;exact⟨b,off,h1,s2 _ _ _ h2⟩
 have HW:=(show Hid (w3=_) from ew3)
 have hmf:∀ (fn:Fn) (first cap:Array Value) (w:World),(Instr.makeFunc fn first cap).run Try.prog w=.ok (.func fn first cap) w:=fun _ _ _ _=>rfl
 go_wp2
 rw[← HW.out];clear ew3
 go_loopw [16] (fun i wr=>∃ k:Nat,k≤l.length∧i=.int .i64 k∧(∃ m:List (Int×Int),m.length≤k∧beginsP a1 (l.drop k) m=some be∧MapAt M2 wr w1.heap.size (AV.int .i64) (AV.int .i64) m)∧(wr.os=w3.os∧wr.tape=w3.tape∧wr.output=w3.output∧w3.heap.size≤wr.heap.size∧∀ k,k<w3.heap.size→k≠w1.heap.size→wr.heap[k]? = w3.heap[k]?))
  (fun i _=>l.length - (RowKit.intOf i).toNat)
 case atStart=>exact⟨0,Nat.zero_le _,rfl,⟨[],A5 _,hbe,.empty hm3⟩,rfl,rfl,rfl,A5 _,fun _ _ _=>rfl⟩
 case round =>
  obtain⟨k,hk,rfl,⟨m,hml,hbk,es,clock,hmb,hE⟩,g1,g2,g3,g4,g5⟩:=hrel
  have hCr:Cons M2 wr:=C3.of_blocks fun b o u hu hb=>g5 b hb fun e=>by rw[e,hno]at hu;cases hu
  rcases Nat.lt_or_ge k l.length with hk1 | hk1
  ·obtain⟨b,off,rfl,hM⟩:=hL k hk1;have hcx:=YL (hCr _ _ _ hM) rfl;have j0:(0:Int)≤(k:Int):=Int.natCast_nonneg _
   have j1:(k:Int)<(l.length:Int):=by omega
   have hwx:=List.all_eq_true.1 hwf _ (List.getElem_mem hk1);rw[List.drop_eq_getElem_cons hk1]at hbk;generalize l[k]=x at hcx hwx hbk;obtain⟨ix,hix,hbk⟩:=ql hbk;have hrun:=DB (VI a1 (fun y=>Jd y x) 105 [.ptr (.int .i64 x)] (by kernel_rfl) (fun y r h=>ZF y x r h) ix hix);have hcall:=hrun (madd M2 wr.heap.size (.int .i64 x)) (wr.alloc (.cells #[.int .i64 x] 3)).drew [.slice h5 a1.length hcap,.func (.func 105) #[] #[.pointer (some ⟨wr.heap.size,0,none⟩)]] (glob0 _)
    (qfV (w:=wr.alloc (.cells #[.int .i64 x] 3)) (hCr.alloc _) (heap_alloc_new _ _) rfl rfl) rfl (fun j a b ha hb=>by
     match j,ha,hb with
     | 0,ha,hb=>cases ha;cases hb;exact rH.mono (qgV hCr (A5 _))
     | 1,ha,hb =>
      cases ha;cases hb
      refine .clo (vs:=[.pointer (some ⟨wr.heap.size,0,none⟩)]) rfl fun j c v hc hv=>?_
      match j,hc,hv with
      | 0,hc,hv =>
       cases hc;cases hv;refine .ptr (fun _=>.int .i64 x) (fun j c hc=>?_) (fun j c hc=>?_) (fun j c hc=>rfl)
       ·match j,hc with
        | 0,hc=>exact qhH _ _ _
       ·match j,hc with
        | 0,hc=>cases hc;exact .int _ _)
   obtain⟨es',clock',hE',hU⟩:=Try.update_own (t:=85) (kt:=3) (e:=3) (eq:=keq1) hE (by kernel_rfl) (fun x=>by kernel_rfl) (fun x y=>by simp[akeq,keq1,kbeq]) (k:=x) (v:=ix) (kv:=.int .i64 x) (vv:=.int .i64 ix) (by simp only[AV.keyV,hwx]) (.int _ _) (by omega)
   have K0:(wr.alloc (.cells #[.int .i64 x] 3)).drew.cell? ⟨w2.heap.size,2,none⟩=some (.map (some w1.heap.size))∧(wr.alloc (.cells #[.int .i64 x] 3)).drew.cell? ⟨wr.heap.size,0,none⟩=some (.int .i64 x):=by
    constructor
    ·have:(wr.alloc (.cells #[.int .i64 x] 3)).heap[w2.heap.size]? = some (.cells #[.slice h5 a1.length hcap,.slice (some ⟨b,off,none⟩) l.length lcap,.map (some w1.heap.size),.map mo] 118 (0,0)):=by
      rw[heap_alloc_old _ _ (by omega),g5 _ (by omega) (by omega)];exact hb3
     show (wr.alloc (.cells #[.int .i64 x] 3)).cell? _=_;simp[A2,this]
    ·exact cell_of_one (w:=wr.alloc (.cells #[.int .i64 x] 3)) (heap_alloc_new _ _)
   clear hrun hbe
   go_wp2
   go_region_held3 (fun w'=>w'.cell? ⟨w2.heap.size,2,none⟩=some (.map (some w1.heap.size))∧w'.cell? ⟨wr.heap.size,0,none⟩=some (.int .i64 x)) (first | exact K0 | exact K1 | exact K2)
    (first
     | (go_at_call 104;refine Calls.mono hcall ?_;rintro e w5 ⟨v,M5,rfl,hB5,_,_,_,hr5,_⟩;obtain rfl:v=.int .i64 ix:=hr5.int_inv;have m5:w5.heap[w1.heap.size]? = some (.map es clock):=(hB5.block _ (by simp;omega)).trans ((heap_alloc_old wr _ (by omega)).trans hmb);have HU5:=hU w5 w1.heap.size m5;have K1:w5.cell? ⟨w2.heap.size,2,none⟩=some (.map (some w1.heap.size))∧w5.cell? ⟨wr.heap.size,0,none⟩=some (.int .i64 x):=⟨(hB5.cell (by simp;omega)).trans K0.1,(hB5.cell (by simp)).trans K0.2⟩;have K2:(setBlock w5 w1.heap.size (.map es' clock')).cell? ⟨w2.heap.size,2,none⟩=some (.map (some w1.heap.size))∧(setBlock w5 w1.heap.size (.map es' clock')).cell? ⟨wr.heap.size,0,none⟩=some (.int .i64 x):=⟨(F6 (Jx (by simp;omega))).trans K1.1,(F6 (Jx (by simp;omega))).trans K1.2⟩))
   all_goals go_wp2
   all_goals go_roundw
   case rel =>
    refine⟨k+1,hk1,by go_num,⟨_,?_,hbk,es',clock',Qh m5,hE'⟩,hB5.os.trans g1,hB5.tape.trans g2,hB5.output.trans g3,?_,fun j hj hne=>?_⟩
    ·have:=qbg x ix m;omega
    ·have:=hB5.size;simp at this;rw[QV];omega
    ·rw[Jx hne,hB5.block _ (by simp;omega)];exact (heap_alloc_old wr _ (by omega)).trans (g5 j hj hne)
   case measure=>simp[RowKit.intOf];omega
  ·have hkl:k=l.length:=by omega
   subst hkl
   have hbl:m=be:=by
    rw[List.drop_length]at hbk;exact Option.some.inj hbk
   subst hbl;have hbr:wr.heap[w2.heap.size]? = some (.cells #[.slice h5 a1.length hcap,.slice a5 l.length lcap,.map (some w1.heap.size),.map mo] 118 (0,0)):=(g5 _ (by omega) (by omega)).trans hb3;have hzr:wr.heap[w.heap.size]? = some (.cells #[.slice none 0 0,.slice none 0 0,.map none,.map none] 118 (0,0)):=(g5 _ (by omega) (by omega)).trans hz3
   have c0:wr.cell? ⟨w2.heap.size,0,none⟩=some (.slice h5 a1.length hcap):=by simp[A2,hbr]
   have c1:wr.cell? ⟨w2.heap.size,1,none⟩=some (.slice a5 l.length lcap):=by simp[A2,hbr]
   have c2:wr.cell? ⟨w2.heap.size,2,none⟩=some (.map (some w1.heap.size)):=by simp[A2,hbr]
   have c3:wr.cell? ⟨w2.heap.size,3,none⟩=some (.map mo):=by simp[A2,hbr]
   have d0:wr.cell? ⟨w.heap.size,0,none⟩=some (.slice none 0 0):=by simp[A2,hzr]
   have d1:wr.cell? ⟨w.heap.size,1,none⟩=some (.slice none 0 0):=by simp[A2,hzr]
   have d2:wr.cell? ⟨w.heap.size,2,none⟩=some (.map none):=by simp[A2,hzr]
   have d3:wr.cell? ⟨w.heap.size,3,none⟩=some (.map none):=by simp[A2,hzr]
   have f0:wr.frozen? ⟨w.heap.size,0,none⟩=false:=by simp[D1,hzr]
   have f1:wr.frozen? ⟨w.heap.size,1,none⟩=false:=by simp[D1,hzr]
   have f2:wr.frozen? ⟨w.heap.size,2,none⟩=false:=by simp[D1,hzr]
   have f3:wr.frozen? ⟨w.heap.size,3,none⟩=false:=by simp[D1,hzr]
   go_wp2
   obtain⟨w9,ew9⟩:∃ w9,w9=(((wr.setCell ⟨w.heap.size,0,none⟩ (.slice h5 a1.length hcap)).setCell ⟨w.heap.size,1,none⟩ (.slice a5 l.length lcap)).setCell ⟨w.heap.size,2,none⟩ (.map (some w1.heap.size))).setCell ⟨w.heap.size,3,none⟩ (.map mo):=⟨_,rfl⟩
   have hz9:w9.heap[w.heap.size]? = some (.cells #[.slice h5 a1.length hcap,.slice a5 l.length lcap,.map (some w1.heap.size),.map mo] 118 (0,0)):=by
    have st:∀ (w:World) (b j:Nat) (cs:Array Value) (t:TypeId) (u:Value),w.heap[b]? = some (.cells cs t (0,0))→(w.setCell ⟨b,j,none⟩ u).heap[b]? = some (.cells (cs.setIfInBounds j u) t (0,0)):=fun w b j cs t u h=>by
     have hlt:=lt_of_block h
     have h':w.heap[b]=.cells cs t (0,0):=by simpa[F7 hlt] using h
     show (w.heap.modify b _)[b]? = _;rw[F7 (by simpa using hlt),Array.getElem_modify_self,h'];rfl
    rw[ew9,st _ _ _ _ _ _ (st _ _ _ _ _ _ (st _ _ _ _ _ _ (st _ _ _ _ _ _ hzr)))];rfl
   have hb9:∀ j,j≠w.heap.size→w9.heap[j]? = wr.heap[j]?:=fun j hj=>by
    rw[ew9,Below.heap_setCell _ _ _ _ hj,Below.heap_setCell _ _ _ _ hj,Below.heap_setCell _ _ _ _ hj,Below.heap_setCell _ _ _ _ hj]
   have hrest9:w9.os=wr.os∧w9.tape=wr.tape∧w9.output=wr.output∧w9.heap.size=wr.heap.size:=by rw[ew9];exact⟨rfl,rfl,rfl,by simp[World.setCell]⟩
   rw[← ew9];clear ew9
   have hres:∀ tm:Array Value,tm[2]?.getD undef=.pointer (some ⟨w.heap.size,0,none⟩)→(results Try.f77 tm).run Try.prog w9=.ok (.agg #[.slice h5 a1.length hcap,.slice a5 l.length lcap,.map (some w1.heap.size),.map mo]) w9:=by
    intro tm htm
    have hr:Try.f77.results=#[.cell 2 118]:=by kernel_rfl
    have e0:w9.cell? ⟨w.heap.size,0,none⟩=some (.slice h5 a1.length hcap):=by simp[A2,hz9]
    have e1:w9.cell? ⟨w.heap.size,1,none⟩=some (.slice a5 l.length lcap):=by simp[A2,hz9]
    have e2:w9.cell? ⟨w.heap.size,2,none⟩=some (.map (some w1.heap.size)):=by simp[A2,hz9]
    have e3:w9.cell? ⟨w.heap.size,3,none⟩=some (.map mo):=by simp[A2,hz9]
    simp[results,hr,htm];go_simp
   refine bodyPost_ret (hres _ (by rfl)) rfl ?_
   have hlt:w1.heap.size<w9.heap.size:=by
    have:w9.heap[w1.heap.size]? = some (.map es clock):=(hb9 _ (by omega)).trans hmb;exact lt_of_block this
   have C9:Cons M2 w9:=C3.of_blocks fun b o u hu hb=>by
    by_cases e1:b=w1.heap.size
    ·rw[e1,hno]at hu;cases hu
    ·by_cases e2:b=w.heap.size
     ·exfalso;subst e2;rw[o2 _ _ (by simp;omega),o1 _ _ (by omega)]at hu;have:=VE (hC _ _ _ hu);omega
     ·rw[hb9 _ e2,g5 _ hb e1]
   have hm9:w9.heap[w1.heap.size]? = some (.map es clock):=(hb9 _ (by omega)).trans hmb
   have hMsub:Sub M2 (maddM M2 w1.heap.size es clock):=fun b o u hu=>by
    rw[Hr (fun e=>by rw[e,hno]at hu;cases hu)];exact hu
   refine⟨_,maddM M2 w1.heap.size es clock,rfl,?_,Sub.trans s1 (Sub.trans s2 hMsub),qeq C9 hm9,fun b o hb=>?_,?_,trivial⟩
   ·refine B03.trans ⟨?_,?_,?_,?_,fun k hk=>?_⟩
    ·rw[← g1];exact hrest9.1
    ·rw[← g2];exact hrest9.2.1
    ·rw[← g3];exact hrest9.2.2.1
    ·rw[hrest9.2.2.2];exact g4
    ·rw[hb9 _ (by omega),g5 _ (by omega) (by omega)]
   ·rw[Hr (by omega),o2 _ _ (by simp;omega),o1 _ _ (by omega)]
   ·refine .agg (vs:=[.slice h5 a1.length hcap,.slice a5 l.length lcap,.map (some w1.heap.size),.map mo]) rfl (fun j c v hc hv=>?_)
    match j,hc,hv with
    | 0,hc,hv=>cases hc;cases hv;exact rH.mono hMsub
    | 1,hc,hv=>cases hc;cases hv;exact (R.mono (Sub.trans s2 hMsub) r1)
    | 2,hc,hv=>cases hc;cases hv;exact qhI hMsub hE
    | 3,hc,hv=>cases hc;cases hv;exact R.mono hMsub r2
end Go.Proofs
namespace Go.AM
open Go.Proofs
end Go.AM
