import Derived.Test.YtoiejpkfpjingaaEOrd
import Derived.Test.YtoiejpkfpjingaaASimK
import Derived.Test.YtoiejpkfpjingaaChecked
import Derived.Test.YtoiejpkfpjingaaHDT
import Derived.Test.YtoiejpkfpjingaaKAT
import Derived.Test.YtoiejpkfpjingaaRows
import Derived.ProofKit
import Derived.OpenShut
set_option linter.all false
set_option maxRecDepth 100000
open Option renaming bind_some→A0, map_eq_some_iff→C2
open Int renaming toNat→A1
open List renaming mem_of_getElem?→A2, length_map→A4, getElem?_map→A5, map→A6, getElem?_eq_getElem→A7, take_of_length_le→A8, length_append→A9, getD_eq_getElem?_getD→B0, any_cons→B5, mem_append_left→B7, getElem?_take_of_lt→B9, getElem_of_mem→C0, length_singleton→C4, length_filter_le→C7, any_eq_false→C8, eq_nil_of_length_eq_zero→C9, length_erase_of_mem→D0, length_cons→D1, nil_append→D2, length_take→D3, getElem_cons_drop→D5, take_append_drop→D6, pairwise_filter→D7, pairwise_iff_forall_sublist→D8
open Nat renaming le_refl→A3, le_trans→B6
open Bool renaming or_false→C5, true_and→C6, and_eq_true→D4
namespace Go.AM
open Go.Proofs
def at2 (v:List Bool) (a b:Int):Bool:=v.getD (a.toNat * 7+b.toNat) false
theorem qeQ {v:List Bool} (hv:v.length=49) {a b:Int} (ha:0≤a∧a≤6) (hb:0≤b∧b≤6):v[((0+A1 a * 7)+A1 b * 1)]? = some (at2 v a b):=by
 have e:(0+A1 a * 7)+A1 b * 1=a.toNat * 7+b.toNat:=by omega
 rw[e]
 have hl:a.toNat * 7+b.toNat<v.length:=by omega
 unfold at2;rw[B0,A7 hl];rfl
theorem qfk {v:List Bool} (hv:v.length=49) {a b c d:Int} (ha:0≤a∧a≤6) (hb:0≤b∧b≤6) (hc:0≤c∧c≤6) (hd:0≤d∧d≤6):at2 (v.set ((0+A1 c * 7)+A1 d * 1) true) a b=(at2 v a b || ((c == a) && (d == b))):=by
 have e:(0+A1 c * 7)+A1 d * 1=c.toNat * 7+d.toNat:=by omega
 rw[e];unfold at2;rw[B0,B0,List.getElem?_set];by_cases h:c.toNat * 7+d.toNat=a.toNat * 7+b.toNat
 ·have h1:c=a:=by omega
  have h2:d=b:=by omega
  subst h1;subst h2;rw[if_pos rfl,if_pos (by omega)];simp
 ·rw[if_neg h]
  have:((c == a) && (d == b))=false:=by
   rw[Bool.and_eq_false_iff,beq_eq_false_iff_ne,beq_eq_false_iff_ne];by_cases h1:c=a
   ·right;intro h2;subst h1;subst h2;exact h rfl
   ·exact .inl h1
  rw[this,C5]
theorem Hm (x:rf5Op) (a b:Int):∀ pre:List rf5Op,confL (pre++[x]) a b=(confL pre a b || pre.any fun p=>clash p x && ((p.qb == a) && (x.qb == b)))
 | []=>by simp[confL]
 | p::pre=>by
  show ((pre++[x]).any _ || confL (pre++[x]) a b)=((pre.any _ || confL pre a b) || _);rw[Hm x a b pre,List.any_append,B5];simp only[B5,List.any_nil,C5];generalize pre.any (fun y=>clash p y && (p.qb == a && y.qb == b))=A;generalize (clash p x && (p.qb == a && x.qb == b))=B;generalize confL pre a b=C;generalize pre.any (fun p=>clash p x && (p.qb == a && x.qb == b))=D;cases A <;> cases B <;> cases C <;> cases D <;> rfl
theorem qfm (x:rf5Op) (hx:1≤x.qb∧x.qb≤6) (hxk:0≤x.qh∧x.qh≤3) (K:List Bool→Option (List Bool)):∀ (e:List rf5Op) (k:Nat) (v:List Bool),(∀ y,y∈e→(1≤y.qb∧y.qb≤6)∧0≤y.qh∧y.qh≤3)→v.length=49 →
  ∃ v',qD x K e k v=K v'∧v'.length=49∧∀ a b,0≤a∧a≤6→0≤b∧b≤6→at2 v' a b=(at2 v a b || e.any fun p=>clash p x && ((p.qb == a) && (x.qb == b)))
 | [],k,v,_,hv=>⟨v,by rw[qD.eq_1],hv,fun a b _ _=>by simp⟩
 | y::e,k,v,hy,hv=>by
  obtain⟨hb,hk⟩:=hy y (List.mem_cons_self ..)
  have ih:=fun v' h1=>qfm x hx hxk K e (k+1) v' (fun z hz=>hy z (List.mem_cons_of_mem _ hz)) h1
  have e1:qD x K (y::e) k v=jp x y v (jh (qD x K e (k+1))) (clash y x):=by
   rw[qD.eq_2,wr (by omega) (by omega)];unfold clash;have c1:(x.qi == y.qi)=(y.qi == x.qi):=Bool.beq_comm
   have c2:(x.qb != y.qb)=(y.qb != x.qb):=by simp only[bne,Bool.beq_comm]
   rw[c1,c2]
   have hkk:((if x.qh > y.qh then x.qh else y.qh) == 1)=(decide (x.qh<2) && (decide (y.qh<2) && decide (x.qh+y.qh > 0))):=by
    have h1:x.qh=0∨x.qh=1∨x.qh=2∨x.qh=3:=by omega
    have h2:y.qh=0∨y.qh=1∨y.qh=2∨y.qh=3:=by omega
    rcases h1 with h1 | h1 | h1 | h1 <;> rcases h2 with h2 | h2 | h2 | h2 <;> rw[h1,h2] <;> rfl
   rw[hkk];cases decide (x.qh<2) <;> cases decide (y.qh<2) <;> cases decide (x.qh+y.qh > 0) <;> cases (y.qi == x.qi) <;> cases (y.qb != x.qb) <;> rfl
  rw[e1];unfold jp jh
  cases hc:clash y x with
  | false =>
   simp only[cN];obtain⟨v',h1,h2,h3⟩:=ih v hv;refine⟨v',h1,h2,fun a b ha hb'=>?_⟩;rw[h3 a b ha hb',B5,hc];simp
  | true =>
   simp only[cond_true];rw[dT (by omega),dT (by omega),dT (by rw[hv];omega)];simp only[qx];obtain⟨v',h1,h2,h3⟩:=ih _ (by rw[List.length_set];exact hv:(v.set ((0+A1 y.qb * 7)+A1 x.qb * 1) true).length=49);refine⟨v',h1,h2,fun a b ha hb'=>?_⟩;rw[h3 a b ha hb',B5,hc,C6,qfk hv ha hb' (by omega) (by omega),Bool.or_assoc]
theorem qfn {w:List rf5Op} (hh:w.length≤1000) (ht:∀ y,y∈w→(1≤y.qb∧y.qb≤6)∧0≤y.qh∧y.qh≤3) (K:List Bool→Option (List Bool)):∀ (r:List rf5Op) (k:Nat) (v:List Bool) (pre:List rf5Op),w=pre++r→pre.length=k→v.length=49→(∀ a b,0≤a∧a≤6→0≤b∧b≤6→at2 v a b=confL pre a b) →
  ∃ v',qG w K r k v=K v'∧v'.length=49∧∀ a b,0≤a∧a≤6→0≤b∧b≤6→at2 v' a b=confL w a b
 | [],k,v,pre,he,hk,hv,hc=>⟨v,by rw[qG.eq_1],hv,fun a b ha hb=>by rw[hc a b ha hb,he,List.append_nil]⟩
 | x::r,k,v,pre,he,hk,hv,hc=>by
  have hlen:pre.length+(r.length+1)≤1000:=by rw[he]at hh;simpa using hh
  have hs:sub w 0 (k:Int)=some pre:=by rw[he,← hk];exact Nn pre _
  rw[qG.eq_2,hs,A0,jt (by omega),qx];obtain⟨tx,kx⟩:=ht x (by rw[he];simp);obtain⟨v1,h1,h2,h3⟩:=qfm x tx kx (jw (qG w K r (k+1))) pre 0 v (fun y hy=>ht y (by rw[he];simp[hy])) hv;obtain⟨v2,g1,g2,g3⟩:=qfn hh ht K r (k+1) v1 (pre++[x]) (by rw[he];simp) (by simp[hk]) h2 (fun a b ha hb=>by rw[h3 a b ha hb,hc a b ha hb,Hm]);exact⟨v2,by rw[h1];exact g1,g2,g3⟩
theorem qdt {h:List rf5Op} (H:Hist h):∃ v,QI h=some v∧v.length=49∧∀ a b,0≤a∧a≤6→0≤b∧b≤6→at2 v a b=confL (partL h) a b:=by
 have hl:=H.len;have hp:(partL h).length≤1000:=B6 (C7 _ _) hl;unfold QI;rw[qdl H,A0,jt (by omega),qx]
 have h0:∀ a b,0≤a∧a≤6→0≤b∧b≤6→at2 (List.replicate 49 false) a b=confL [] a b:=fun a b ha hb=>by
  unfold at2;rw[B0,List.getElem?_replicate];split <;> rfl
 obtain⟨v,h1,h2,h3⟩:=qfn hp (fun y hy=>⟨H.txn y (List.mem_filter.1 hy).1,H.kind y (List.mem_filter.1 hy).1⟩) qN (partL h) 0 _ [] rfl rfl (by simp) h0;refine⟨v,?_,h2,h3⟩;rw[h1];unfold qN;rw[h2];simp[chk]
theorem VS {p:Int→Bool}:∀ (l:List Int),(l.findIdx? p=none∧l.find? p=none)∨∃ k b,l.findIdx? p=some k∧l.find? p=some b∧l[k]? = some b∧(l.Nodup→l.take k++l.drop (k+1)=l.erase b)
 | []=>.inl ⟨rfl,rfl⟩
 | a::l=>by
  rw[List.findIdx?_cons,List.find?_cons]
  cases hp:p a with
  | true=>exact .inr ⟨0,a,rfl,rfl,rfl,fun _=>by simp⟩
  | false =>
   rcases VS (p:=p) l with ⟨h1,h2⟩ | ⟨k,b,h1,h2,h3,h4⟩
   ·exact .inl ⟨by rw[h1];rfl,h2⟩
   ·refine .inr ⟨k+1,b,by rw[h1];rfl,h2,by simpa using h3,fun hn=>?_⟩
    have hb:b≠a:=fun e=>by
     have:=List.find?_some h2;rw[e,hp]at this;cases this
    rw[List.erase_cons_tail (by simpa using fun e=>hb e.symm)];simp only[List.take_succ_cons,List.drop_succ_cons,List.cons_append];rw[h4 (List.nodup_cons.1 hn).2]
theorem VP {g:Int→Option Bool} {p:Int→Bool}:∀ (l:List Int) (k:Nat),(∀ x,x∈l→g x=some (p x))→jm g Jt l k=some (match l.findIdx? p with | some j=>((k+j:Nat):Int) | none => -1)
 | [],k,_=>by rw[jm.eq_1];rfl
 | x::l,k,h=>by
  rw[jm.eq_2,h x (by simp),A0,List.findIdx?_cons,VP l (k+1) fun y hy=>h y (by simp[hy])]
  cases p x with
  | true=>simp
  | false =>
   simp only[cN,Bool.false_eq_true,if_false]
   cases l.findIdx? p with
   | none=>rfl
   | some j =>
    show some (((k+1+j:Nat)):Int)=some (((k+(j+1):Nat)):Int)
    congr 1;omega
theorem Vf {l:List Int} (hl:l.length≤100000) {g:Int→Option Bool} {p:Int→Bool} (h:∀ x,x∈l→g x=some (p x)):JC l g=some (match l.findIdx? p with | some j=>(j:Int) | none => -1):=by
 unfold JC;rw[jt (by omega),qx,VP l 0 h];cases l.findIdx? p <;> simp
theorem Uz {l:List Int} (hl:l.length≤100000) {g:Int→Option Bool} {p:Int→Bool} (h:∀ x,x∈l→g x=some (p x)):Ju l g=some (l.any p):=by
 unfold Ju;rw[Vf hl h,A0]
 congr 1
 cases hf:l.findIdx? p with
 | none =>
  rw[List.findIdx?_eq_none_iff]at hf
  have:l.any p=false:=by rw[C8];intro x hx;simp[hf x hx]
  rw[this];rfl
 | some j =>
  have:l.any p=true:=by
   rw[List.any_eq_true];obtain⟨hj,h1,_⟩:=List.findIdx?_eq_some_iff_getElem.1 hf;exact⟨_,List.getElem_mem hj,h1⟩
  rw[this];simp
theorem qeg {es:List (ql×Bool)} {l:List Int} (hl:l.length≤100000) (hw:∀ x,x∈l→wfI .i64 x=true) (b:Int) (hb:wfI .i64 b=true):Jo b l es=some (srcB (edgeB es) l b):=by
 unfold Jo;rw[Uz (p:=fun a=>edgeB es a b) hl fun x hx=>?_]
 ·rfl
 ·unfold Jv;rw[hw x hx,hb];rfl
theorem Dg {es:List (ql×Bool)} (K:List Int→Option (List Int×Bool)):∀ (n m:Nat) (v out left:List Int),left.length=n→snap 0 n v=left→left.Nodup→(∀ x,x∈left→wfI .i64 x=true)→n<m→out.length+n≤1000 →
  jc es K m v n out=match topo (edgeB es) n left with | none=>some ([],false) | some o=>K (out++o)
 | 0,m,v,out,left,hl,hs,_,_,hm,_=>by
  obtain⟨m,rfl⟩:∃ m',m=m'+1:=⟨m - 1,by omega⟩;have:left=[]:=C9 hl;subst this;rw[jc.eq_2,decide_eq_false (by omega)];simp[topo]
 | n+1,m,v,out,left,hl,hs,hn,hw,hm,ho=>by
  obtain⟨m,rfl⟩:∃ m',m=m'+1:=⟨m - 1,by omega⟩;rw[jc.eq_2,dT (by omega),cond_true,hs];rw[Vf (p:=srcB (edgeB es) left) (by omega) fun x hx=>qeg (by omega) hw x (hw x hx),A0]
  have ht:topo (edgeB es) (n+1) left=match left.find? (srcB (edgeB es) left) with | none=>none | some b=>(topo (edgeB es) n (left.erase b)).map (b::·):=by
   cases left with
   | nil=>simp at hl
   | cons x r=>rfl
  rw[ht]
  rcases VS (p:=srcB (edgeB es) left) left with ⟨h1,h2⟩ | ⟨k,b,h1,h2,h3,h4⟩
  ·rw[h1,h2];rfl
  ·rw[h1,h2];simp only;have hk:=(List.getElem?_eq_some_iff.1 h3).1;have hb:b∈left:=A2 h3
   have hvk:v[0+A1 (k:Int)]? = some b:=by
    have:=congrArg (fun l=>l[k]?) hs;unfold snap at this;simp only[List.drop_zero,List.getElem?_take]at this;rw[if_pos (by omega)]at this;rw[Nat.zero_add,Int.toNat_natCast,this];exact h3
   rw[decide_eq_false (by omega),cN,dT (by omega),qx,hvk,A0,capS (by omega) (by simp;omega),qx,wr (by omega) (by omega)];unfold Xu;rw[dT ⟨rfl,by omega,by omega,by omega,rfl⟩,qx,A0,Int.toNat_natCast];simp only
   have hle:(left.erase b).length=n:=by rw[D0 hb];omega
   have he:left.length - 1=n:=by omega
   rw[he,Dg K n m _ (out++[b]) (left.erase b) hle ?_ (hn.erase b) (fun x hx=>hw x (List.mem_of_mem_erase hx)) (by omega) (by simp;omega)]
   ·cases topo (edgeB es) n (left.erase b) with
    | none=>rfl
    | some o=>simp
   ·unfold snap;rw[List.drop_zero,h4 hn]
    have:(left.erase b++[0]).take n=(left.erase b).take n:=by rw[List.take_append_of_le_length (by omega)]
    rw[this,A8 (by omega)]
theorem qcc {es:List (ql×Bool)} {l:List Int} (hl:l.length≤500) (hn:l.Nodup) (hw:∀ x,x∈l→wfI .i64 x=true):Qn bigFuel es l=some (match topo (edgeB es) l.length l with | none=>([],false) | some o=>(o,true)):=by
 unfold Qn QD;rw[capS (by omega) (by omega),qx,A0,Dg _ l.length bigFuel l [] l rfl (by unfold snap;simp) hn hw (by unfold bigFuel;omega) (by simp;omega)];cases topo (edgeB es) l.length l <;> rfl
theorem US {α β:Type} {f:α→List β} {m:Nat}:∀ {l:List α},(∀ x,x∈l→(f x).length≤m)→(l.flatMap f).length≤l.length * m
 | [],_=>by simp
 | a::l,h=>by
  rw[List.flatMap_cons,A9,D1,Nat.add_mul,Nat.one_mul]
  have:=US (l:=l) fun x hx=>h x (by simp[hx])
  have:=h a (by simp);omega
def facN:Nat→Nat
 | 0=>1
 | n+1=>(n+1) * facN n
theorem YB:∀ (n:Nat) (l:List Int),l.length≤n→(permsF n l).length≤facN l.length∧∀ p,p∈permsF n l→p.length=l.length
 | n,[],_=>by
  have:permsF n []=[[]]:=by cases n <;> rfl
  rw[this];exact⟨A3 _,fun p hp=>by rw[List.mem_singleton.1 hp]⟩
 | 0,x::l,h=>by simp at h
 | n+1,x::l,h=>by
  have e:permsF (n+1) (x::l)=(x::l).flatMap fun y=>(permsF n ((x::l).erase y)).map (y::·):=rfl
  have hy:∀ y,y∈x::l→((x::l).erase y).length=l.length:=fun y hy=>by rw[D0 hy];rfl
  have hl:l.length≤n:=by simpa using h
  refine⟨?_,fun p hp=>?_⟩
  ·rw[e];refine B6 (US (m:=facN l.length) fun y hm=>?_) (A3 _);rw[A4];have:=(YB n ((x::l).erase y) (by rw[hy y hm];exact hl)).1;rw[hy y hm]at this;exact this
  ·rw[e,List.mem_flatMap]at hp;obtain⟨y,hm,hp⟩:=hp;obtain⟨q,hq,rfl⟩:=List.mem_map.1 hp;have:=(YB n ((x::l).erase y) (by rw[hy y hm];exact hl)).2 q hq;rw[hy y hm]at this;simp[this]
theorem qeF {n:Nat} (h:n≤6):facN n≤720:=by
 have:n=0∨n=1∨n=2∨n=3∨n=4∨n=5∨n=6:=by omega
 rcases this with rfl | rfl | rfl | rfl | rfl | rfl | rfl <;> decide
theorem qbp (x:Int) (K:List (List Int)→Option (List (List Int))):∀ (ps:List (List Int)) (k:Nat) (v:List (List Int)),(∀ p,p∈ps→p.length≤100)→v.length+ps.length≤90000→Jg x K ps k v=K (v++ps.map (x::·))
 | [],k,v,_,_=>by rw[Jg.eq_1];simp
 | p::ps,k,v,hp,hl=>by
  have hl:v.length+(ps.length+1)≤90000:=hl;have:=hp p (by simp);rw[Jg.eq_2,capS (by omega) (by simp;omega),qx,capS (by omega) (by simp;omega),qx,qbp x K ps (k+1) _ (fun q hq=>hp q (by simp[hq])) (by simp;omega)];simp
theorem qef {pre r:List Int} {x:Int} (hn:(pre++x::r).Nodup):pre++r=(pre++x::r).erase x:=by
 rw[List.erase_append_right]
 ·simp
 ·intro h;have:=List.nodup_append.1 hn;exact this.2.2 x h x (by simp) rfl
theorem qbq {a:List Int} (hn:a.Nodup) (h6:a.length≤6) (P0:List Int→List (List Int)) (K0:List Int→Option (List (List Int))) (hK:∀ x,x∈a→K0 (a.erase x)=some (P0 (a.erase x))∧(P0 (a.erase x)).length≤10000∧∀ p,p∈P0 (a.erase x)→p.length≤50) (K:List (List Int)→Option (List (List Int))) :
  ∀ (r:List Int) (k:Nat) (v:List (List Int)) (pre:List Int),a=pre++r→pre.length=k→v.length≤k * 10000→jo a K0 K r k v=K (v++r.flatMap fun y=>(P0 (a.erase y)).map (y::·))
 | [],k,v,pre,_,_,_=>by rw[jo.eq_1];simp
 | x::r,k,v,pre,he,hk,hv=>by
  have hlen:pre.length+(r.length+1)≤6:=by rw[he]at h6;simpa using h6
  have h1:sub a 0 (k:Int)=some pre:=by rw[he,← hk];exact Nn pre _
  have h2:sub a ((k+1:Nat):Int) (a.length:Int)=some r:=by
   have:=qcP (pre++[x]) r
   have e:(pre++[x])++r=a:=by rw[he];simp
   rw[e]at this
   simpa[hk] using this
  obtain⟨k1,k2,k3⟩:=hK x (by rw[he];simp)
  have h3:([]:List Int)++pre++r=a.erase x:=by rw[he,D2];exact qef (he ▸ hn)
  rw[jo.eq_2,h1,A0,capS (by omega) (by simp;omega),qx,h2,A0,capS (by omega) (by simp;omega),qx,h3,k1,A0,jt (by omega),qx];rw[qbp x _ _ 0 v (fun p hp=>by have:=k3 p hp;omega) (by omega)];unfold JX;rw[qbq hn h6 P0 K0 hK K r (k+1) _ (pre++[x]) (by rw[he];simp) (by simp[hk]) (by simp;omega)];simp
theorem Do:∀ (n:Nat) (l:List Int),l.Nodup→l.length≤n→l.length≤6→Jb (n+1) l=some (permsF n l)
 | n,[],_,_,_=>by
  have:permsF n []=[[]]:=by cases n <;> rfl
  rw[Jb.eq_2,this];rfl
 | 0,x::l,_,h,_=>by simp at h
 | n+1,x::l,hn,hl,h6=>by
  have e:permsF (n+1) (x::l)=(x::l).flatMap fun y=>(permsF n ((x::l).erase y)).map (y::·):=rfl
  have hy:∀ y,y∈x::l→((x::l).erase y).length=l.length:=fun y hy=>by rw[D0 hy];rfl
  have hl:l.length≤n:=by simpa using hl
  have h6':l.length≤5:=by simpa using h6
  have hz:(((x::l).length:Int) == 0)=false:=by rw[beq_eq_false_iff_ne];simp;omega
  rw[Jb.eq_2,hz,cN,jt (by omega),qx,qbq hn h6 (permsF n) (Jb (n+1)) (fun y hm=>?_) _ (x::l) 0 [] [] rfl rfl (by simp),e]
  ·rfl
  ·have hlen:=YB n ((x::l).erase y) (by rw[hy y hm];exact hl);rw[hy y hm]at hlen;refine⟨Do n _ (hn.erase y) (by rw[hy y hm];exact hl) (by rw[hy y hm];omega),?_,fun p hp=>by rw[hlen.2 p hp];omega⟩;have:=qeF (n:=l.length) (by omega);omega
def chkFrom (E:Int→Int→Bool) (pre:List Int):List Int→Bool
 | []=>true
 | x::r=>(pre.all fun a=>!E x a) && chkFrom E (pre++[x]) r
theorem Hn {E:Int→Int→Bool}:∀ (r pre:List Int),agreesB E (pre++r)=(agreesB E pre && chkFrom E pre r)
 | [],pre=>by simp[chkFrom]
 | x::r,pre=>by
  have h1:agreesB E (pre++[x])=(agreesB E pre && pre.all fun a=>!E x a):=by
   induction pre with
   | nil=>simp[agreesB]
   | cons a p ih =>
    show ((p++[x]).all (fun c=>!E c a) && agreesB E (p++[x]))=((p.all (fun c=>!E c a) && agreesB E p) && (!E x a && p.all fun a=>!E x a));rw[ih,List.all_append];simp only[List.all_cons,List.all_nil,Bool.and_true];generalize p.all (fun c=>!E c a)=A;generalize E x a=B;generalize agreesB E p=C;generalize p.all (fun a=>!E x a)=D;cases A <;> cases B <;> cases C <;> cases D <;> rfl
  have:=Hn (E:=E) r (pre++[x]);rw[List.append_assoc]at this;show agreesB E (pre++([x]++r))=(agreesB E pre && ((pre.all fun a=>!E x a) && chkFrom E (pre++[x]) r));rw[this,h1,Bool.and_assoc]
theorem DX {w:List Bool} (hw:w.length=49) (x:Int) (hx:0≤x∧x≤6) (K:Option Bool):∀ (e:List Int) (k:Nat),(∀ y,y∈e→0≤y∧y≤6)→Jy x w K e k=bif e.all (fun a=>!at2 w x a) then K else some false
 | [],k,_=>by rw[Jy.eq_1];rfl
 | y::e,k,hy=>by
  have hb:=hy y (by simp);rw[Jy.eq_2,dT (by omega),qx,dT (by omega),qx,qeQ hw hx hb,A0,DX hw x hx K e (k+1) fun z hz=>hy z (by simp[hz]),List.all_cons];cases at2 w x y <;> rfl
theorem DY {w:List Bool} (hw:w.length=49) {p:List Int} (hl:p.length≤100) (hp:∀ y,y∈p→0≤y∧y≤6) (K:Option Bool):∀ (r:List Int) (k:Nat) (pre:List Int),p=pre++r→pre.length=k→jO p w K r k=bif chkFrom (at2 w) pre r then K else some false
 | [],k,pre,_,_=>by rw[jO.eq_1];rfl
 | x::r,k,pre,he,hk=>by
  have hlen:pre.length+(r.length+1)≤100:=by rw[he]at hl;simpa using hl
  have h1:sub p 0 (k:Int)=some pre:=by rw[he,← hk];exact Nn pre _
  rw[jO.eq_2,h1,A0,jt (by omega),qx,DX hw x (hp x (by rw[he];simp)) _ pre 0 fun y hy=>hp y (by rw[he];simp[hy])];unfold QK;rw[DY hw hl hp K r (k+1) (pre++[x]) (by rw[he];simp) (by simp[hk])];show _=bif ((pre.all fun a=>!at2 w x a) && chkFrom (at2 w) (pre++[x]) r) then K else some false;cases pre.all (fun a=>!at2 w x a) <;> rfl
theorem qbj {w:List Bool} (hw:w.length=49) {p:List Int} (hl:p.length≤100) (hp:∀ y,y∈p→0≤y∧y≤6):Yc p w=some (agreesB (at2 w) p):=by
 unfold Yc
 have hne:(!w.isEmpty)=true:=by cases w with | nil=>simp at hw | cons=>rfl
 rw[hne,qx,jt (by omega),qx,DY hw hl hp _ p 0 [] rfl rfl];have:=Hn (E:=at2 w) p [];rw[D2]at this;rw[this];show _=some (true && chkFrom (at2 w) [] p);rw[C6];cases chkFrom (at2 w) [] p <;> rfl
theorem Ue {E F:Int→Int→Bool}:∀ {p:List Int},(∀ a b,a∈p→b∈p→E a b=F a b)→agreesB E p=agreesB F p
 | [],_=>rfl
 | b::r,h=>by
  show ((r.all fun c=>!E c b) && agreesB E r)=((r.all fun c=>!F c b) && agreesB F r);rw[Ue (p:=r) fun x y hx hy=>h x y (by simp[hx]) (by simp[hy])]
  congr 1
  rw[Bool.eq_iff_iff,List.all_eq_true,List.all_eq_true];exact⟨fun g c hc=>by rw[← h c b (by simp[hc]) (by simp)];exact g c hc,fun g c hc=>by rw[h c b (by simp[hc]) (by simp)];exact g c hc⟩
theorem DP (a:Int):∀ l:List rf5Op,confL l a a=false
  | []=>rfl
  | x::r=>by
    show (r.any _ || confL r a a)=false;rw[DP a r,C5,C8];intro y hy;unfold clash;by_cases h1:x.qb=a
    · by_cases h2:y.qb=a
      · simp[h1,h2]
      · simp[h2]
    · simp[h1]
def orderR (h:List rf5Op):List Int×Int:=if validB h then (match topo (confL (partL h)) (commL h).length (commL h) with | some o=>(o,0) | none=>([],8)) else ([],2)
theorem qfj {h:List rf5Op}:∀ x,x∈commL h→wfI .i64 x=true:=fun x hx=>wf6 (by have:=(YG.1 hx).1;omega) (by have:=(YG.1 hx).1;omega)
theorem Dp {h:List rf5Op} (H:Hist h):(partL h).length≤1000∧∀ x,x∈partL h→1≤x.qb∧x.qb≤6 :=
  ⟨B6 (C7 _ _) H.len,fun x hx=>H.txn x (List.mem_filter.1 hx).1⟩
theorem qdz (h:List rf5Op):XF bigFuel ((h.take 43).map cv)=some (orderR h):=by
  unfold XF orderR;rw[YK,A0]
  cases hv:validB h with
  | false=>rfl
  | true =>
    obtain⟨H,hlen⟩:=Yo hv;have:h.take 43=h:=A8 (by omega);obtain⟨es,h1,h2⟩:=qdx (Dp H).1 (Dp H).2
    have hE:edgeB es=confL (partL h):=funext fun a=>funext fun b=>h2 a b
    rw[this,Bool.not_true,cN,qdv H,A0,h1,A0,Yu H,A0,qcc (by have:=UA h;omega) (QC h) qfj,hE,A0];simp only[if_true];cases topo (confL (partL h)) (commL h).length (commL h) <;> rfl
theorem qaR (s:LS) (o:hsOp) (i:Nat):(takeL s o).ex i=if o.qh=1∧i=o.qi.toNat then o.qb else s.ex i:=by
 unfold takeL;by_cases h:o.qh=1
 ·rw[if_pos h];simp[h]
 ·rw[if_neg h];simp[h]
theorem qaQ (s:LS) (o:hsOp) (i:Nat) (x:Int):(takeL s o).sh i x=if o.qh≠1∧i=o.qi.toNat∧x=o.qb then true else s.sh i x:=by
 unfold takeL;by_cases h:o.qh=1
 ·rw[if_pos h];simp[h]
 ·rw[if_neg h];simp[h]
theorem Good.pre {p q:List hsOp} (h:Good (p++q)):Good p:=fun a o b e=>h a o (b++q) (by rw[e];simp)
theorem qcX:∀ (n:Nat) (p:List hsOp),p.length=n→Good p→(∀ o,o∈p→OkOp o)→∀ x,x∈p→x.qh≤1 →
  (∃ e,e∈p∧e.qb=x.qb∧1<e.qh)∨((x.qh=1→(lkS p).ex x.qi.toNat=x.qb)∧(x.qh≠1→(lkS p).sh x.qi.toNat x.qb=true))
 | 0,p,hl,_,_,x,hx,_=>by
  rw[C9 hl]at hx;cases hx
 | n+1,p,hl,hg,ho,x,hx,hk=>by
  rcases List.eq_nil_or_concat p with rfl | ⟨p,o,rfl⟩
  ·cases hx
  rw[List.concat_eq_append]at *;rw[Zv];have hoo:=ho o (by simp);have hgo:=hg p o [] rfl
  rcases List.mem_append.1 hx with h | h
  ·have hxo:=ho x hx
   rcases qcX n p (by simp at hl;exact hl) hg.pre (fun y hy=>ho y (B7 _ hy)) x h hk with ⟨e,e1,e2⟩ | ⟨h1,h2⟩
   ·exact .inl ⟨e,B7 _ e1,e2⟩
   ·by_cases hok:o.qh≤1
    ·right;rw[if_pos hok];refine⟨fun h3=>?_,fun h3=>?_⟩
     ·rw[qaR];split
      ·rename_i h4;have h5:=h1 h3;have h6:=hgo hok x.qb;unfold hindP at h6;rw[← h4.2,h5]at h6;by_cases e:x.qb=o.qb
       ·exact e.symm
       ·exact absurd (.inl ⟨rfl,by have:=hxo.1;omega,e⟩) h6
      ·exact h1 h3
     ·rw[qaQ];split
      ·rfl
      ·exact h2 h3
    ·rw[if_neg hok];by_cases e:x.qb=o.qb
     ·exact .inl ⟨o,by simp,e.symm,by omega⟩
     ·right;refine⟨fun h3=>?_,fun h3=>?_⟩
      ·show (if (lkS p).ex x.qi.toNat=o.qb then 0 else (lkS p).ex x.qi.toNat)=_;rw[h1 h3,if_neg e]
      ·show (if x.qb=o.qb then false else (lkS p).sh x.qi.toNat x.qb)=true;rw[if_neg e];exact h2 h3
  ·rw[List.mem_singleton.1 h]at hk ⊢;right;rw[if_pos hk];refine⟨fun h3=>?_,fun h3=>?_⟩
   ·rw[qaR,if_pos ⟨h3,rfl⟩]
   ·rw[qaQ,if_pos ⟨h3,rfl,rfl⟩]
theorem qbz {l:List hsOp} (hg:Good l) (ho:∀ o,o∈l→OkOp o) {i j:Nat} {x y:hsOp} (hx:l[i]? = some x) (hy:l[j]? = some y) (hij:i<j) (hyk:y.qh≤1) (hxk:x.qh≤1) (hne:x.qb≠y.qb) (hit:x.qi=y.qi) (hw:x.qh=1∨y.qh=1):∃ (e:Nat) (z:hsOp),e<j∧l[e]? = some z∧z.qb=x.qb∧1<z.qh:=by
 have hjl:=(List.getElem?_eq_some_iff.1 hy).1
 have hsplit:l=l.take j++y::l.drop (j+1):=by
  have h1:=D5 hjl;rw[(List.getElem?_eq_some_iff.1 hy).2]at h1;rw[h1,D6]
 have hxm:x∈l.take j:=by
  have:(l.take j)[i]? = some x:=by rw[B9 hij];exact hx
  exact A2 this
 have hg':=hg;rw[hsplit]at hg';have hxo:=ho x (A2 hx)
 rcases qcX _ _ rfl hg'.pre (fun o h=>ho o (List.mem_of_mem_take h)) x hxm hxk with ⟨e,e1,e2,e3⟩ | ⟨h1,h2⟩
 ·obtain⟨k,hk,he⟩:=C0 e1
  have hk2:k<j:=by rw[D3]at hk;omega
  refine⟨k,e,hk2,?_,e2,e3⟩
  have:(l.take j)[k]? = some e:=by rw[A7 hk,he]
  rwa [B9 hk2]at this
 ·exfalso;have h3:=hg (l.take j) y (l.drop (j+1)) hsplit hyk x.qb;unfold hindP at h3;rw[← hit]at h3;by_cases hx1:x.qh=1
  ·exact h3 (.inl ⟨h1 hx1,by have:=hxo.1;omega,hne⟩)
  ·exact h3 (.inr ⟨hw.resolve_left hx1,hne,h2 hx1⟩)
theorem VH.idx {l:List hsOp} (h:VH l) {i j:Nat} {x y:hsOp} (hx:l[i]? = some x) (hy:l[j]? = some y) (hij:i<j) (ht:x.qb=y.qb):x.qh≤1:=by
 have hjl:=(List.getElem?_eq_some_iff.1 hy).1
 have hsplit:l=l.take j++y::l.drop (j+1):=by
  have h1:=D5 hjl;rw[(List.getElem?_eq_some_iff.1 hy).2]at h1;rw[h1,D6]
 have hxm:x∈l.take j:=by
  have:(l.take j)[i]? = some x:=by rw[B9 hij];exact hx
  exact A2 this
 exact (h _ _ _ hsplit).2.2 x hxm ht
theorem VH.end_one {l:List hsOp} (h:VH l) {i j:Nat} {x y:hsOp} (hx:l[i]? = some x) (hy:l[j]? = some y) (ht:x.qb=y.qb) (h1:1<x.qh) (h2:1<y.qh):i=j:=by
 rcases Nat.lt_trichotomy i j with h3 | h3 | h3
 ·have:=h.idx hx hy h3 ht;omega
 ·exact h3
 ·have:=h.idx hy hx h3 ht.symm;omega
theorem Vw (t k:Int):∀ (r:List rf5Op) (j:Nat),endL t k r j = -1∨∃ i:Nat,endL t k r j=(i:Int)
 | [],j=>.inl rfl
 | x::r,j=>by
  unfold endL
  cases (x.qb == t) && (x.qh == k) with
  | true=>exact .inr ⟨j,rfl⟩
  | false=>exact Vw t k r (j+1)
theorem Hj {t k:Int}:∀ (r:List rf5Op) (j i:Nat) (x:rf5Op),r[i]? = some x→x.qb=t→x.qh=k→0≤endL t k r j
 | [],j,i,x,h,_,_=>by simp at h
 | y::r,j,0,x,h,ht,hk=>by
  simp at h;subst h;unfold endL;rw[ht,hk];simp
 | y::r,j,i+1,x,h,ht,hk=>by
  unfold endL
  cases (y.qb == t) && (y.qh == k) with
  | true=>show (0:Int)≤(j:Int);omega
  | false=>exact Hj r (j+1) i x (by simpa using h) ht hk
theorem qbt {l:List hsOp} (hv:VH l) {e i:Nat} {z:hsOp} (hz:l[e]? = some z) (hk:1<z.qh) (hk3:z.qh≤3) (he:e<i):0≤overL (l.map uv) z.qb∧overL (l.map uv) z.qb<(i:Int):=by
 have hzu:(l.map uv)[e]? = some (uv z):=by rw[A5,hz];rfl
 have hb:∀ k,1<k→endL z.qb k (l.map uv) 0 = -1∨endL z.qb k (l.map uv) 0=(e:Int):=by
  intro k hk1
  rcases Vw z.qb k (l.map uv) 0 with h | ⟨j,h⟩
  ·exact .inl h
  ·right;obtain⟨y,h1,_,h3,h4⟩:=Hk _ _ _ 0 j h;rw[Nat.sub_zero,A5,C2]at h1;obtain⟨y',h5,rfl⟩:=h1;have h3:y'.qh=k:=h3;have h4:y'.qb=z.qb:=h4;have:=hv.end_one h5 hz h4 (by omega) hk;rw[h,this]
 have h2:=hb 2 (by omega);have h3:=hb 3 (by omega);have hpos:0≤endL z.qb z.qh (l.map uv) 0:=Hj (l.map uv) 0 e (uv z) hzu rfl rfl
 have hkk:z.qh=2∨z.qh=3:=by omega
 unfold overL
 rcases hkk with e1 | e1 <;> rw[e1]at hpos <;> split <;> omega
theorem qeq {h:List rf5Op}:∀ (r:List rf5Op) (k:Nat),(∀ j x,r[j]? = some x→x.qh≤1→(h.take (k+j)).any (badP h (k+j) x)=false)→okC h r k=true
 | [],_,_=>rfl
 | x::r,k,hh=>by
  unfold okC
  rw[qeq r (k+1) fun j y hy hk=>by
   have:=hh (j+1) y (by simpa using hy) hk
   rwa [show k+(j+1)=k+1+j by omega]at this]
  by_cases hk:x.qh > 1
  ·rw[dT hk];rfl
  ·have:=hh 0 x rfl (by omega);rw[Nat.add_zero]at this;rw[this];simp
theorem qbG {l:List hsOp} (hg:Good l) (hv:VH l) (ho:∀ o,o∈l→OkOp o):okC (l.map uv) (l.map uv) 0=true:=by
 refine qeq _ 0 fun j x hx hk=>?_
 rw[Nat.zero_add,C8];intro p hp;obtain⟨i,hi,hpi⟩:=C0 hp
 have hij:i<j:=by rw[D3]at hi;omega
 have hpi2:(l.map uv)[i]? = some p:=by
  have:((l.map uv).take j)[i]? = some p:=by rw[A7 hi,hpi]
  rwa [B9 hij]at this
 rw[A5,C2]at hx hpi2;obtain⟨y,hy,rfl⟩:=hx;obtain⟨q,hq,rfl⟩:=hpi2;unfold badP;simp only[D4,beq_iff_eq,bne_iff_ne,ne_eq,Bool.or_eq_true,decide_eq_true_eq,not_and];intro h1 h2 h3;obtain⟨e,z,he,hz,hzt,hzk⟩:=qbz hg ho hq hy hij hk (by have h1:q.qh=1:=h1;omega) h3 h2 (.inl h1);have:=qbt hv hz hzk (ho z (A2 hz)).2.2.2.1 he;rw[hzt]at this;have e1:overL (l.map uv) (uv q).qb=overL (l.map uv) q.qb:=rfl;rw[e1];omega
def commits (l:List hsOp):List Int:=(l.filter fun o=>o.qh == 2).map hsOp.qb
theorem VA {α:Type} {x y:α}:∀ {l:List α},[x,y].Sublist l→∃ i j:Nat,i<j∧l[i]? = some x∧l[j]? = some y
 | [],h=>by cases h
 | z::l,h=>by
  cases h with
  | cons _ h =>
   obtain⟨i,j,h1,h2,h3⟩:=VA h;exact⟨i+1,j+1,by omega,by simpa using h2,by simpa using h3⟩
  | cons_cons _ h =>
   have hm:y∈l:=h.subset (.head _);obtain⟨j,hj,e⟩:=C0 hm;exact⟨0,j+1,by omega,rfl,by simp[A7 hj,e]⟩
theorem DQ {a b:Int}:∀ {l:List rf5Op},confL l a b=true→∃ x y,[x,y].Sublist l∧clash x y=true∧x.qb=a∧y.qb=b
 | [],h=>by cases h
 | x::r,h=>by
  unfold confL at h;rw[Bool.or_eq_true,List.any_eq_true]at h
  rcases h with ⟨y,hy,h⟩ | h
  ·simp only[D4,beq_iff_eq]at h;exact⟨x,y,List.Sublist.cons_cons _ (List.singleton_sublist.2 hy),h.1,h.2.1,h.2.2⟩
  ·obtain⟨x',y',h1,h2⟩:=DQ h;exact⟨x',y',h1.cons _,h2⟩
theorem qdK {l:List hsOp} (hg:Good l) (hv:VH l) (ho:∀ o,o∈l→OkOp o):(commits l).Pairwise fun a c=>confL (partL (l.map uv)) c a=false:=by
 unfold commits;rw[List.pairwise_map,D7,D8];intro a c hac ha hc;obtain⟨ia,ic,hlt,hia,hic⟩:=VA hac
 have ha:a.qh=2:=by simpa using ha
 have hc:c.qh=2:=by simpa using hc
 rw[← Bool.not_eq_true];intro hconf;obtain⟨x,y,hxy,hcl,hxt,hyt⟩:=DQ hconf;have hxy2:[x,y].Sublist (l.map uv):=hxy.trans List.filter_sublist;obtain⟨ix,iy,hlt2,hix,hiy⟩:=VA hxy2;rw[A5,C2]at hix hiy;obtain⟨x,hx,rfl⟩:=hix;obtain⟨y,hy,rfl⟩:=hiy;have hxt:x.qb=c.qb:=hxt;have hyt:y.qb=a.qb:=hyt;have hxo:=ho x (A2 hx);have hyo:=ho y (A2 hy)
 have hcl2:x.qb≠y.qb∧x.qi=y.qi∧(if y.qh > x.qh then y.qh else x.qh)=1:=by
  unfold clash at hcl;simp only[D4,bne_iff_ne,ne_eq,beq_iff_eq]at hcl;exact hcl
 obtain⟨c1,c2,c3⟩:=hcl2
 have hk:x.qh≤1∧y.qh≤1∧(x.qh=1∨y.qh=1):=by
  split at c3 <;> omega
 obtain⟨e,z,he,hz,hzt,hzk⟩:=qbz hg ho hx hy hlt2 hk.2.1 hk.1 c1 c2 hk.2.2;have h1:e=ic:=hv.end_one hz hic (hzt.trans hxt) hzk (by omega)
 have h2:iy≤ia:=by
  rcases Nat.lt_or_ge ia iy with h | h
  ·have:=hv.idx hia hy h hyt.symm;omega
  ·exact h
 omega
theorem HQ {l:List hsOp} (hv:VH l):(commits l).Nodup:=by
 unfold commits;rw[List.nodup_iff_pairwise_ne,List.pairwise_map,D7,D8];intro a c hac ha hc e;obtain⟨ia,ic,hlt,hia,hic⟩:=VA hac
 have ha:a.qh=2:=by simpa using ha
 have:=hv.idx hia hic hlt e;omega
theorem VX {l:List hsOp} (hv:VH l) (ho:∀ o,o∈l→OkOp o):(commits l).Perm (commL (l.map uv)):=by
 refine (List.perm_ext_iff_of_nodup (HQ hv) (QC _)).2 fun t=>?_
 rw[YG];unfold commits;rw[List.mem_map];constructor
 ·rintro⟨o,hm,rfl⟩
  obtain⟨hm,hk⟩:=List.mem_filter.1 hm
  have hk:o.qh=2:=by simpa using hk
  have hoo:=ho o hm;obtain⟨i,hi,e⟩:=C0 hm;refine⟨⟨hoo.1,hoo.2.1⟩,Hj (l.map uv) 0 i (uv o) ?_ rfl hk⟩;rw[A5,A7 hi,e];rfl
 ·rintro⟨_,h⟩
  rcases Vw t 2 (l.map uv) 0 with h1 | ⟨i,h1⟩
  ·omega
  ·obtain⟨y,h2,_,h3,h4⟩:=Hk _ _ _ 0 i h1;rw[Nat.sub_zero,A5,C2]at h2;obtain⟨y',h5,rfl⟩:=h2;exact⟨y',List.mem_filter.2 ⟨A2 h5,by have h3:y'.qh=2:=h3;simpa using h3⟩,h4⟩
theorem UQ {l:List hsOp} (hg:Good l) (hv:VH l) (ho:∀ o,o∈l→OkOp o):agreesB (confL (partL (l.map uv))) (commits l)=true:=ZW.2 (qdK hg hv ho)
theorem qcC {l:List hsOp} (hg:Good l) (hv:VH l) (ho:∀ o,o∈l→OkOp o) (hb:validB (l.map uv)=true):∃ o,orderR (l.map uv)=(o,0):=by
 have h1:=DI (E:=confL (partL (l.map uv))) (fun x=>DP x _) (QC (l.map uv)) (A3 _);unfold orderR;rw[hb,if_pos rfl,← h1]
 cases hf:(permsF (commL (l.map uv)).length (commL (l.map uv))).find? (agreesB (confL (partL (l.map uv)))) with
 | some o=>exact⟨o,rfl⟩
 | none =>
  have h2:=List.find?_eq_none.1 hf (commits l) ((YC (QC _) (A3 _) _).2 (VX hv ho));exact absurd (UQ hg hv ho) h2
noncomputable def qaw (fuel:Nat) (a1:(List hsOp)):Option ((List hsOp)×(List Int)×Int):=lockP fuel a1
theorem qba (fuel:Nat) (a1:(List hsOp)) (r:((List hsOp)×(List Int)×Int)) (h:qaw fuel a1=some r):Run Try.prog (.call 32 [l44 none a1] (.tup [l44 none r.1,l3 none r.2.1,I6 r.2.2])):=.ext0 (Try.lock32 h)
def JD (a1:(List hsOp)) (a2:hsOp):Option Bool :=
 ((JW a1 a2).bind fun w5=>(some (decide (w5 ≥ 0))))
theorem XA (a1:(List hsOp)) (a2:hsOp) (r:Bool) (h:JD a1 a2=some r):Run Try.prog (.call 38 [l44 none a1,.agg [I6 a2.qb,I6 a2.qh,I6 a2.qi]] (.bool r)):=by
 refine cW Try.func38 rfl (env0:=[(0,l44 none a1),(1,.agg [I6 a2.qb,I6 a2.qh,I6 a2.qi])]) ?_;unfold JD at h;refine W.seq ?_;let z0:=fun t=>EN ((0,l44 none a1)::(3,.ptr (.agg [I6 a2.qb,I6 a2.qh,I6 a2.qi]))::t);refine W.rT [0,3] [3] (e2:=z0 []) ?_;refine W.sr ?_;obtain⟨w5,hw5,h⟩:=qj h;refine WO.ck 2 (F:=74) (l:=[l44 none a1,.agg [I6 a2.qb,I6 a2.qh,I6 a2.qi]]) (C:=[]) (r:=I6 w5) (Ym a1 a2 w5 hw5) (e1:=z0 [(5,l44 none a1),(6,.agg [I6 a2.qb,I6 a2.qh,I6 a2.qi]),(7,I6 w5)])<|WO.fn (e2:=[(4,.bool (decide (w5 ≥ 0)))]) ?_;refine W.wk (e:=[(4,.bool (decide (w5 ≥ 0)))]) ?_;cases h;exact W.rr
def Xm (v10:(List rf5Op)):Option (List rf5Op) :=
 (some v10)
def JZ (K4:((List rf5Op)→Option (List rf5Op))):List hsOp→Nat→(List rf5Op)→Option (List rf5Op)
 | [],k1,v6=>(K4 v6)
 | x1::r1,k1,v6=>(chk (capOk 24 ((v6++[(rf5Op.mk x1.qb x1.qh x1.qi)])).length) ((JZ K4 r1 (k1+1)) (v6++[(rf5Op.mk x1.qb x1.qh x1.qi)])))
def VJ (a1:(List hsOp)):Option (List rf5Op) :=
 (chk (lenOk a1) (JZ (Xm) a1 0 ([]:(List rf5Op))))
theorem qaZ (a1:(List hsOp)) (r:(List rf5Op)) (h:VJ a1=some r):Run Try.prog (.call 35 [l44 none a1] (l43 (some 1) r)):=by
 refine cW Try.func35 rfl (env0:=[(0,l44 none a1)]) ?_;unfold VJ at h;refine W.seq<|W.rt (e2:=[(0,l44 none a1)]) ?_;refine W.seq<|W.rt (e2:=[(0,l44 none a1),(3,.nils)]) ?_;refine W.seq<|W.join (σ:=((List rf5Op))) (fun s=>[(3,l43 (some 10300) s)]) (fun s=>(Xm) s=some r) (fun v10 h=>?_) (fun hK4=>?_)
 ·unfold Xm at h;refine W.seq<|W.rt (e2:=[(2,l43 (some 10300) v10)]) ?_;refine W.weak [2] [] [] [(10300,some 1)] (env':=[(2,l43 (some 1) v10)]) (by kernel_rfl) ?_;cases h;exact W.rr
 refine W.sr<|WO.pq 1 (jM je a1) (e1:=[(0,l44 none a1),(3,.nils),(6,l44 none a1),(7,I6 (a1.length:Int))])<|WO.fn (e2:=[(3,.nils),(6,l44 none a1),(7,I6 (a1.length:Int)),(8,.int .i64 0)]) ?_;refine W.block ?_;obtain⟨hl1,h⟩:=qp h;refine W.weak [3,6,7,8] [] [(3,0,43,3,10300)] [] (env':=[(3,l43 (some 10300) ([]:(List rf5Op))),(6,l44 none a1),(7,I6 (a1.length:Int)),(8,I6 ((0:Nat):Int))]) (by kernel_rfl)<|W.range (σ:=((List rf5Op))) a1 (fun k1 s=>[(3,l43 (some 10300) s),(6,l44 none a1),(7,I6 (a1.length:Int)),(8,I6 (k1:Int))]) (fun r0 k0 s=>JZ (Xm) r0 k0 s=some r) (fun v6 h=>?_) (fun x1 r1 k1 s hx1 hk1 h hN1=>?_) ([]:(List rf5Op)) h
 ·have h:JZ (Xm) [] (a1).length v6=some r:=h;rw[JZ.eq_1]at h;refine W.sr ?_;let y0:Env:=[(6,l44 none a1),(7,I6 (a1.length:Int)),(8,I6 ((a1).length:Int)),(9,.bool false)];let z0:=fun t=>EN ((3,l43 (some 10300) v6)::t);refine WO.pq 0 (jB (jk (l:=a1))) (e1:=z0 y0)<|WO.fn (e2:=z0 y0) ?_;refine W.seq<|W.cF<|W.exit<|W.wk (e:=z0 []) ?_;exact hK4 v6 h
 ·obtain⟨v6,rfl⟩:∃ x,x=s:=⟨s,rfl⟩;have h:JZ (Xm) (x1::r1) k1 v6=some r:=h;rw[JZ.eq_2]at h;refine W.sr ?_;let y1:Env:=[(6,l44 none a1),(7,I6 (a1.length:Int)),(8,I6 (k1:Int)),(9,.bool true)];let z1:=fun t=>EN ((3,l43 (some 10300) v6)::t);refine WO.pq 0 (jB (jD hk1)) (e1:=z1 y1)<|WO.fn (e2:=z1 y1) ?_;refine W.seq<|W.cT<|W.skip ?_;let y2:Env:=[(6,l44 none a1),(7,I6 (a1.length:Int)),(8,I6 (k1:Int))];refine W.wk (e:=z1 y2)<|W.seq<|W.block<|W.sr<|WO.pq 0 (jE (f:=je) hx1) (e1:=z1 [(6,l44 none a1),(7,I6 (a1.length:Int)),(8,I6 (k1:Int)),(10,.ptr (.agg [I6 x1.qb,I6 x1.qh,I6 x1.qi]))])<|WO.fi [3,5,6,7,8] [5] (e2:=z1 ((5,.ptr (.agg [I6 x1.qb,I6 x1.qh,I6 x1.qi]))::y2)) ?_;refine W.rg ?_;obtain⟨hc9,h⟩:=qp h;refine WO.appendK 9 (d:=21) (e:=43) (s:=3) (bytes:=24) (xs:=(A6 Ji v6)) (ys:=(A6 Ji [(rf5Op.mk x1.qb x1.qh x1.qi)])) (zs:=(A6 Ji (v6++[(rf5Op.mk x1.qb x1.qh x1.qi)]))) (env1:=[(3,l43 none v6),(5,.ptr (.agg [I6 x1.qb,I6 x1.qh,I6 x1.qi])),(6,l44 none a1),(7,I6 (a1.length:Int)),(8,I6 (k1:Int)),(12,l43 none v6),(13,.ptr (I6 x1.qb)),(14,I6 x1.qb),(15,.ptr (I6 x1.qh)),(16,I6 x1.qh),(17,.ptr (I6 x1.qi)),(18,I6 x1.qi),(19,.agg [I6 x1.qb,I6 x1.qh,I6 x1.qi]),(20,l43 (some 20) [(rf5Op.mk x1.qb x1.qh x1.qi)])]) (by kernel_rfl) (List.map_append.symm) (by rw[A4];exact hc9) (e1:=[(3,l43 none v6),(5,.ptr (.agg [I6 x1.qb,I6 x1.qh,I6 x1.qi])),(6,l44 none a1),(7,I6 (a1.length:Int)),(8,I6 (k1:Int)),(12,l43 none v6),(13,.ptr (I6 x1.qb)),(14,I6 x1.qb),(15,.ptr (I6 x1.qh)),(16,I6 x1.qh),(17,.ptr (I6 x1.qi)),(18,I6 x1.qi),(19,.agg [I6 x1.qb,I6 x1.qh,I6 x1.qi]),(20,l43 (some 20) [(rf5Op.mk x1.qb x1.qh x1.qi)]),(21,l43 (some 21) (v6++[(rf5Op.mk x1.qb x1.qh x1.qi)]))]) (by kernel_rfl) ?_;let z2:=fun t=>EN ((3,l43 (some 21) (v6++[(rf5Op.mk x1.qb x1.qh x1.qi)]))::t);refine WO.fn (e2:=z2 y2) ?_;refine W.rg<|WO.pq 0 (jI (qX hl1 hk1)) (e1:=z2 [(6,l44 none a1),(7,I6 (a1.length:Int)),(8,I6 (k1:Int)),(22,I6 ((k1+1:Nat):Int))])<|WO.fin [3,6,7,8] [] [] [(21,some 10300)] (e2:=[(3,l43 (some 10300) (v6++[(rf5Op.mk x1.qb x1.qh x1.qi)])),(6,l44 none a1),(7,I6 (a1.length:Int)),(8,I6 ((k1+1:Nat):Int))]) (by kernel_rfl) (fun _ h=>h) ?_;exact hN1 (v6++[(rf5Op.mk x1.qb x1.qh x1.qi)]) h
def ji:Option Bool :=
 (some false)
def jr (a1:(List rf5Op)) (a2:(List Int)) (N1:(Option Bool)) (v18:Bool):Option Bool :=
 (bif v18 then ((QI a1).bind fun w21=>((Yc a2 w21).bind fun w22=>(some w22))) else N1)
def JG (N2:(Bool→Option Bool)) (v17:Bool):Option Bool :=
 (N2 v17)
def qZ (a2:(List Int)) (K11:(Bool→Option Bool)):List Int→Nat→Bool→Option Bool
 | [],k2,v13=>(K11 v13)
 | x2::r2,k2,v13=>(bif v13 then ((idx a2 (k2:Int)).bind fun e16=>((JG (qZ a2 K11 r2 (k2+1))) (e16 == x2))) else ((JG (qZ a2 K11 r2 (k2+1))) false))
def ja (a1:(List rf5Op)) (a2:(List Int)) (K4:(Option Bool)):List (List Int)→Nat→Option Bool
 | [],k1=>K4
 | x1::r1,k1=>(chk (lenOk x1) (qZ a2 (jr a1 a2 (ja a1 a2 K4 r1 (k1+1))) x1 0 ((x1.length:Int) == (a2.length:Int))))
def Qz (fuel:Nat) (a1:(List rf5Op)) (a2:(List Int)):Option Bool :=
 ((QJ fuel a1).bind fun w6=>((Jb fuel w6).bind fun w7=>(chk (lenOk w7) (ja a1 a2 (ji) w7 0))))
theorem Vi (fuel:Nat) (a1:(List rf5Op)) (a2:(List Int)) (r:Bool) (h:Qz fuel a1 a2=some r):Run Try.prog (.call 40 [l43 none a1,l3 none a2] (.bool r)):=by
 refine cW Try.func40 rfl (env0:=[(0,l43 none a1),(1,l3 none a2)]) ?_;unfold Qz at h;refine W.seq ?_;let z0:=fun t=>EN ((0,l43 none a1)::(1,l3 none a2)::t);refine W.rt (e2:=z0 []) ?_;refine W.seq<|W.join (σ:=Unit) (fun s=>[]) (fun s=>(ji)=some r) (fun s h=>?_) (fun hK4=>?_)
 ·unfold ji at h;refine W.seq<|W.rt (e2:=[(4,.bool false)]) ?_;refine W.wk (e:=[(4,.bool false)]) ?_;cases h;exact W.rr
 refine W.sr ?_;obtain⟨w6,hw6,h⟩:=qj h;let z1:=fun t=>z0 ((10,l43 none a1)::(11,l3 (some 11) w6)::t);refine WO.ck 1 (F:=57) (l:=[l43 none a1]) (C:=[]) (r:=l3 (some 1) w6) (VF fuel a1 w6 hw6) (e1:=z1 []) ?_;obtain⟨w7,hw7,h⟩:=qj h;refine WO.ck 0 (F:=67) (l:=[l3 none w6]) (C:=[]) (r:=l24 none w7) (Hx fuel w6 w7 hw7) (e1:=z1 [(12,l24 none w7)])<|WO.pq 0 (jM (encL 3 1 (AV.int .i64)) w7) (e1:=z1 [(12,l24 none w7),(13,I6 (w7.length:Int))]) ?_;let z2:=fun t=>z0 ((12,l24 none w7)::(13,I6 (w7.length:Int))::t);refine WO.fn (e2:=z2 [(14,.int .i64 0)]) ?_;refine W.block ?_;obtain⟨hl1,h⟩:=qp h;refine W.wk (e:=z2 [(14,I6 ((0:Nat):Int))])<|W.range (σ:=Unit) w7 (fun k1 s=>z2 [(14,I6 (k1:Int))]) (fun r0 k0 s=>ja a1 a2 (ji) r0 k0=some r) (fun s h=>?_) (fun x1 r1 k1 s hx1 hk1 h hN1=>?_) () h
 ·rw[ja.eq_1]at h;refine W.sr ?_;let y0:Env:=[(1,l3 none a2),(12,l24 none w7),(13,I6 (w7.length:Int)),(14,I6 ((w7).length:Int)),(15,.bool false)];refine WO.pq 0 (jB (jk (l:=w7))) (e1:=((0,l43 none a1)::y0))<|WO.fn (e2:=((0,l43 none a1)::y0)) ?_;refine W.seq<|W.cF<|W.exit<|W.wk (e:=[]) ?_;exact hK4 () h
 ·rw[ja.eq_2]at h;refine W.sr ?_;let y1:Env:=[(1,l3 none a2),(12,l24 none w7),(13,I6 (w7.length:Int)),(14,I6 (k1:Int)),(15,.bool true)];let z3:=fun t=>EN ((0,l43 none a1)::t);refine WO.pq 0 (jB (jD hk1)) (e1:=z3 y1)<|WO.fn (e2:=z3 y1) ?_;refine W.seq<|W.cT<|W.skip ?_;let y2:Env:=[(12,l24 none w7),(13,I6 (w7.length:Int)),(14,I6 (k1:Int))];refine W.wk (e:=z0 y2)<|W.seq<|W.block<|W.sr ?_;let z4:=fun t=>z2 ((14,I6 (k1:Int))::t);refine WO.pq 0 (jE (f:=(encL 3 1 (AV.int .i64))) hx1) (e1:=z4 [(16,.ptr (l3 none x1))]) ?_;let z5:=fun t=>z0 ((6,l3 none x1)::t);refine WO.fn (e2:=z5 y2) ?_;refine W.sr ?_;let z6:=fun t=>z5 ((12,l24 none w7)::(13,I6 (w7.length:Int))::(14,I6 (k1:Int))::(18,l3 none x1)::(19,I6 (x1.length:Int))::t);refine WO.pq 1 (jM (.int .i64) x1) (e1:=z6 [])<|WO.pq 1 (jM (.int .i64) a2) (e1:=z6 [(20,l3 none a2),(21,I6 (a2.length:Int))]) ?_;let z7:=fun t=>z5 ((7,.bool ((x1.length:Int) == (a2.length:Int)))::t);refine WO.fn (e2:=z7 y2) ?_;refine W.seq<|W.join (σ:=(Bool)) (fun s=>z0 ((7,.bool s)::y2)) (fun s=>(jr a1 a2 (ja a1 a2 (ji) r1 (k1+1))) s=some r) (fun v18 h=>?_) (fun hK11=>?_)
  ·unfold jr at h;refine W.seq<|W.rt (e2:=z4 [(40,.bool v18)]) ?_;refine W.ch v18 h (fun h=>?_) (fun h=>?_)
   ·refine W.sr ?_;obtain⟨w21,hw21,h⟩:=qj h;let z8:=fun t=>z4 ((40,.bool v18)::(41,l3 none a2)::(42,l43 none a1)::(43,.agg (A6 AV.bool w21))::t);refine WO.ck 2 (F:=58) (l:=[l43 none a1]) (C:=[]) (r:=.agg (A6 AV.bool w21)) (VE a1 w21 hw21) (e1:=z8 []) ?_;obtain⟨w22,hw22,h⟩:=qj h;refine WO.ck 0 (F:=76) (l:=[l3 none a2,.agg (A6 AV.bool w21)]) (C:=[]) (r:=.bool w22) (NF a2 w21 w22 hw22) (e1:=z8 [(44,.bool w22)])<|WO.fn (e2:=[(4,.bool w22)]) ?_;refine W.wk (e:=[(4,.bool w22)]) ?_;cases h;exact W.rr
   refine W.sw (e:=z0 y2) ?_;refine W.rg<|WO.pq 0 (jI (qX hl1 hk1)) (e1:=z4 [(45,I6 ((k1+1:Nat):Int))])<|WO.fn (e2:=z2 [(14,I6 ((k1+1:Nat):Int))]) ?_;exact hN1 () h
  refine W.sr<|WO.pq 1 (jM (.int .i64) x1) (e1:=z7 [(12,l24 none w7),(13,I6 (w7.length:Int)),(14,I6 (k1:Int)),(23,l3 none x1),(24,I6 (x1.length:Int))]) ?_;let z9:=fun t=>z0 ((7,.bool ((x1.length:Int) == (a2.length:Int)))::(12,l24 none w7)::(13,I6 (w7.length:Int))::(14,I6 (k1:Int))::(23,l3 none x1)::(24,I6 (x1.length:Int))::t);refine WO.fn (e2:=z9 [(25,.int .i64 0)]) ?_;refine W.block ?_;obtain⟨hl2,h⟩:=qp h;refine W.wk (e:=z9 [(25,I6 ((0:Nat):Int))])<|W.range (σ:=(Bool)) x1 (fun k2 s=>z0 [(7,.bool s),(12,l24 none w7),(13,I6 (w7.length:Int)),(14,I6 (k1:Int)),(23,l3 none x1),(24,I6 (x1.length:Int)),(25,I6 (k2:Int))]) (fun r0 k0 s=>qZ a2 (jr a1 a2 (ja a1 a2 (ji) r1 (k1+1))) r0 k0 s=some r) (fun v13 h=>?_) (fun x2 r2 k2 s hx2 hk2 h hN2=>?_) ((x1.length:Int) == (a2.length:Int)) h
  ·have h:qZ a2 (jr a1 a2 (ja a1 a2 (ji) r1 (k1+1))) [] (x1).length v13=some r:=h;rw[qZ.eq_1]at h;refine W.sr ?_;let y3:Env:=[(1,l3 none a2),(7,.bool v13),(12,l24 none w7),(13,I6 (w7.length:Int)),(14,I6 (k1:Int)),(23,l3 none x1),(24,I6 (x1.length:Int)),(25,I6 ((x1).length:Int)),(26,.bool false)];refine WO.pq 0 (jB (jk (l:=x1))) (e1:=z3 y3)<|WO.fn (e2:=z3 y3) ?_;refine W.seq<|W.cF<|W.exit<|W.wk (e:=z0 ((7,.bool v13)::y2)) ?_;exact hK11 v13 h
  ·obtain⟨v13,rfl⟩:∃ x,x=s:=⟨s,rfl⟩;have h:qZ a2 (jr a1 a2 (ja a1 a2 (ji) r1 (k1+1))) (x2::r2) k2 v13=some r:=h;rw[qZ.eq_2]at h;refine W.sr ?_;let y4:Env:=[(1,l3 none a2),(7,.bool v13),(12,l24 none w7),(13,I6 (w7.length:Int)),(14,I6 (k1:Int)),(23,l3 none x1),(24,I6 (x1.length:Int)),(25,I6 (k2:Int)),(26,.bool true)];refine WO.pq 0 (jB (jD hk2)) (e1:=z3 y4)<|WO.fn (e2:=z3 y4) ?_;refine W.seq<|W.cT<|W.skip ?_;let y5:Env:=[(12,l24 none w7),(13,I6 (w7.length:Int)),(14,I6 (k1:Int)),(23,l3 none x1),(24,I6 (x1.length:Int)),(25,I6 (k2:Int))];refine W.wk (e:=z0 ((7,.bool v13)::y5))<|W.seq<|W.join (σ:=(Bool)) (fun s=>z0 ((7,.bool s)::y5)) (fun s=>(JG (qZ a2 (jr a1 a2 (ja a1 a2 (ji) r1 (k1+1))) r2 (k2+1))) s=some r) (fun v17 h=>?_) (fun hK14=>?_)
   ·unfold JG at h;refine W.rg ?_;let z10:=fun t=>z0 ((7,.bool v17)::(12,l24 none w7)::(13,I6 (w7.length:Int))::(14,I6 (k1:Int))::(23,l3 none x1)::(24,I6 (x1.length:Int))::t);refine WO.pq 0 (jI (qX hl2 hk2)) (e1:=z10 [(25,I6 (k2:Int)),(39,I6 ((k2+1:Nat):Int))])<|WO.fn (e2:=z10 [(25,I6 ((k2+1:Nat):Int))]) ?_;exact hN2 v17 h
   refine W.block<|W.sr<|WO.pq 1 (jE (f:=(AV.int .i64)) hx2) (e1:=z0 [(7,.bool v13),(12,l24 none w7),(13,I6 (w7.length:Int)),(14,I6 (k1:Int)),(23,l3 none x1),(24,I6 (x1.length:Int)),(25,I6 (k2:Int)),(27,I6 (k2:Int)),(28,.ptr (I6 x2))])<|WO.fn (e2:=z0 ((7,.bool v13)::(8,I6 (k2:Int))::(9,I6 x2)::y5)) ?_;refine W.rg<|WO.bh 2 (fun b=>z0 [(7,.bool b),(8,I6 (k2:Int)),(9,I6 x2),(12,l24 none w7),(13,I6 (w7.length:Int)),(14,I6 (k1:Int)),(23,l3 none x1),(24,I6 (x1.length:Int)),(25,I6 (k2:Int)),(30,.bool b),(31,.bool b)]) v13 h (fun h=>?_) (fun h=>?_)
   ·obtain⟨e16,he16,h⟩:=qj h;refine WO.pq 2 (NY (f:=(AV.int .i64)) he16) (e1:=z0 [(7,.bool true),(8,I6 (k2:Int)),(9,I6 x2),(12,l24 none w7),(13,I6 (w7.length:Int)),(14,I6 (k1:Int)),(23,l3 none x1),(24,I6 (x1.length:Int)),(25,I6 (k2:Int)),(30,.bool true),(31,.bool true),(32,l3 none a2),(33,I6 (k2:Int)),(34,.ptr (I6 e16))])<|WO.fn (e2:=z0 ((7,.bool (e16 == x2))::y5)) ?_;exact hK14 (e16 == x2) h
   refine WO.fn (e2:=z0 ((7,.bool false)::y5)) ?_;exact hK14 false h
noncomputable def JM (v49:Bool):Option Bool :=
 (some v49)
noncomputable def jy (fuel:Nat) (w5:((List hsOp)×(List Int)×Int)) (v35:(List Int)):Option Bool :=
 ((VJ w5.1).bind fun w46=>((Qz fuel w46 v35).bind fun w47=>(bif w47 then ((XT fuel).bind fun w48=>((JM) w48)) else ((JM) false))))
noncomputable def jZ (N2:(Option Bool)) (v43:Bool):Option Bool :=
 (bif v43 then (some false) else N2)
noncomputable def qV (w5:((List hsOp)×(List Int)×Int)) (v35:(List Int)) (K36:(Option Bool)):List Int→Nat→Option Bool
 | [],k2=>K36
 | x2::r2,k2=>((JN v35 x2).bind fun w41=>(bif w41 then ((jZ (qV w5 v35 K36 r2 (k2+1))) true) else ((JD w5.1 (hsOp.mk x2 3 0)).bind fun w42=>((jZ (qV w5 v35 K36 r2 (k2+1))) (!w42)))))
noncomputable def jb (fuel:Nat) (w5:((List hsOp)×(List Int)×Int)) (v35:(List Int)):Option Bool :=
 (chk (lenOk w5.2.1) (qV w5 v35 (jy fuel w5 v35) w5.2.1 0))
noncomputable def Ja (v29:(List Int)) (N1:((List Int)→Option Bool)) (v33:Bool):Option Bool :=
 (bif v33 then (some false) else (N1 v29))
noncomputable def jz (a1:(List rf5Op)) (x1:hsOp) (N1:((List Int)→Option Bool)) (v29:(List Int)):Option Bool :=
 (bif (x1.qh != 3) then ((Uu a1).bind fun w31=>((JD w31 x1).bind fun w32=>((Ja v29 N1) (!w32)))) else ((Ja v29 N1) false))
noncomputable def qH (a1:(List rf5Op)) (K21:((List Int)→Option Bool)):List hsOp→Nat→(List Int)→Option Bool
 | [],k1,v23=>(K21 v23)
 | x1::r1,k1,v23=>(bif (x1.qh == 2) then (chk (capOk 8 ((v23++[x1.qb])).length) ((jz a1 x1 (qH a1 K21 r1 (k1+1))) (v23++[x1.qb]))) else ((jz a1 x1 (qH a1 K21 r1 (k1+1))) v23))
noncomputable def jf (fuel:Nat) (a1:(List rf5Op)) (w5:((List hsOp)×(List Int)×Int)) (v18:Bool):Option Bool :=
 (bif v18 then (some false) else (chk (lenOk w5.1) (qH a1 (jb fuel w5) w5.1 0 ([]:(List Int)))))
noncomputable def Jm (v10:Bool):Option Bool :=
 (some v10)
noncomputable def Qv (fuel:Nat) (a1:(List rf5Op)):Option Bool :=
 ((Uu a1).bind fun w4=>((qaw fuel w4).bind fun w5=>(bif (w5.2.2 != 0) then (bif (w5.2.2 == 2) then (bif ((IntKind.wrap .i64 ((w5.1.length:Int)+(w5.2.1.length:Int))) == 0) then ((XT fuel).bind fun w9=>((Jm) w9)) else ((Jm) false)) else ((Jm) false)) else ((XE fuel w5.1).bind fun w12=>((XF fuel w5.1).bind fun w14=>((QB w5.1).bind fun w17=>(bif (!w17) then ((jf fuel a1 w5) true) else (bif (!w12.2.2.1) then ((jf fuel a1 w5) true) else (bif (w12.2.2.2 != 0) then ((jf fuel a1 w5) true) else ((jf fuel a1 w5) (w14.2 != 0)))))))))))
theorem Zk (fuel:Nat) (a1:(List rf5Op)) (r:Bool) (h:Qv fuel a1=some r):Run Try.prog (.call 12 [l43 none a1] (.bool r)):=by
 refine cW Try.func12 rfl (env0:=[(0,l43 none a1)]) ?_;unfold Qv at h;refine W.seq ?_;let z0:=fun t=>EN ((0,l43 none a1)::t);refine W.rt (e2:=z0 []) ?_;refine W.sr ?_;obtain⟨w4,hw4,h⟩:=qj h;let z1:=fun t=>z0 ((18,l43 none a1)::(19,l44 (some 19) w4)::t);refine WO.ck 1 (F:=18) (l:=[l43 none a1]) (C:=[]) (r:=l44 (some 1) w4) (NG a1 w4 hw4) (e1:=z1 []) ?_;obtain⟨w5,hw5,h⟩:=qj h;refine WO.ck 0 (F:=32) (l:=[l44 none w4]) (C:=[]) (r:=.tup [l44 none w5.1,l3 none w5.2.1,I6 w5.2.2]) (qba fuel w4 w5 hw5) (e1:=z1 [(20,.tup [l44 none w5.1,l3 none w5.2.1,I6 w5.2.2])]) ?_;let z2:=fun t=>z0 ((3,l44 none w5.1)::(4,l3 none w5.2.1)::t);let z3:=fun t=>z2 ((5,I6 w5.2.2)::t);refine WO.fn (e2:=z3 []) ?_;refine W.seq<|W.seq ?_;let z4:=fun t=>z3 ((25,.bool (w5.2.2 != 0))::t);refine W.rt (e2:=z4 []) ?_;refine W.ch (w5.2.2 != 0) h (fun h=>?_) (fun h=>?_)
 ·refine W.seq<|W.join (σ:=(Bool)) (fun s=>[(2,.bool s)]) (fun s=>(Jm) s=some r) (fun v10 h=>?_) (fun hK8=>?_)
  ·unfold Jm at h;refine W.wk (e:=[(2,.bool v10)]) ?_;cases h;exact W.rr
  refine W.rg ?_;let z5:=fun t=>z4 ((26,I6 w5.2.2)::t);refine WO.bh 3 (fun b=>z5 [(27,.bool b),(28,.bool b)]) (w5.2.2 == 2) h (fun h=>?_) (fun h=>?_)
  ·let z6:=fun t=>z5 ((27,.bool true)::(28,.bool true)::(29,l44 none w5.1)::(30,I6 (w5.1.length:Int))::t);refine WO.pq 1 (jM je w5.1) (e1:=z6 []) ?_;let z7:=fun t=>z6 ((31,l3 none w5.2.1)::(32,I6 (w5.2.1.length:Int))::t);refine WO.pq 1 (jM (.int .i64) w5.2.1) (e1:=z7 []) ?_;let z8:=fun t=>z7 ((33,I6 (W6 ((w5.1.length:Int)+(w5.2.1.length:Int))))::t);refine WO.bh 4 (fun b=>z8 [(34,.bool b),(35,.bool b),(36,.bool b)]) ((W6 ((w5.1.length:Int)+(w5.2.1.length:Int))) == 0) h (fun h=>?_) (fun h=>?_)
   ·obtain⟨w9,hw9,h⟩:=qj h;refine WO.ck 0 (F:=21) (l:=[]) (C:=[]) (r:=.bool w9) (Vc fuel w9 hw9) (e1:=z8 [(34,.bool true),(35,.bool true),(36,.bool true),(37,.bool w9)])<|WO.fn (e2:=[(2,.bool w9)]) ?_;exact hK8 w9 h
   refine WO.fn (e2:=[(2,.bool false)]) ?_;exact hK8 false h
  refine WO.fn (e2:=[(2,.bool false)]) ?_;exact hK8 false h
 refine W.sw (e:=z2 []) ?_;refine W.sr ?_;obtain⟨w12,hw12,h⟩:=qj h;refine WO.ck 1 (F:=28) (l:=[l44 none w5.1]) (C:=[]) (r:=.tup [.bool w12.1,.bool w12.2.1,.bool w12.2.2.1,I6 w12.2.2.2]) (Nh fuel w5.1 w12 hw12) (e1:=z2 [(40,l44 none w5.1),(41,.tup [.bool w12.1,.bool w12.2.1,.bool w12.2.2.1,I6 w12.2.2.2])]) ?_;let z9:=fun t=>z2 ((8,.bool w12.2.2.1)::(9,I6 w12.2.2.2)::t);refine WO.fn (e2:=z9 []) ?_;refine W.sr ?_;obtain⟨w14,hw14,h⟩:=qj h;refine WO.ck 1 (F:=17) (l:=[l44 none w5.1]) (C:=[]) (r:=.tup [l3 none w14.1,I6 w14.2]) (VG fuel w5.1 w14 hw14) (e1:=z9 [(47,l44 none w5.1),(48,.tup [l3 none w14.1,I6 w14.2])]) ?_;let z10:=fun t=>z9 ((11,I6 w14.2)::t);refine WO.fn (e2:=z10 []) ?_;refine W.seq<|W.seq<|W.join (σ:=(Bool)) (fun s=>z2 [(65,.bool s)]) (fun s=>(jf fuel a1 w5) s=some r) (fun v18 h=>?_) (fun hK16=>?_)
 ·unfold jf at h;refine W.ch v18 h (fun h=>?_) (fun h=>?_)
  ·refine W.seq<|W.rt (e2:=[(2,.bool false)]) ?_;refine W.wk (e:=[(2,.bool false)]) ?_;cases h;exact W.rr
  refine W.sw (e:=z2 []) ?_;refine W.seq<|W.rt (e2:=z2 [(12,.nils)]) ?_;refine W.seq ?_;let z11:=fun t=>EN ((3,l44 none w5.1)::t);let z12:=fun t=>z11 ((4,l3 none w5.2.1)::t);refine W.join (σ:=((List Int))) (fun s=>z12 [(12,l3 (some 11200) s)]) (fun s=>(jb fuel w5) s=some r) (fun v35 h=>?_) (fun hK21=>?_)
  ·unfold jb at h;refine W.seq ?_;let z13:=fun t=>z11 ((12,l3 (some 11200) v35)::t);refine W.join (σ:=Unit) (fun s=>z13 []) (fun s=>(jy fuel w5 v35)=some r) (fun s h=>?_) (fun hK36=>?_)
   ·unfold jy at h;refine W.seq<|W.join (σ:=(Bool)) (fun s=>[(2,.bool s)]) (fun s=>(JM) s=some r) (fun v49 h=>?_) (fun hK45=>?_)
    ·unfold JM at h;refine W.wk (e:=[(2,.bool v49)]) ?_;cases h;exact W.rr
    refine W.rg ?_;obtain⟨w46,hw46,h⟩:=qj h;let z14:=fun t=>z13 ((108,l44 none w5.1)::(109,l43 (some 109) w46)::t);refine WO.ck 1 (F:=35) (l:=[l44 none w5.1]) (C:=[]) (r:=l43 (some 1) w46) (qaZ w5.1 w46 hw46) (e1:=z14 []) ?_;obtain⟨w47,hw47,h⟩:=qj h;let z15:=fun t=>z14 ((110,l3 (some 11200) v35)::t);refine WO.ck 1 (F:=40) (l:=[l43 none w46,l3 none v35]) (C:=[]) (r:=.bool w47) (Vi fuel w46 v35 w47 hw47) (e1:=z15 [(111,.bool w47)])<|WO.bh 1 (fun b=>z15 [(111,.bool b),(112,.bool b)]) w47 h (fun h=>?_) (fun h=>?_)
    ·obtain⟨w48,hw48,h⟩:=qj h;refine WO.ck 0 (F:=21) (l:=[]) (C:=[]) (r:=.bool w48) (Vc fuel w48 hw48) (e1:=z15 [(111,.bool true),(112,.bool true),(113,.bool w48)])<|WO.fn (e2:=[(2,.bool w48)]) ?_;exact hK45 w48 h
    refine WO.fn (e2:=[(2,.bool false)]) ?_;exact hK45 false h
   refine W.sr<|WO.pq 1 (jM (.int .i64) w5.2.1) (e1:=z12 [(12,l3 (some 11200) v35),(91,l3 none w5.2.1),(92,I6 (w5.2.1.length:Int))]) ?_;let z16:=fun t=>z13 ((91,l3 none w5.2.1)::(92,I6 (w5.2.1.length:Int))::t);refine WO.fn (e2:=z16 [(93,.int .i64 0)]) ?_;refine W.block ?_;obtain⟨hl2,h⟩:=qp h;refine W.wk (e:=z16 [(93,I6 ((0:Nat):Int))])<|W.range (σ:=Unit) w5.2.1 (fun k2 s=>z16 [(93,I6 (k2:Int))]) (fun r0 k0 s=>qV w5 v35 (jy fuel w5 v35) r0 k0=some r) (fun s h=>?_) (fun x2 r2 k2 s hx2 hk2 h hN2=>?_) () h
   ·rw[qV.eq_1]at h;refine W.sr ?_;let y0:Env:=[(12,l3 (some 11200) v35),(91,l3 none w5.2.1),(92,I6 (w5.2.1.length:Int)),(93,I6 ((w5.2.1).length:Int)),(94,.bool false)];refine WO.pq 0 (jB (jk (l:=w5.2.1))) (e1:=z11 y0)<|WO.fn (e2:=z11 y0) ?_;refine W.seq<|W.cF<|W.exit<|W.wk (e:=z13 []) ?_;exact hK36 () h
   ·rw[qV.eq_2]at h;refine W.sr ?_;let y1:Env:=[(12,l3 (some 11200) v35),(91,l3 none w5.2.1),(92,I6 (w5.2.1.length:Int)),(93,I6 (k2:Int)),(94,.bool true)];refine WO.pq 0 (jB (jD hk2)) (e1:=z11 y1)<|WO.fn (e2:=z11 y1) ?_;refine W.seq<|W.cT<|W.skip ?_;let y2:Env:=[(91,l3 none w5.2.1),(92,I6 (w5.2.1.length:Int)),(93,I6 (k2:Int))];refine W.wk (e:=z13 y2)<|W.seq<|W.block<|W.sr ?_;let z17:=fun t=>z16 ((93,I6 (k2:Int))::t);refine WO.pq 0 (jE (f:=(AV.int .i64)) hx2) (e1:=z17 [(95,.ptr (I6 x2))])<|WO.fn (e2:=z13 ((16,I6 x2)::y2)) ?_;refine W.seq<|W.join (σ:=(Bool)) (fun s=>z17 [(106,.bool s)]) (fun s=>(jZ (qV w5 v35 (jy fuel w5 v35) r2 (k2+1))) s=some r) (fun v43 h=>?_) (fun hK40=>?_)
    ·unfold jZ at h;refine W.ch v43 h (fun h=>?_) (fun h=>?_)
     ·refine W.seq<|W.rt (e2:=[(2,.bool false)]) ?_;refine W.wk (e:=[(2,.bool false)]) ?_;cases h;exact W.rr
     refine W.sw (e:=z13 y2) ?_;refine W.rg<|WO.pq 0 (jI (qX hl2 hk2)) (e1:=z17 [(107,I6 ((k2+1:Nat):Int))])<|WO.fn (e2:=z16 [(93,I6 ((k2+1:Nat):Int))]) ?_;exact hN2 () h
    refine W.rg ?_;obtain⟨w41,hw41,h⟩:=qj h;let z18:=fun t=>z13 ((16,I6 x2)::(91,l3 none w5.2.1)::(92,I6 (w5.2.1.length:Int))::(93,I6 (k2:Int))::(97,l3 (some 11200) v35)::(98,I6 x2)::t);refine WO.ck 2 (F:=39) (l:=[l3 none v35,I6 x2]) (C:=[]) (r:=.bool w41) (QG v35 x2 w41 hw41) (e1:=z18 [(99,.bool w41)])<|WO.bh 1 (fun b=>z18 [(99,.bool b),(100,.bool b)]) w41 h (fun h=>?_) (fun h=>?_)
    ·refine WO.fn (e2:=z17 [(106,.bool true)]) ?_;exact hK40 true h
    obtain⟨w42,hw42,h⟩:=qj h;refine WO.ck 3 (F:=38) (l:=[l44 none w5.1,.agg [I6 x2,.int .i64 3,.int .i64 0]]) (C:=[]) (r:=.bool w42) (XA w5.1 (hsOp.mk x2 3 0) w42 hw42) (e1:=z18 [(99,.bool false),(100,.bool false),(101,l44 none w5.1),(102,I6 x2),(103,.agg [I6 x2,.int .i64 3,.int .i64 0]),(104,.bool w42)])<|WO.fn (e2:=z17 [(106,.bool (!w42))]) ?_;exact hK40 (!w42) h
  refine W.sr ?_;let z19:=fun t=>z2 ((12,.nils)::(66,l44 none w5.1)::(67,I6 (w5.1.length:Int))::t);refine WO.pq 1 (jM je w5.1) (e1:=z19 [])<|WO.fn (e2:=z19 [(68,.int .i64 0)]) ?_;refine W.block ?_;obtain⟨hl1,h⟩:=qp h;refine W.weak [0,3,4,12,66,67,68] [] [(12,0,3,1,11200)] [] (env':=z2 [(12,l3 (some 11200) ([]:(List Int))),(66,l44 none w5.1),(67,I6 (w5.1.length:Int)),(68,I6 ((0:Nat):Int))]) (by kernel_rfl)<|W.range (σ:=((List Int))) w5.1 (fun k1 s=>z2 [(12,l3 (some 11200) s),(66,l44 none w5.1),(67,I6 (w5.1.length:Int)),(68,I6 (k1:Int))]) (fun r0 k0 s=>qH a1 (jb fuel w5) r0 k0 s=some r) (fun v23 h=>?_) (fun x1 r1 k1 s hx1 hk1 h hN1=>?_) ([]:(List Int)) h
  ·have h:qH a1 (jb fuel w5) [] (w5.1).length v23=some r:=h;rw[qH.eq_1]at h;refine W.sr ?_;let y3:Env:=[(3,l44 none w5.1),(4,l3 none w5.2.1),(12,l3 (some 11200) v23),(66,l44 none w5.1),(67,I6 (w5.1.length:Int)),(68,I6 ((w5.1).length:Int)),(69,.bool false)];refine WO.pq 0 (jB (jk (l:=w5.1))) (e1:=z0 y3)<|WO.fn (e2:=z0 y3) ?_;refine W.seq<|W.cF<|W.exit<|W.wk (e:=z12 [(12,l3 (some 11200) v23)]) ?_;exact hK21 v23 h
  ·obtain⟨v23,rfl⟩:∃ x,x=s:=⟨s,rfl⟩;have h:qH a1 (jb fuel w5) (x1::r1) k1 v23=some r:=h;rw[qH.eq_2]at h;refine W.sr ?_;let y4:Env:=[(3,l44 none w5.1),(4,l3 none w5.2.1),(12,l3 (some 11200) v23),(66,l44 none w5.1),(67,I6 (w5.1.length:Int)),(68,I6 (k1:Int)),(69,.bool true)];refine WO.pq 0 (jB (jD hk1)) (e1:=z0 y4)<|WO.fn (e2:=z0 y4) ?_;refine W.seq<|W.cT<|W.skip ?_;let y5:Env:=[(66,l44 none w5.1),(67,I6 (w5.1.length:Int)),(68,I6 (k1:Int))];let z20:=fun t=>z2 ((12,l3 (some 11200) v23)::t);refine W.wk (e:=z20 y5)<|W.seq<|W.block<|W.sr<|WO.pq 0 (jE (f:=je) hx1) (e1:=z20 [(66,l44 none w5.1),(67,I6 (w5.1.length:Int)),(68,I6 (k1:Int)),(70,.ptr (.agg [I6 x1.qb,I6 x1.qh,I6 x1.qi]))]) ?_;let y6:Env:=(14,.ptr (.agg [I6 x1.qb,I6 x1.qh,I6 x1.qi]))::y5;refine WO.fi [0,3,4,12,14,66,67,68] [14] (e2:=z20 y6) ?_;refine W.seq<|W.join (σ:=((List Int))) (fun s=>z2 ((12,l3 (some 11200) s)::y6)) (fun s=>(jz a1 x1 (qH a1 (jb fuel w5) r1 (k1+1))) s=some r) (fun v29 h=>?_) (fun hK26=>?_)
   ·unfold jz at h;refine W.seq ?_;let z21:=fun t=>z2 ((12,l3 (some 11200) v29)::(66,l44 none w5.1)::(67,I6 (w5.1.length:Int))::t);let z22:=fun t=>z21 ((68,I6 (k1:Int))::t);refine W.join (σ:=(Bool)) (fun s=>z22 [(89,.bool s)]) (fun s=>(Ja v29 (qH a1 (jb fuel w5) r1 (k1+1))) s=some r) (fun v33 h=>?_) (fun hK30=>?_)
    ·unfold Ja at h;refine W.ch v33 h (fun h=>?_) (fun h=>?_)
     ·refine W.seq<|W.rt (e2:=[(2,.bool false)]) ?_;refine W.wk (e:=[(2,.bool false)]) ?_;cases h;exact W.rr
     refine W.skip ?_;let z23:=fun t=>z2 ((12,l3 (some 11200) v29)::t);refine W.wk (e:=z23 y5)<|W.rg<|WO.pq 0 (jI (qX hl1 hk1)) (e1:=z22 [(90,I6 ((k1+1:Nat):Int))])<|WO.fn (e2:=z21 [(68,I6 ((k1+1:Nat):Int))]) ?_;exact hN1 v29 h
    refine W.rg ?_;let z24:=fun t=>z2 ((12,l3 (some 11200) v29)::(14,.ptr (.agg [I6 x1.qb,I6 x1.qh,I6 x1.qi]))::(66,l44 none w5.1)::(67,I6 (w5.1.length:Int))::(68,I6 (k1:Int))::(80,.ptr (I6 x1.qh))::(81,I6 x1.qh)::t);refine WO.bh 4 (fun b=>z24 [(82,.bool b),(83,.bool b)]) (x1.qh != 3) h (fun h=>?_) (fun h=>?_)
    ·obtain⟨w31,hw31,h⟩:=qj h;let z25:=fun t=>z24 ((82,.bool true)::(83,.bool true)::(84,l43 none a1)::(85,l44 none w31)::t);refine WO.ck 1 (F:=18) (l:=[l43 none a1]) (C:=[]) (r:=l44 (some 1) w31) (NG a1 w31 hw31) (e1:=z25 []) ?_;obtain⟨w32,hw32,h⟩:=qj h;refine WO.ck 1 (F:=38) (l:=[l44 none w31,.agg [I6 x1.qb,I6 x1.qh,I6 x1.qi]]) (C:=[]) (r:=.bool w32) (XA w31 x1 w32 hw32) (e1:=z25 [(86,.agg [I6 x1.qb,I6 x1.qh,I6 x1.qi]),(87,.bool w32)])<|WO.fn (e2:=z22 [(89,.bool (!w32))]) ?_;exact hK30 (!w32) h
    refine WO.fn (e2:=z22 [(89,.bool false)]) ?_;exact hK30 false h
   refine W.seq<|W.rt (e2:=z20 [(14,.ptr (.agg [I6 x1.qb,I6 x1.qh,I6 x1.qi])),(66,l44 none w5.1),(67,I6 (w5.1.length:Int)),(68,I6 (k1:Int)),(74,.bool (x1.qh == 2))]) ?_;refine W.ch (x1.qh == 2) h (fun h=>?_) (fun h=>?_)
   ·refine W.rg ?_;obtain⟨hc28,h⟩:=qp h;refine WO.appendK 4 (d:=79) (e:=3) (s:=1) (bytes:=8) (xs:=(M6 v23)) (ys:=(M6 [x1.qb])) (zs:=(M6 (v23++[x1.qb]))) (env1:=[(0,l43 none a1),(3,l44 none w5.1),(4,l3 none w5.2.1),(12,l3 none v23),(14,.ptr (.agg [I6 x1.qb,I6 x1.qh,I6 x1.qi])),(66,l44 none w5.1),(67,I6 (w5.1.length:Int)),(68,I6 (k1:Int)),(74,.bool (x1.qh == 2)),(75,l3 none v23),(76,.ptr (I6 x1.qb)),(77,I6 x1.qb),(78,l3 (some 78) [x1.qb])]) (by kernel_rfl) (List.map_append.symm) (by rw[A4];exact hc28) (e1:=z2 [(12,l3 none v23),(14,.ptr (.agg [I6 x1.qb,I6 x1.qh,I6 x1.qi])),(66,l44 none w5.1),(67,I6 (w5.1.length:Int)),(68,I6 (k1:Int)),(74,.bool (x1.qh == 2)),(75,l3 none v23),(76,.ptr (I6 x1.qb)),(77,I6 x1.qb),(78,l3 (some 78) [x1.qb]),(79,l3 (some 79) (v23++[x1.qb]))]) (by kernel_rfl) ?_;refine WO.fin [0,3,4,12,14,66,67,68] [] [] [(79,some 11200)] (e2:=z2 ((12,l3 (some 11200) (v23++[x1.qb]))::y6)) (by kernel_rfl) (fun _ h=>h) ?_;exact hK26 (v23++[x1.qb]) h
   refine W.sw (e:=z20 y6) ?_;exact hK26 v23 h
 refine W.rg ?_;obtain⟨w17,hw17,h⟩:=qj h;let z26:=fun t=>z10 ((51,l44 none w5.1)::(52,.bool w17)::t);refine WO.ck 1 (F:=26) (l:=[l44 none w5.1]) (C:=[]) (r:=.bool w17) (XK w5.1 w17 hw17) (e1:=z26 [])<|WO.bh 2 (fun b=>z26 [(53,.bool b),(54,.bool b)]) (!w17) h (fun h=>?_) (fun h=>?_)
 ·refine WO.fn (e2:=z2 [(65,.bool true)]) ?_;exact hK16 true h
 let z27:=fun t=>z26 ((53,.bool false)::(54,.bool false)::(55,.bool w12.2.2.1)::t);refine WO.bh 4 (fun b=>z27 [(56,.bool b),(57,.bool b),(58,.bool b)]) (!w12.2.2.1) h (fun h=>?_) (fun h=>?_)
 ·refine WO.fn (e2:=z2 [(65,.bool true)]) ?_;exact hK16 true h
 refine WO.bh 4 (fun b=>z27 [(56,.bool false),(57,.bool false),(58,.bool false),(59,I6 w12.2.2.2),(60,.bool b),(61,.bool b),(62,.bool b)]) (w12.2.2.2 != 0) h (fun h=>?_) (fun h=>?_)
 ·refine WO.fn (e2:=z2 [(65,.bool true)]) ?_;exact hK16 true h
 refine WO.fn (e2:=z2 [(65,.bool (w14.2 != 0))]) ?_;exact hK16 (w14.2 != 0) h
theorem NW {o:hsOp} (K:Option Int):∀ (l:List hsOp) (k:Nat),o∈l→∃ j:Nat,jl o K l k=some (j:Int)
 | [],_,h=>by cases h
 | x::l,k,h=>by
  rw[jl.eq_2]
  cases hc:((o.qb == x.qb) && ((o.qh == x.qh) && ((o.qi == x.qi) && true))) with
  | true=>exact⟨k,rfl⟩
  | false =>
   rcases List.mem_cons.1 h with h1 | h1
   ·subst h1;simp at hc
   ·exact NW K l (k+1) h1
theorem Vg {o:hsOp} {l:List hsOp} (hl:l.length≤100000) (h:o∈l):JD l o=some true:=by
 unfold JD JW;rw[jt (by omega),qx];obtain⟨j,e⟩:=NW (JB) l 0 h;rw[e,A0];simp
theorem qeo (K:List rf5Op→Option (List rf5Op)):∀ (l:List hsOp) (k:Nat) (v:List rf5Op),v.length+l.length≤1000→JZ K l k v=K (v++l.map uv)
 | [],k,v,_=>by rw[JZ.eq_1];simp
 | x::l,k,v,h=>by
  rw[JZ.eq_2];simp only[D1]at h;rw[capS (by omega) (by rw[A9,C4];omega),qx,qeo K l (k+1) _ (by rw[A9,C4];omega)];simp[uv]
theorem qfc {l:List hsOp} (hl:l.length≤1000):VJ l=some (l.map uv):=by
 unfold VJ;rw[jt (by omega),qx,qeo _ l 0 [] (by simpa using hl)];rfl
theorem qbK (c:List Int) (K:Bool→Option Bool):∀ (r:List Int) (k:Nat) (v:Bool) (pre post:List Int),c=pre++post→pre.length=k→r.length=post.length→qZ c K r k v=K (v && decide (post=r))
 | [],k,v,pre,post,_,_,hl=>by
  rw[qZ.eq_1,C9 hl.symm];simp
 | x::r,k,v,pre,[],_,_,hl=>by simp at hl
 | x::r,k,v,pre,y::post,he,hk,hl=>by
  rw[qZ.eq_2]
  have ih:=fun v=>qbK c K r (k+1) v (pre++[y]) post (by rw[he];simp) (by simp[hk]) (by simpa using hl)
  have hi:idx c (k:Int)=some y:=qcA (by rw[he,← hk];simp);unfold JG;rw[hi];simp only[A0,ih]
  cases v with
  | false=>simp
  | true =>
   by_cases h1:y=x
   ·subst h1;simp
   ·have e1:(y == x)=false:=beq_eq_false_iff_ne.2 h1;rw[e1];simp[h1]
theorem qbL {l:List rf5Op} (H:Hist l) {c:List Int} (hc6:c.length≤6) (hcr:∀ y,y∈c→0≤y∧y≤6) (hag:agreesB (confL (partL l)) c=true):∀ (ps:List (List Int)) (k:Nat),(∀ p,p∈ps→p.length=c.length)→c∈ps→ja l c ji ps k=some true
 | [],_,_,h=>by cases h
 | p::ps,k,hp,hm=>by
  rw[ja.eq_2];have hpl:=hp p (.head _)
  have e1:((p.length:Int) == (c.length:Int))=true:=by rw[hpl];simp
  rw[jt (by omega),qx,e1,qbK c _ p 0 true [] c rfl rfl hpl,C6];unfold jr;by_cases he:c=p
  ·rw[dT he];obtain⟨w,h1,h2,h3⟩:=qdt H;rw[h1];simp only[A0,cond_true];rw[qbj h2 (by omega) hcr,A0];rw[Ue (F:=confL (partL l)) (fun a b ha hb=>h3 a b (hcr a ha) (hcr b hb)),hag]
  ·rw[decide_eq_false he];simp only[cN];exact qbL H hc6 hcr hag ps (k+1) (fun q hq=>hp q (.tail _ hq)) ((List.mem_cons.1 hm).resolve_left he)
theorem qdO {l:List rf5Op} (hv:validB l=true) {c:List Int} (hp:c.Perm (commL l)) (hag:agreesB (confL (partL l)) c=true):Qz bigFuel l c=some true:=by
 obtain⟨H,h40⟩:=Yo hv;have h6:=UA l;have e:bigFuel=36893488147419103231+1:=rfl;have hpm:∀ p,p∈permsF (commL l).length (commL l)↔p.Perm (commL l):=YC (QC l) (A3 _);have hlen:=YB (commL l).length (commL l) (A3 _);have hfac:=qeF h6
 have hcm:∀ y,y∈c→0≤y∧y≤6:=fun y hy=>by
  have:=(YG.1 (hp.mem_iff.1 hy)).1;omega
 have hcl:c.length≤6:=by rw[hp.length_eq];exact h6
 unfold Qz;rw[qdu H,A0,e,Do _ _ (QC l) (by omega) h6,A0];have hx:permsF 36893488147419103231 (commL l)=permsF 36893488147419103231 (commL l):=rfl;have hpm2:∀ p,p∈permsF 36893488147419103231 (commL l)↔p.Perm (commL l):=YC (QC l) (by omega);have hlen2:=(YB 36893488147419103231 (commL l) (by omega)).1;rw[jt (by omega),qx];exact qbL H hcl hcm hag _ 0 (fun p hq=>by rw[((hpm2 p).1 hq).length_eq,hp.length_eq]) ((hpm2 c).2 hp)
theorem qdP {pre:List hsOp} {s:LS} (hj:JJ pre s) {o:hsOp} (ho:o∈s.done) (hk:o.qh≠3):o∈pre:=by
 have hm:o∈ofT o.qb s.done:=List.mem_filter.2 ⟨ho,by simp⟩
 have hsub:∀ y,y∈ofT o.qb pre→y∈pre:=fun y hy=>(List.mem_filter.1 hy).1
 rcases hj o.qb with ⟨_,h2⟩ | ⟨_,_,D,w,E,h3,h4⟩
 ·exact hsub o (by rw[h2];exact B7 _ hm)
 ·rw[h3]at hm
  rcases List.mem_append.1 hm with h | h
  ·exact hsub o (by rw[h4];exact B7 _ h)
  ·rw[List.mem_singleton.1 h]at hk;exact absurd rfl hk
theorem qfl {pre:List hsOp} {s:LS} (hj:JJ pre s) (hv:VH s.done) {t:Int} (ht:t∈s.ab):(⟨t,3,0⟩:hsOp)∈s.done∧t ∉ commits s.done:=by
 rcases hj t with ⟨h1,_⟩ | ⟨_,_,D,w,E,h3,_⟩
 ·exact absurd ht h1
 ·have hm:(⟨t,3,0⟩:hsOp)∈ofT t s.done:=by rw[h3];simp
  refine⟨(List.mem_filter.1 hm).1,fun hc=>?_⟩;unfold commits at hc;obtain⟨o,ho,hot⟩:=List.mem_map.1 hc;obtain⟨ho,hk⟩:=List.mem_filter.1 ho
  have hk:o.qh=2:=by simpa using hk
  have hom:o∈ofT t s.done:=List.mem_filter.2 ⟨ho,by simpa using hot⟩;obtain⟨_,_,_,hD⟩:=hv.ofT (t:=t) (p:=D) (o:=⟨t,3,0⟩) (q:=[]) h3;rw[h3]at hom
  rcases List.mem_append.1 hom with h | h
  ·have:=hD o h;omega
  ·rw[List.mem_singleton.1 h]at hk;have hk:(3:Int)=2:=hk;omega
theorem Dy {h:List rf5Op} (hl:lenOk h=true) (K:List Int→Option Bool):∀ (r:List hsOp) (k:Nat) (v:List Int),v.length+r.length≤1000→(∀ o,o∈r→o.qh≠3→o∈(h.take 43).map cv)→qH h K r k v=K (v++commits r)
 | [],k,v,_,_=>by rw[qH.eq_1];simp[commits]
 | x::r,k,v,hv,hm=>by
  rw[qH.eq_2];simp only[D1]at hv
  have h26:∀ (N:List Int→Option Bool) (u:List Int),jz h x N u=N u:=by
   intro N u;unfold jz Ja;by_cases hk:x.qh=3
   ·rw[hk];rfl
   ·have:(x.qh != 3)=true:=bne_iff_ne.2 hk;rw[this];simp only[cond_true];rw[qer hl,A0,Vg (by rw[A4,D3];omega) (hm x (.head _) hk),A0];rfl
  have ih:=fun u hu=>Dy hl K r (k+1) u hu (fun o ho=>hm o (.tail _ ho))
  cases hk:(x.qh == 2) with
  | true =>
   have e:commits (x::r)=x.qb::commits r:=by unfold commits;rw[List.filter_cons,hk];rfl
   simp only[cond_true];rw[capS (by omega) (by rw[A9,C4];omega),qx,h26,ih _ (by rw[A9,C4];omega),e];simp
  | false =>
   have e:commits (x::r)=commits r:=by unfold commits;rw[List.filter_cons,hk];rfl
   simp only[cN];rw[h26,ih _ (by omega),e]
theorem Dx {w5:List hsOp×List Int×Int} {c:List Int} (hd:w5.1.length≤1000) (hc:c.length≤1000) (K:Option Bool):∀ (r:List Int) (k:Nat),(∀ t,t∈r→(⟨t,3,0⟩:hsOp)∈w5.1∧t ∉ c)→qV w5 c K r k=K
 | [],k,_=>by rw[qV.eq_1]
 | t::r,k,h=>by
  rw[qV.eq_2];obtain⟨h1,h2⟩:=h t (.head _)
  have hf:c.contains t=false:=by simpa using h2
  rw[Ze (by omega),A0,hf];simp only[cN];rw[Vg (by omega) h1,A0];unfold jZ;simp only[Bool.not_true,cN]
  exact Dx hd hc K r (k+1) fun u hu=>h u (.tail _ hu)
theorem Vq {h:List rf5Op} (hl:lenOk h=true):Qv bigFuel h=some true:=by
 unfold Qv qaw;rw[qer hl,A0,DT]
 cases hv:validB h with
 | false =>
  rw[qat hv];rfl
 | true =>
  obtain⟨H,h40⟩:=Yo hv;rw[A8 (by omega)];obtain⟨s,e,hk,hi,hj⟩:=qcy hv;have hdv:=qcG hv hk hj;have hV:VH s.done:=hj.valid (qeU hv)
  have hlen:s.done.length≤40:=by have:=hk.ok.tot;omega
  have hal:=hk.ok.abl
  have ho:∀ o,o∈s.done→OkOp o:=fun o hm=>by
   obtain⟨p,q,e⟩:=List.append_of_mem hm;exact (hV p o q e).1
  obtain⟨oo,hord⟩:=qcC hi.good hV ho hdv
  have h43:((s.done.map uv).take 43).map cv=s.done:=by rw[A8 (by rw[A4];omega),qeJ]
  have hrec:=qao (s.done.map uv);rw[h43,hdv,if_pos rfl,qbG hi.good hV ho]at hrec;have hor:=qdz (s.done.map uv);rw[h43,hord]at hor
  have hva:QB s.done=some true:=by
   have:=YK (h:=s.done.map uv);rw[h43,hdv]at this;exact this
  have hcl:(commits s.done).length≤1000:=by
   unfold commits;rw[A4];exact B6 (C7 _ _) (by omega)
  rw[e,A0];simp only[hrec,hor,hva,A0]
  have hfin:jf bigFuel h (s.done,s.ab,0) false=some true:=by
   unfold jf;simp only[cN];rw[jt (by omega),qx,Dy hl _ s.done 0 [] (by simp;omega) (fun o hom hk3=>by rw[A8 (by omega)];exact qdP hj hom hk3),D2];unfold jb;rw[jt (by show s.ab.length≤_;omega),qx,Dx (by show s.done.length≤_;omega) hcl _ s.ab 0 (fun t ht=>qfl hj hV ht)];unfold jy;rw[qfc (by show s.done.length≤_;omega),A0,qdO hdv (VX hV ho) (UQ hi.good hV ho),A0,DT];rfl
  exact hfin
end Go.AM
namespace Go.AM
open Go.Proofs Go.Proofs.Ytoiejpkfpjingaa Go.ChangeShapes Go.WideShapes Go.ChangeAt Go.RowKit
theorem readsOp:Reads Try.prog 43 Ji (fun _=>True) :=
 qap (P := Try.prog) (size := 3) (fs := #[Field.mk "Txn" 3 0 false "" "" 0, Field.mk "Kind" 3 1 false "" "" 8, Field.mk "Item" 3 2 false "" "" 16]) (fun b : Int × Int × Int × Unit => (⟨b.1, b.2.1, b.2.2.1⟩ : rf5Op)) (by kernel_rfl) (by kernel_rfl)
  (Zb (f:=AV.int .i64) (ok:=fun n=>(Lit.int .i64 n).wf=true) (n:=1) (off':=1) rfl (by kernel_rfl) rfl (Us (k:=.i64) (by kernel_rfl)) (Zb (f:=AV.int .i64) (ok:=fun n=>(Lit.int .i64 n).wf=true) (n:=1) (off':=2) rfl (by kernel_rfl) rfl (Us (k:=.i64) (by kernel_rfl)) (Zb (f:=AV.int .i64) (ok:=fun n=>(Lit.int .i64 n).wf=true) (n:=1) (off':=3) rfl (by kernel_rfl) rfl (Us (k:=.i64) (by kernel_rfl)) (qbI rfl))))
  (fun b=>rfl) (fun b h=>trivial)
theorem qds:Reads Try.prog 23 (encL 43 3 Ji) (fun l=>l.length≤maxLen∧∀ d,d∈l→True) :=
 qbh (by kernel_rfl) (by kernel_rfl) (by decide) readsOp (fun _=>rfl) (fun _=>rfl)
theorem qdI {α:Type} {l:List α} (h:l.length≤maxLen):lenOk l=true:=Nat.ble_eq_true_of_le (by unfold maxLen at h;omega)
theorem own:ownKnob Try.prog.godebug=none:=by kernel_rfl
theorem mixed:Try.prog.follows .mixedOrders=true:=by kernel_rfl
theorem laid:laidOutB Try.prog=true:=by kernel_rfl
end Go.AM
