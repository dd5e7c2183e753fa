import Derived.Test.YtoiejpkfpjingaaEVo
import Derived.Test.YtoiejpkfpjingaaASimM
import Derived.Ground.SlsfProg
import Derived.Shelf.SlSortCmp.NoneTotal
import Derived.Test.YtoiejpkfpjingaaProg
import Derived.WalkKit
import Derived.BigCall
import Derived.Deep.QuietTactic
import Derived.BigQuiet
import Derived.OneCell
import Derived.Sort.Grow
import Derived.Test.YtoiejpkfpjingaaKAT
import Derived.Deep.RegionHeld3
import Derived.Test.YtoiejpkfpjingaaChecked
import Derived.Test.YtoiejpkfpjingaaEPerm
import Derived.Test.YtoiejpkfpjingaaEView
set_option linter.all false
set_option maxRecDepth 100000
open List renaming getElem_toArray→A0, getElem_cons_succ→A1, getElem_cons_zero→A2, setIfInBounds_toArray→A3, set_cons_zero→A4, set_cons_succ→A5, filter_cons_of_neg→A6, filter_cons_of_pos→A7, pairwise_cons→B3, pairwise_append→B8, getElem?_eq_getElem→C7
open Go.World renaming cell?→A8
open Go.IntKind renaming i64→A9
open Bool renaming and_eq_true→B4, eq_iff_iff→B5, or_eq_false_iff→B7
open Nat renaming eq_of_beq_eq_true→B6
open Array renaming getElem?_eq_getElem→D0, getElem?_modify→D1
namespace Go.AM
open Go.Proofs
theorem qbV (P:List Int→Bool) {l:List Int} (hl:l.Nodup):∀ (n:Nat) (o:List Int),(l.filter fun y=>!o.contains y).length=n→dfs P l n o=((permsF n (l.filter fun y=>!o.contains y)).find? fun p=>P (o++p)).map (o++·)
  | 0,o,h=>by
    rw[List.length_eq_zero_iff.1 h];show (bif P o then some o else none)=(List.find? _ [[]]).map _;simp only[List.find?_cons,List.append_nil,List.find?_nil];cases P o <;> simp
  | n+1,o,h=>by
    have e2:permsF (n+1) (l.filter fun y=>!o.contains y)=(l.filter fun y=>!o.contains y).flatMap fun y=>(permsF n ((l.filter fun y=>!o.contains y).erase y)).map (y::·):=by
      cases hF:l.filter fun y=>!o.contains y with
      | nil=>rw[hF]at h;cases h
      | cons x r=>rfl
    rw[e2,List.find?_flatMap,ZF,Xh]
    refine Xy fun x hx=>?_
    cases hc:o.contains x with
    | true=>rfl
    | false =>
      have hxm:x∈l.filter fun y=>!o.contains y:=List.mem_filter.2 ⟨hx,by rw[hc];rfl⟩
      have hlen:(l.filter fun y=>!(o++[x]).contains y).length=n:=by
        rw[← YT hl x,List.length_erase_of_mem hxm,h];rfl
      have ih:=qbV P hl n (o++[x]) hlen;simp only[cN,Bool.not_false,if_true];rw[ih,ZE,YT hl]
      have e3:(fun p=>P (o++[x]++p))=fun p=>P (o++x::p):=by funext p;simp
      rw[e3];cases (permsF n (l.filter fun y=>!(o++[x]).contains y)).find? (fun p=>P (o++x::p)) <;> simp
theorem UY (P:List Int→Bool) {l:List Int} (hl:l.Nodup):dfs P l l.length []=(permsF l.length l).find? P:=by
  have h0:(l.filter fun y=>!([]:List Int).contains y)=l:=by simp
  have:=qbV P hl l.length [] (by rw[h0]);rw[this,h0]
  cases hf:(permsF l.length l).find? (fun p=>P ([]++p)) with
  | none=>simpa using hf.symm
  | some x=>simpa using hf.symm
def goodB (x:rf5Op):Bool:=!bad6 x && !(decide (x.qi > 1) && (x.qj != 0))
theorem Ub (t:Int) (pre:List rf5Op) (x:rf5Op):ended t (pre++[x])=(ended t pre || ((x.qg == t) && decide (x.qi > 1))):=by
 unfold ended;rw[List.any_append];simp
theorem Hi:∀ (r pre:List rf5Op),okFrom pre r=true↔(∀ x,x∈r→goodB x=true∧ended x.qg pre=false)∧r.Pairwise fun x y=>¬ (x.qg=y.qg∧x.qi > 1)
 | [],pre=>by simp[okFrom]
 | x::r,pre=>by
  have e:okFrom pre (x::r)=((!bad6 x && (!(decide (x.qi > 1) && (x.qj != 0)) && !ended x.qg pre)) && okFrom (pre++[x]) r):=rfl;rw[e,B4,Hi r (pre++[x]),B3]
  have e2:(!bad6 x && (!(decide (x.qi > 1) && (x.qj != 0)) && !ended x.qg pre))=(goodB x && !ended x.qg pre):=by unfold goodB;rw[Bool.and_assoc]
  rw[e2];constructor
  ·rintro⟨h1,h2,h3⟩
   rw[B4,Bool.not_eq_true']at h1;refine⟨fun y hy=>?_,?_,h3⟩
   ·rcases List.mem_cons.1 hy with rfl | hy
    ·exact h1
    ·have:=(h2 y hy).2;rw[Ub,B7]at this;exact⟨(h2 y hy).1,this.1⟩
   ·intro y hy hc;have:=(h2 y hy).2;rw[Ub,B7]at this;simp[hc.1,hc.2]at this
  ·rintro⟨h1,h2,h3⟩
   refine⟨?_,fun y hy=>⟨(h1 y (by simp[hy])).1,?_⟩,h3⟩
   ·rw[B4,Bool.not_eq_true'];exact h1 x (by simp)
   ·rw[Ub,(h1 y (by simp[hy])).2,Bool.false_or,Bool.and_eq_false_iff];have:=h2 y hy;by_cases he:x.qg=y.qg
    ·right;rw[decide_eq_false_iff_not];exact fun hk=>this ⟨he,hk⟩
    ·left;simpa using he
theorem Vr (h:List rf5Op):validB h=true↔(∀ x,x∈h→goodB x=true)∧(h.Pairwise fun x y=>¬ (x.qg=y.qg∧x.qi > 1))∧h.length≤40:=by
 unfold validB;rw[B4,decide_eq_true_eq,Hi,and_assoc];refine and_congr ⟨fun h x hx=>(h x hx).1,fun h x hx=>⟨h x hx,rfl⟩⟩ Iff.rfl
theorem Xo {h:List rf5Op} (hv:validB h=true) (P:rf5Op→Bool):validB (h.filter P)=true:=by
 rw[Vr]at *;exact⟨fun x hx=>hv.1 x (List.mem_filter.1 hx).1,List.Pairwise.filter _ hv.2.1,Nat.le_trans (List.length_filter_le _ _) hv.2.2⟩
theorem NQ (t k:Int):∀ (l:List rf5Op) (i:Nat),endL t k l i ≥ 0↔∃ x,x∈l∧x.qg=t∧x.qi=k
 | [],i=>by simp[endL]
 | x::l,i=>by
  have e:endL t k (x::l) i=bif (x.qg == t) && (x.qi == k) then (i:Int) else endL t k l (i+1):=rfl;rw[e];by_cases hx:x.qg=t∧x.qi=k
  ·have:((x.qg == t) && (x.qi == k))=true:=by simp[hx]
   rw[this,cT];exact⟨fun _=>⟨x,by simp,hx⟩,fun _=>by omega⟩
  ·have:((x.qg == t) && (x.qi == k))=false:=by simpa using hx
   rw[this,cN,NQ t k l (i+1)];constructor
   ·rintro⟨y,hy,h⟩;exact⟨y,by simp[hy],h⟩
   ·rintro⟨y,hy,h⟩
    rcases List.mem_cons.1 hy with rfl | hy
    ·exact absurd h hx
    ·exact⟨y,hy,h⟩
def doneB (h:List rf5Op) (t:Int):Bool:=decide (endL t 2 h 0 ≥ 0)
theorem QW {h:List rf5Op} {t:Int}:doneB h t=true↔∃ x,x∈h∧x.qg=t∧x.qi=2:=by
 unfold doneB;rw[decide_eq_true_eq,NQ]
theorem Xm (h:List rf5Op):partL h=h.filter fun x=>doneB h x.qg:=rfl
theorem VA (h:List rf5Op):commL h=([1,2,3,4,5,6]:List Int).filter (doneB h):=rfl
theorem qab (h:List rf5Op):doneB (partL h)=doneB h:=by
 funext t
 rw[B5,QW,QW];constructor
 ·rintro⟨x,hx,h1,h2⟩;exact⟨x,(List.mem_filter.1 hx).1,h1,h2⟩
 ·rintro⟨x,hx,h1,h2⟩
  exact⟨x,List.mem_filter.2 ⟨hx,by rw[h1];exact QW.2 ⟨x,hx,h1,h2⟩⟩,h1,h2⟩
theorem QX (h:List rf5Op):commL (partL h)=commL h:=by rw[VA,qab,← VA]
theorem UT (h:List rf5Op):partL (partL h)=partL h:=by
 rw[Xm (partL h),qab]
 exact List.filter_eq_self.2 fun x hx=>(List.mem_filter.1 hx).2
theorem qcJ {h:List rf5Op} (hv:validB h=true):orderR (partL h)=orderR h:=by
 unfold orderR;rw[UT,QX,hv,show validB (partL h)=true from Xo hv _]
theorem qda {h:List rf5Op} (hv:validB h=true):cycleR (partL h)=cycleR h:=by
 unfold cycleR;rw[UT,QX,hv,show validB (partL h)=true from Xo hv _]
theorem qdG {h:List rf5Op} (hv:validB h=true):viewR (partL h)=viewR h:=by
 unfold viewR;rw[UT,QX,hv,show validB (partL h)=true from Xo hv _]
theorem Sw.perm {l m:List rf5Op} (h:Sw l m):l.Perm m:=by
 induction h with
 | refl l=>exact .refl _
 | swap a b x y h=>exact List.Perm.append_left a (List.Perm.swap y x b)
 | trans _ _ h1 h2=>exact h1.trans h2
theorem Sw.filter {l m:List rf5Op} (h:Sw l m) (P:rf5Op→Bool):Sw (l.filter P) (m.filter P):=by
 induction h with
 | refl l=>exact .refl _
 | swap a b x y h =>
  rw[List.filter_append,List.filter_append];cases hx:P x <;> cases hy:P y
  ·rw[A6 (by simp[hx]),A6 (by simp[hy]),A6 (by simp[hy]),A6 (by simp[hx])];exact .refl _
  ·rw[A6 (by simp[hx]),A7 hy,A7 hy,A6 (by simp[hx])];exact .refl _
  ·rw[A7 hx,A6 (by simp[hy]),A6 (by simp[hy]),A7 hx];exact .refl _
  ·rw[A7 hx,A7 hy,A7 hy,A7 hx];exact .swap _ _ _ _ h
 | trans _ _ h1 h2=>exact h1.trans h2
theorem Sw.done {l m:List rf5Op} (h:Sw l m):doneB l=doneB m:=by
 funext t
 rw[B5,QW,QW];constructor
 ·rintro⟨x,hx,h1⟩;exact⟨x,h.perm.mem_iff.1 hx,h1⟩
 ·rintro⟨x,hx,h1⟩;exact⟨x,h.perm.mem_iff.2 hx,h1⟩
theorem Sw.valid {l m:List rf5Op} (h:Sw l m):validB l=validB m:=by
 rw[B5,Vr,Vr];refine and_congr ⟨fun g x hx=>g x (h.perm.mem_iff.2 hx),fun g x hx=>g x (h.perm.mem_iff.1 hx)⟩ (and_congr ?_ (by rw[h.perm.length_eq]))
 induction h with
 | refl l=>exact Iff.rfl
 | swap a b x y h =>
  have:=(ZT.1 h).1
  have h2:¬ y.qg=x.qg:=fun e=>this e.symm
  rw[B8,B8,B3,B3,B3,B3];simp only[List.mem_cons,forall_eq_or_imp];constructor
  ·rintro⟨p1,⟨⟨p2,p3⟩,p4,p5⟩,p6⟩
   exact⟨p1,⟨⟨fun e=>h2 e.1,p4⟩,p3,p5⟩,fun z hz=>⟨(p6 z hz).2.1,(p6 z hz).1,(p6 z hz).2.2⟩⟩
  ·rintro⟨p1,⟨⟨p2,p3⟩,p4,p5⟩,p6⟩
   exact⟨p1,⟨⟨fun e=>this e.1,p4⟩,p3,p5⟩,fun z hz=>⟨(p6 z hz).2.1,(p6 z hz).1,(p6 z hz).2.2⟩⟩
 | trans _ _ h1 h2=>exact h1.trans h2
theorem Sw.part {l m:List rf5Op} (h:Sw l m):Sw (partL l) (partL m):=by
 rw[Xm,Xm,h.done];exact h.filter _
theorem Sw.comm {l m:List rf5Op} (h:Sw l m):commL l=commL m:=by rw[VA,VA,h.done]
theorem qeL (h:List rf5Op):(viewR h).1.length≤100:=by
 unfold viewR;split
 ·rw[UY _ (Qq h)];split
  ·rename_i o ho;have hm:=List.mem_of_find?_eq_some ho;have:=((Uj (Qq h) (Nat.le_refl _) o).1 hm).length_eq;have:=Jv h;simp only;omega
  ·simp
 ·simp
end Go.AM
namespace Go.AM
open Go.RowKit
variable {P:Program} {n:Nat} {K V:Type} {F:K→AV} {G:V→AV} {eq:K→K→Bool}
inductive AllP {α:Type} (q:α→Prop):List α→Prop where
 | nil:AllP q []
 | cons {a l}:q a→AllP q l→AllP q (a::l)
theorem AllP.mem {α:Type} {q:α→Prop}:∀ {l:List α},AllP q l→∀ x,x∈l→q x
 | _,.nil,x,h=>by cases h
 | _,.cons h t,x,hx=>by
  rcases List.mem_cons.1 hx with rfl | hx
  ·exact h
  ·exact t.mem x hx
def stepA (P:Program) (n:Nat) (all:List Oper) (env:Env) (k:Nat):Option Env :=
 match all[k]? with
 | some o=>match awanted all o env with
  | some true=>astep P n o env
  | _=>none
 | none=>none
def lkE:List (Nat×Env)→Nat→Env
 | [],_=>[]
 | p::r,k=>match Nat.beq p.1 k with
  | true=>p.2
  | false=>lkE r k
theorem qdx:∀ {l:List (Nat×Env)} {k:Nat},k∈l.map (·.1)→∃ p,p∈l∧p.1=k∧lkE l k=p.2
 | [],k,h=>by cases h
 | p::r,k,h=>by
  unfold lkE
  cases hb:Nat.beq p.1 k with
  | true=>exact⟨p,List.mem_cons_self ..,B6 hb,rfl⟩
  | false =>
   rw[List.map_cons,List.mem_cons]at h
   rcases h with rfl | h
   ·rw[Nat.beq_refl]at hb;cases hb
   ·obtain⟨q,h1,h2,h3⟩:=qdx h;exact⟨q,List.mem_cons_of_mem _ h1,h2,h3⟩
theorem Run.anyL {all:List Oper} {R:List Nat} {env e1:Env} (l:List (Nat×Env)) (hne:R.isEmpty=false) (h0:R.filter (readyR all R)=l.map (·.1)) (hs:AllP (fun p=>stepA P n all env p.1=some p.2) l) (hr:AllP (fun p=>Run P (.any n all (R.erase p.1) p.2 e1)) l):Run P (.any n all R env e1):=by
 have key:∀ k,k∈R→readyR all R k=true→∃ p,p∈l∧p.1=k∧lkE l k=p.2:=fun k hk hd=>qdx (by rw[← h0];exact List.mem_filter.2 ⟨hk,hd⟩)
 refine .anyStep (lkE l) (fun e=>by rw[e]at hne;cases hne) (fun k o hk ho hd=>?_) (fun k hk hd=>?_)
 ·obtain⟨p,h1,rfl,h3⟩:=key k hk hd;have:=hs.mem p h1;unfold stepA at this;rw[ho]at this;simp only at this;split at this
  ·rename_i hw;rw[h3];exact .op hw this .nil
  ·cases this
 ·obtain⟨p,h1,rfl,h3⟩:=key k hk hd;rw[h3];exact hr.mem p h1
theorem W.regionA {id:Nat} {ops:Array Oper} {Q:Ex→Env→Prop} {env e1:Env} (hb:jZ ops=true) (h:Run P (.any n ops.toList (List.range ops.size) env e1)) (hq:WO P n false ops.toList [] (Q .normal) e1):W P n (.region id ops true) Q env:=by
 obtain⟨e2,h1,h2⟩:=hq;exact⟨_,e2,.regionA hb h h1,h2⟩
theorem YW {all:List Oper} {env:Env} {id kt k:Nat} {l:List (K×V)} {a:K} {b:V} (hk:(F a).keyV.isSome=true) (hn:Nat.blt l.length 1000000000=true) (hf:∀ x,keyFits P kt (F x)=true) (he:∀ x y,akeq (F x) (F y)=eq x y)
  (hp:(match all[k]? with | some o=>mupPre P all o env | none=>none)=some (id,kt,F a,G b,l.map (fun p=>F p.1),l.map (fun p=>G p.2))):stepA P n all env k=some (ins id (hobE F G (mset eq a b l)) env):=by
 unfold stepA
 cases hk0:all[k]? with
 | none=>rw[hk0]at hp;cases hp
 | some o =>
  rw[hk0]at hp;simp only[mupPre]at hp
  split at hp <;> try cases hp
  rename_i hw
  split at hp <;> try cases hp
  rename_i t m k0 v0 ho
  split at hp <;> try cases hp
  rename_i id' k' v' kt' e' hd hm hk' hv ht
  split at hp <;> try cases hp
  rename_i ks vs hel hl;simp only[Option.some.injEq,Prod.mk.injEq]at hp;obtain⟨rfl,rfl,rfl,hb,rfl,rfl⟩:=hp;simp only[hw];unfold astep;rw[ho];simp only[hd,hm,hk',hv,ht,hl];rw[hf,hk,Us hf,hel,List.length_map,hn];simp only[Bool.and_self];unfold hobE
  rcases Zi (G:=G) he a b l with ⟨j,g1,g2,g3⟩ | ⟨g1,g2,g3⟩
  ·rw[g1,g2,g3,hb]
  ·rw[g1,g2,g3,hb]
inductive AQ (q:Nat→Env→Prop):List (Nat×Env)→Prop where
 | n:AQ q []
 | c {e l} (k:Nat):q k e→AQ q l→AQ q ((k,e)::l)
theorem AQ.all {q:Nat→Env→Prop} {l:List (Nat×Env)} (h:AQ q l):AllP (fun p=>q p.1 p.2) l:=by
 induction h with
 | n=>exact .nil
 | c k a b ih=>exact .cons a ih
theorem WO.s1 {all:List Oper} {o:Oper} {k:Nat} {env e:Env} (ho:all[k]? = some o) (h:stepsK P n false all 1 [o] env=some e:=by kernel_rfl):∃ o,all[k]? = some o∧WO P n false all [o] (fun e'=>e'=e) env:=⟨o,ho,WO.steps 1 h (WO.nil rfl)⟩
end Go.AM
namespace Go.Proofs
open Go.Shelf
def Try.laysSlF06_f81_ren:Go.Shelf.Ren:=⟨fun | 6=>81 | 15=>110 | 14=>109 | 28=>124 | 29=>125 | 20=>116 | 21=>117 | 22=>118 | 23=>119 | 24=>120 | 25=>121 | 26=>122 | 27=>123 | 46=>135 | 47=>136 | 48=>137 | 49=>138 | 50=>139 | 57=>143 | n=>n,fun | 22=>59 | 24=>64 | 25=>125 | 3=>3 | 39=>41 | 0=>0 | 53=>152 | 55=>154 | 4=>4 | 46=>145 | 45=>144 | 50=>149 | 5=>5 | 9=>9 | 66=>160 | 70=>164 | 76=>168 | 77=>169 | n=>n,fun | n=>n⟩
theorem Try.laysSlF06_f81:Go.Proofs.SlLaysF0.n6 Try.prog Try.laysSlF06_f81_ren:={
 mixed:=by kernel_rfl
 f6:=⟨Try.f81.name,by decide,Try.func81.trans (congrArg some (by kernel_rfl))⟩
 f14:=⟨Try.f109.name,by decide,Try.func109.trans (congrArg some (by kernel_rfl))⟩
 f15:=Try.func110.trans (congrArg some (by kernel_rfl))
 f20:=⟨Try.f116.name,by decide,Try.func116.trans (congrArg some (by kernel_rfl))⟩
 f21:=⟨Try.f117.name,by decide,Try.func117.trans (congrArg some (by kernel_rfl))⟩
 f22:=⟨Try.f118.name,by decide,Try.func118.trans (congrArg some (by kernel_rfl))⟩
 f23:=⟨Try.f119.name,by decide,Try.func119.trans (congrArg some (by kernel_rfl))⟩
 f24:=⟨Try.f120.name,by decide,Try.func120.trans (congrArg some (by kernel_rfl))⟩
 f25:=⟨Try.f121.name,by decide,Try.func121.trans (congrArg some (by kernel_rfl))⟩
 f26:=⟨Try.f122.name,by decide,Try.func122.trans (congrArg some (by kernel_rfl))⟩
 f27:=⟨Try.f123.name,by decide,Try.func123.trans (congrArg some (by kernel_rfl))⟩
 f28:=Try.func124.trans (congrArg some (by kernel_rfl))
 f29:=Try.func125.trans (congrArg some (by kernel_rfl))
 f46:=⟨Try.f135.name,by decide,Try.func135.trans (congrArg some (by kernel_rfl))⟩
 f47:=Try.func136.trans (congrArg some (by kernel_rfl))
 f48:=Try.func137.trans (congrArg some (by kernel_rfl))
 f49:=⟨Try.f138.name,by decide,Try.func138.trans (congrArg some (by kernel_rfl))⟩
 f50:=⟨Try.f139.name,by decide,Try.func139.trans (congrArg some (by kernel_rfl))⟩
 f57:=⟨Try.f143.name,by decide,Try.func143.trans (congrArg some (by kernel_rfl))⟩
 t0:=Try.underlying0
 a0:=Try.isAgg0
 z0:=Try.sizeOf0
 v0:=Try.zeroValue0
 t3:=Try.underlying3
 a3:=Try.isAgg3
 z3:=Try.sizeOf3
 v3:=Try.zeroValue3
 t4:=Try.underlying4
 a4:=Try.isAgg4
 z4:=Try.sizeOf4
 v4:=Try.zeroValue4
 t5:=Try.underlying5
 a5:=Try.isAgg5
 z5:=Try.sizeOf5
 v5:=Try.zeroValue5
 t9:=Try.underlying9
 a9:=Try.isAgg9
 z9:=Try.sizeOf9
 v9:=Try.zeroValue9
 t22:=Try.underlying59
 a22:=Try.isAgg59
 z22:=Try.sizeOf59
 v22:=Try.zeroValue59
 t25:=Try.underlying125
 a25:=Try.isAgg125
 z25:=Try.sizeOf125
 v25:=Try.zeroValue125
 t39:=Try.underlying41
 a39:=Try.isAgg41
 z39:=Try.sizeOf41
 v39:=Try.zeroValue41
 t45:=Try.underlying144
 a45:=Try.isAgg144
 z45:=Try.sizeOf144
 v45:=Try.zeroValue144
 t46:=Try.underlying145
 a46:=Try.isAgg145
 z46:=Try.sizeOf145
 v46:=Try.zeroValue145
 t50:=Try.underlying149
 a50:=Try.isAgg149
 z50:=Try.sizeOf149
 v50:=Try.zeroValue149
 t53:=Try.underlying152
 a53:=Try.isAgg152
 z53:=Try.sizeOf152
 v53:=Try.zeroValue152
 t55:=Try.underlying154
 a55:=Try.isAgg154
 z55:=Try.sizeOf154
 v55:=Try.zeroValue154
 t66:=Try.underlying160
 a66:=Try.isAgg160
 z66:=Try.sizeOf160
 v66:=Try.zeroValue160
 t70:=Try.underlying164
 a70:=Try.isAgg164
 z70:=Try.sizeOf164
 v70:=Try.zeroValue164
 t76:=Try.underlying168
 a76:=Try.isAgg168
 z76:=Try.sizeOf168
 v76:=Try.zeroValue168
 t77:=Try.underlying169
 a77:=Try.isAgg169
 z77:=Try.sizeOf169
 v77:=Try.zeroValue169 }
open Go.RowKit Go.Lib Go.Sort in
theorem Try.slices_SortFunc_none {α:Type} [Inhabited α] (p:Option Addr) (cap:Nat) (fv:Value) (w:World) :
  Calls Try.prog 81 #[.slice p 0 cap,fv] w fun e w'=>e=.returned (.tuple #[])∧w'=w:=AnyF.slices_SortFunc_none Try.laysSlF06_f81 p cap fv w
open Go.RowKit Go.Lib Go.Sort in
theorem Try.slices_SortFunc_total {α:Type} [Inhabited α] (k:Nat) (aE:∀ w,(isAgg 64).run Try.prog w=.ok true w) (zE:∀ w,(Go.sizeOf 64).run Try.prog w=.ok k w) (enc:α→List Value) (hk:∀ x,(enc x).length=k) (h1:∀ x,∀ v∈enc x,v.oneCell'=true) (cf:α→α→Int) (hO:SWO (ltOf cf)) (g:Nat) (cb:Array Value) (blk off cap:Nat) (d:Array α) (w:World) (eg:∀ args w,(callFunc g args).run Try.prog w=.ok (.enter g args) w) (hcmp:CmpLays Try.prog g cb enc k cf blk off d.size w) (hH:HoldsK enc k w blk off d) (hblk:blk<w.heap.size) (hsz:d.size<4611686018427387904) (hT:∀ x y,(ltOf cf) x y=false→(ltOf cf) y x=false→x=y) :
  Calls Try.prog 81 #[.slice (some ⟨blk,off,none⟩) d.size cap,.func (.func g) #[] cb] w fun e w' =>
   e=.returned (.tuple #[])∧∃ n os,w'=sortWorldK enc k w blk off n (d.toList.mergeSort fun x y=>!(ltOf cf) y x).toArray os:=AnyQ.slices_SortFunc_total Try.laysSlF06_f81 k aE zE enc hk h1 cf hO g cb blk off cap d w eg hcmp hH hblk hsz hT
end Go.Proofs
namespace Go.Proofs
open Go.RowKit Go.Sort
def cmpI (x y:Int):Int:=if x<y then -1 else if y<x then 1 else 0
def orI (x y z:Int):Int:=if x≠0 then x else if y≠0 then y else z
set_option maxHeartbeats 4000000 in
theorem Try.cmp73 (x y:Int) (W:World):Calls Try.prog 73 #[.int .i64 x,.int .i64 y] W fun e w'=>e=.returned (.int .i64 (cmpI x y))∧w'=W:=by
 have t3:=Try.underlying3;have a3:=Try.isAgg3;have z3:=Try.sizeOf3;have v3:=Try.zeroValue3;have u3:=run_underlying Try.underlying3;have t4:=Try.underlying4;have a4:=Try.isAgg4;have z4:=Try.sizeOf4;have v4:=Try.zeroValue4;have u4:=run_underlying Try.underlying4;unfold cmpI
 go_enter Try.func73,Try.ntmps73
 by_cases h1:x<y
 ·go_wp2
  go_ret
  simp[h1]
 ·by_cases h2:y<x
  ·go_wp2
   go_ret
   simp[h1,h2]
  ·go_wp2
   go_ret
   simp[h1,h2]
set_option maxHeartbeats 4000000 in
theorem Try.or83 (x y z:Int) (g cap:Nat) (W:World) (h0:W.cell? ⟨g,0,none⟩=some (.int .i64 x)) (h1:W.cell? ⟨g,1,none⟩=some (.int .i64 y)) (h2:W.cell? ⟨g,2,none⟩=some (.int .i64 z)):Calls Try.prog 83 #[.slice (some ⟨g,0,none⟩) 3 cap] W fun e w'=>e=.returned (.int .i64 (orI x y z))∧w'=W:=by
 have t3:=Try.underlying3;have a3:=Try.isAgg3;have z3:=Try.sizeOf3;have v3:=Try.zeroValue3;have u3:=run_underlying Try.underlying3;have t4:=Try.underlying4;have a4:=Try.isAgg4;have z4:=Try.sizeOf4;have v4:=Try.zeroValue4;have u4:=run_underlying Try.underlying4;have t24:=Try.underlying24;have a24:=Try.isAgg24;have z24:=Try.sizeOf24;have v24:=Try.zeroValue24;have u24:=run_underlying Try.underlying24;obtain⟨r,hr⟩:∃ r,r=orI x y z:=⟨_,rfl⟩;rw[← hr]
 go_enter Try.func83,Try.ntmps83
 go_wp2
 go_loop [8] (fun i=>∃ k:Nat,k≤3∧i=.int .i64 k∧(1≤k→x=0)∧(2≤k→y=0)∧(3≤k→z=0)) (fun i=>3 - (RowKit.intOf i).toNat)
 case atStart=>exact⟨0,by omega,rfl,fun h=>by omega,fun h=>by omega,fun h=>by omega⟩
 case round =>
  obtain⟨k,hk,rfl,k1,k2,k3⟩:=hrel
  match k,hk with
  | 0,_ =>
   by_cases hx:x=0
   ·subst hx
    go_wp2
    go_round
    case rel=>exact⟨1,by omega,rfl,by simp_all,by simp_all,by simp_all⟩
    case measure=>simp[RowKit.intOf]
   ·go_wp2
    go_ret
    simp[orI,hx]
  | 1,_ =>
   have hx:=k1 (by omega);by_cases hy:y=0
   ·subst hy
    go_wp2
    go_round
    case rel=>exact⟨2,by omega,rfl,by simp_all,by simp_all,by simp_all⟩
    case measure=>simp[RowKit.intOf]
   ·go_wp2
    go_ret
    simp[orI,hx,hy]
  | 2,_ =>
   have hx:=k1 (by omega);have hy:=k2 (by omega);by_cases hz:z=0
   ·subst hz
    go_wp2
    go_round
    case rel=>exact⟨3,by omega,rfl,by simp_all,by simp_all,by simp_all⟩
    case measure=>simp[RowKit.intOf]
   ·go_wp2
    go_ret
    simp[orI,hx,hy]
  | 3,_ =>
   have hx:=k1 (by omega);have hy:=k2 (by omega);have hz:=k3 (by omega)
   go_wp2
   go_ret
   simp[orI,hx,hy,hz]
end Go.Proofs
namespace Go.Proofs
open Go.RowKit Go.Sort
theorem Try.mixedT:Try.prog.follows .mixedOrders=true:=by kernel_rfl
set_option maxHeartbeats 8000000 in
theorem Try.cmp82 (x0 x1 x2 y0 y1 y2:Int) (W:World):Calls Try.prog 82 #[.agg #[.int .i64 x0,.int .i64 x1,.int .i64 x2],.agg #[.int .i64 y0,.int .i64 y1,.int .i64 y2]] W fun e w'=>e=.returned (.int .i64 (orI (cmpI x0 y0) (cmpI x1 y1) (cmpI x2 y2)))∧∃ q os,w'=grow (W.drewN q) os:=by
 have mixed:=Try.mixedT;have t3:=Try.underlying3;have a3:=Try.isAgg3;have z3:=Try.sizeOf3;have v3:=Try.zeroValue3;have u3:=run_underlying Try.underlying3;have t24:=Try.underlying24;have a24:=Try.isAgg24;have z24:=Try.sizeOf24;have v24:=Try.zeroValue24;have u24:=run_underlying Try.underlying24;have t64:=Try.underlying64;have a64:=Try.isAgg64;have z64:=Try.sizeOf64;have v64:=Try.zeroValue64;have u64:=run_underlying Try.underlying64;obtain⟨c0,hc0⟩:∃ c,c=cmpI x0 y0:=⟨_,rfl⟩;obtain⟨c1,hc1⟩:∃ c,c=cmpI x1 y1:=⟨_,rfl⟩;obtain⟨c2,hc2⟩:∃ c,c=cmpI x2 y2:=⟨_,rfl⟩
 have k0:∀ w,Calls Try.prog 73 #[.int .i64 x0,.int .i64 y0] w fun e w'=>e=.returned (.int .i64 c0)∧w'=w:=fun w=>by rw[hc0];exact Try.cmp73 x0 y0 w
 have k1:∀ w,Calls Try.prog 73 #[.int .i64 x1,.int .i64 y1] w fun e w'=>e=.returned (.int .i64 c1)∧w'=w:=fun w=>by rw[hc1];exact Try.cmp73 x1 y1 w
 have k2:∀ w,Calls Try.prog 73 #[.int .i64 x2,.int .i64 y2] w fun e w'=>e=.returned (.int .i64 c2)∧w'=w:=fun w=>by rw[hc2];exact Try.cmp73 x2 y2 w
 rw[← hc0,← hc1,← hc2];clear hc0 hc1 hc2;obtain⟨r,hr⟩:∃ r,r=orI c0 c1 c2:=⟨_,rfl⟩;rw[← hr]
 go_enter Try.func82,Try.ntmps82
 go_wp2_with fail
 obtain⟨W2,hW2⟩:∃ W2,W2=(W.alloc (.cells #[.int .i64 x0,.int .i64 x1,.int .i64 x2] 64)).alloc (.cells #[.int .i64 y0,.int .i64 y1,.int .i64 y2] 64):=⟨_,rfl⟩
 have ha:W2.heap[W.heap.size]? = some (.cells #[.int .i64 x0,.int .i64 x1,.int .i64 x2] 64 (0,0)):=by
  rw[hW2,heap_alloc_old _ _ (by simp)];exact heap_alloc_new _ _
 have hb:W2.heap[W.heap.size+1]? = some (.cells #[.int .i64 y0,.int .i64 y1,.int .i64 y2] 64 (0,0)):=by
  have:=heap_alloc_new (W.alloc (.cells #[.int .i64 x0,.int .i64 x1,.int .i64 x2] 64)) (.cells #[.int .i64 y0,.int .i64 y1,.int .i64 y2] 64);rw[hW2]
  simpa using this
 have hg:∃ os,W2=grow W os:=⟨_,by rw[hW2,alloc_eq_grow,alloc_eq_grow,grow_grow]⟩;rw[← hW2];clear hW2
 have K0:W2.cell? ⟨W.heap.size,0,none⟩=some (.int .i64 x0)∧W2.cell? ⟨W.heap.size,1,none⟩=some (.int .i64 x1)∧W2.cell? ⟨W.heap.size,2,none⟩=some (.int .i64 x2)∧W2.cell? ⟨W.heap.size+1,0,none⟩=some (.int .i64 y0)∧W2.cell? ⟨W.heap.size+1,1,none⟩=some (.int .i64 y1)∧W2.cell? ⟨W.heap.size+1,2,none⟩=some (.int .i64 y2):=by
  refine⟨?_,?_,?_,?_,?_,?_⟩ <;> simp[A8,ha,hb]
 refine wp_region_held_drew (S:=(fun w'=>w'.cell? ⟨W.heap.size,0,none⟩=some (.int .i64 x0)∧w'.cell? ⟨W.heap.size,1,none⟩=some (.int .i64 x1)∧w'.cell? ⟨W.heap.size,2,none⟩=some (.int .i64 x2)∧w'.cell? ⟨W.heap.size+1,0,none⟩=some (.int .i64 y0)∧w'.cell? ⟨W.heap.size+1,1,none⟩=some (.int .i64 y1)∧w'.cell? ⟨W.heap.size+1,2,none⟩=some (.int .i64 y2))) (by kernel_rfl) K0 (fun hHeld=>?_);refine wpAnyH_take (i:=0) (v:=.pointer (some ⟨W.heap.size,0,none⟩)) rfl (by kernel_rfl) (by kernel_rfl) (by kernel_rfl) (fun _ _ _ h=>h) (Or.inl ⟨by kernel_rfl,fun w' hw'=>?_⟩) hHeld ?_
 ·obtain⟨q0,q1,q2,q3,q4,q5⟩:=hw';go_simp
 simp only[Act.put,A0,A1,A2,A3,A4,A5];refine wpAnyH_take (i:=1) (v:=.int .i64 x0) rfl (by kernel_rfl) (by kernel_rfl) (by kernel_rfl) (fun _ _ _ h=>h) (Or.inl ⟨by kernel_rfl,fun w' hw'=>?_⟩) hHeld ?_
 ·obtain⟨q0,q1,q2,q3,q4,q5⟩:=hw';go_simp
 simp only[Act.put,A0,A1,A2,A3,A4,A5];refine wpAnyH_take (i:=2) (v:=.pointer (some ⟨W.heap.size+1,0,none⟩)) rfl (by kernel_rfl) (by kernel_rfl) (by kernel_rfl) (fun _ _ _ h=>h) (Or.inl ⟨by kernel_rfl,fun w' hw'=>?_⟩) hHeld ?_
 ·obtain⟨q0,q1,q2,q3,q4,q5⟩:=hw';go_simp
 simp only[Act.put,A0,A1,A2,A3,A4,A5];refine wpAnyH_take (i:=3) (v:=.int .i64 y0) rfl (by kernel_rfl) (by kernel_rfl) (by kernel_rfl) (fun _ _ _ h=>h) (Or.inl ⟨by kernel_rfl,fun w' hw'=>?_⟩) hHeld ?_
 ·obtain⟨q0,q1,q2,q3,q4,q5⟩:=hw';go_simp
 simp only[Act.put,A0,A1,A2,A3,A4,A5];refine wpAnyH_take (i:=5) (v:=.pointer (some ⟨W.heap.size,1,none⟩)) rfl (by kernel_rfl) (by kernel_rfl) (by kernel_rfl) (fun _ _ _ h=>h) (Or.inl ⟨by kernel_rfl,fun w' hw'=>?_⟩) hHeld ?_
 ·obtain⟨q0,q1,q2,q3,q4,q5⟩:=hw';go_simp
 simp only[Act.put,A0,A1,A2,A3,A4,A5];refine wpAnyH_take (i:=6) (v:=.int .i64 x1) rfl (by kernel_rfl) (by kernel_rfl) (by kernel_rfl) (fun _ _ _ h=>h) (Or.inl ⟨by kernel_rfl,fun w' hw'=>?_⟩) hHeld ?_
 ·obtain⟨q0,q1,q2,q3,q4,q5⟩:=hw';go_simp
 simp only[Act.put,A0,A1,A2,A3,A4,A5];refine wpAnyH_take (i:=7) (v:=.pointer (some ⟨W.heap.size+1,1,none⟩)) rfl (by kernel_rfl) (by kernel_rfl) (by kernel_rfl) (fun _ _ _ h=>h) (Or.inl ⟨by kernel_rfl,fun w' hw'=>?_⟩) hHeld ?_
 ·obtain⟨q0,q1,q2,q3,q4,q5⟩:=hw';go_simp
 simp only[Act.put,A0,A1,A2,A3,A4,A5];refine wpAnyH_take (i:=8) (v:=.int .i64 y1) rfl (by kernel_rfl) (by kernel_rfl) (by kernel_rfl) (fun _ _ _ h=>h) (Or.inl ⟨by kernel_rfl,fun w' hw'=>?_⟩) hHeld ?_
 ·obtain⟨q0,q1,q2,q3,q4,q5⟩:=hw';go_simp
 simp only[Act.put,A0,A1,A2,A3,A4,A5];refine wpAnyH_take (i:=10) (v:=.pointer (some ⟨W.heap.size,2,none⟩)) rfl (by kernel_rfl) (by kernel_rfl) (by kernel_rfl) (fun _ _ _ h=>h) (Or.inl ⟨by kernel_rfl,fun w' hw'=>?_⟩) hHeld ?_
 ·obtain⟨q0,q1,q2,q3,q4,q5⟩:=hw';go_simp
 simp only[Act.put,A0,A1,A2,A3,A4,A5];refine wpAnyH_take (i:=11) (v:=.int .i64 x2) rfl (by kernel_rfl) (by kernel_rfl) (by kernel_rfl) (fun _ _ _ h=>h) (Or.inl ⟨by kernel_rfl,fun w' hw'=>?_⟩) hHeld ?_
 ·obtain⟨q0,q1,q2,q3,q4,q5⟩:=hw';go_simp
 simp only[Act.put,A0,A1,A2,A3,A4,A5];refine wpAnyH_take (i:=12) (v:=.pointer (some ⟨W.heap.size+1,2,none⟩)) rfl (by kernel_rfl) (by kernel_rfl) (by kernel_rfl) (fun _ _ _ h=>h) (Or.inl ⟨by kernel_rfl,fun w' hw'=>?_⟩) hHeld ?_
 ·obtain⟨q0,q1,q2,q3,q4,q5⟩:=hw';go_simp
 simp only[Act.put,A0,A1,A2,A3,A4,A5];refine wpAnyH_take (i:=13) (v:=.int .i64 y2) rfl (by kernel_rfl) (by kernel_rfl) (by kernel_rfl) (fun _ _ _ h=>h) (Or.inl ⟨by kernel_rfl,fun w' hw'=>?_⟩) hHeld ?_
 ·obtain⟨q0,q1,q2,q3,q4,q5⟩:=hw';go_simp
 simp only[Act.put,A0,A1,A2,A3,A4,A5];refine wpAnyH_ready (rs:=[4]) (by kernel_rfl) (by simp) (AllReadyH.cons rfl (fun K hK=>?_) AllReadyH.nil);rw[if_pos (by kernel_rfl)];go_simp
 go_at_call 73
 refine (k0 _).mono ?_
 rintro e w5 ⟨rfl,rfl⟩
 go_wp2_with fail
 refine hK.out _ _ hHeld (fun _=>?_);clear hK K;refine wpAnyH_ready (rs:=[9]) (by kernel_rfl) (by simp) (AllReadyH.cons rfl (fun K hK=>?_) AllReadyH.nil);rw[if_pos (by kernel_rfl)];go_simp
 go_at_call 73
 refine (k1 _).mono ?_
 rintro e w5 ⟨rfl,rfl⟩
 go_wp2_with fail
 refine hK.out _ _ hHeld (fun _=>?_);clear hK K;refine wpAnyH_ready (rs:=[14]) (by kernel_rfl) (by simp) (AllReadyH.cons rfl (fun K hK=>?_) AllReadyH.nil);rw[if_pos (by kernel_rfl)];go_simp
 go_at_call 73
 refine (k2 _).mono ?_
 rintro e w5 ⟨rfl,rfl⟩
 go_wp2_with fail
 refine hK.out _ _ hHeld (fun _=>?_);clear hK K;refine wpAnyH_ready (rs:=[15]) (by kernel_rfl) (by simp) (AllReadyH.cons rfl (fun K hK=>?_) AllReadyH.nil);rw[if_pos (by kernel_rfl)];go_simp;obtain⟨W3,hW3⟩:∃ W3,W3=(W2.alloc (Obj.cells #[Value.int A9 c0,Value.int A9 c1,Value.int A9 c2] 3)).drew:=⟨_,rfl⟩
 have e0:W3.heap[W.heap.size]? = some (.cells #[.int .i64 x0,.int .i64 x1,.int .i64 x2] 64 (0,0)):=by
  rw[hW3];exact (heap_alloc_old _ _ (lt_of_block ha)).trans ha
 have e1:W3.heap[W.heap.size+1]? = some (.cells #[.int .i64 y0,.int .i64 y1,.int .i64 y2] 64 (0,0)):=by
  rw[hW3];exact (heap_alloc_old _ _ (lt_of_block hb)).trans hb
 have e2:W3.heap[W2.heap.size]? = some (.cells #[.int .i64 c0,.int .i64 c1,.int .i64 c2] 3 (0,0)):=by
  rw[hW3];exact heap_alloc_new _ _
 have hg3:∃ q os,W3=grow (W.drewN q) os:=by
  obtain⟨os,rfl⟩:=hg;refine⟨1,os++#[Obj.cells #[Value.int A9 c0,Value.int A9 c1,Value.int A9 c2] 3],?_⟩;rw[hW3,alloc_eq_grow,grow_grow,drew_grow];rfl
 have f0:W3.cell? ⟨W2.heap.size,0,none⟩=some (.int .i64 c0):=by simp[A8,e2]
 have f1:W3.cell? ⟨W2.heap.size,1,none⟩=some (.int .i64 c1):=by simp[A8,e2]
 have f2:W3.cell? ⟨W2.heap.size,2,none⟩=some (.int .i64 c2):=by simp[A8,e2]
 have K3:W3.cell? ⟨W.heap.size,0,none⟩=some (.int .i64 x0)∧W3.cell? ⟨W.heap.size,1,none⟩=some (.int .i64 x1)∧W3.cell? ⟨W.heap.size,2,none⟩=some (.int .i64 x2)∧W3.cell? ⟨W.heap.size+1,0,none⟩=some (.int .i64 y0)∧W3.cell? ⟨W.heap.size+1,1,none⟩=some (.int .i64 y1)∧W3.cell? ⟨W.heap.size+1,2,none⟩=some (.int .i64 y2):=by
  refine⟨?_,?_,?_,?_,?_,?_⟩ <;> simp[A8,e0,e1]
 rw[← hW3];clear hW3 ha hb;refine hK.out _ _ K3 (fun _=>?_);clear hK K;have kk:=Try.or83 c0 c1 c2 W2.heap.size 3 W3 f0 f1 f2;rw[← hr]at kk;refine wpAnyH_ready (rs:=[16]) (by kernel_rfl) (by simp) (AllReadyH.cons rfl (fun K hK=>?_) AllReadyH.nil);rw[if_pos (by kernel_rfl)];go_simp
 go_at_call 83
 refine kk.mono ?_
 rintro e w5 ⟨rfl,rfl⟩
 go_wp2_with fail
 refine hK.out _ _ K3 (fun _=>?_);clear hK K;refine wpAnyH_take (i:=17) (v:=.int .i64 r) rfl (by kernel_rfl) (by kernel_rfl) (by kernel_rfl) (fun _ _ _ h=>h) (Or.inl ⟨by kernel_rfl,fun w' hw'=>?_⟩) K3 ?_
 ·go_simp
 simp only[Act.put,A0,A1,A2,A3,A4,A5];refine wpAnyH_done (by kernel_rfl) ?_ _
 go_wp2
 go_ret
 exact⟨rfl,hg3⟩
end Go.Proofs
namespace Go.AM
open Go.RowKit Go.Sort Go.Proofs Go.Lib
structure qn where
 f_0:Int
 f_1:Int
 f_2:Int
def jC (x:qn):AV:=.agg [.int .i64 x.f_0,.int .i64 x.f_1,.int .i64 x.f_2]
def l64 (c:Option Nat) (l:List qn):AV:=.lst 64 3 c (List.map jC l)
instance:Inhabited qn:=⟨⟨0,0,0⟩⟩
theorem qcd {x y:qn} (h0:x.f_0=y.f_0) (h1:x.f_1=y.f_1) (h2:x.f_2=y.f_2):x=y:=by
 cases x;cases y;cases h0;cases h1;cases h2;rfl
def cf3 (a b:qn):Int:=orI (cmpI a.f_0 b.f_0) (cmpI a.f_1 b.f_1) (cmpI a.f_2 b.f_2)
def enc3 (a:qn):List Value:=[.int .i64 a.f_0,.int .i64 a.f_1,.int .i64 a.f_2]
def sort3 (l:List qn):List qn:=l.mergeSort fun x y=>!ltOf cf3 y x
theorem YX (l:List qn):(sort3 l).length=l.length:=by unfold sort3;exact List.length_mergeSort l
theorem lt3 (a b:qn):ltOf cf3 a b=true↔(a.f_0<b.f_0∨(a.f_0=b.f_0∧(a.f_1<b.f_1∨(a.f_1=b.f_1∧a.f_2<b.f_2)))):=by
 have e:ltOf cf3 a b=decide (cf3 a b<0):=rfl;rw[e,decide_eq_true_eq];unfold cf3 orI cmpI;by_cases h1:a.f_0<b.f_0
 ·simp[h1]
 ·by_cases h2:b.f_0<a.f_0
  ·simp[h1,h2];omega
  ·have:a.f_0=b.f_0:=by omega
   by_cases h3:a.f_1<b.f_1
   ·simp[h1,h2,h3,this]
   ·by_cases h4:b.f_1<a.f_1
    ·simp[h1,h2,h3,h4,this];omega
    ·have h5:a.f_1=b.f_1:=by omega
     by_cases h6:a.f_2<b.f_2
     ·simp[h1,h2,h3,h4,h5,h6,this]
     ·by_cases h7:b.f_2<a.f_2 <;> simp[h1,h2,h3,h4,h5,h6,h7,this]
theorem lt3f (a b:qn):ltOf cf3 a b=false↔¬ (a.f_0<b.f_0∨(a.f_0=b.f_0∧(a.f_1<b.f_1∨(a.f_1=b.f_1∧a.f_2<b.f_2)))):=by
 rw[← lt3,Bool.not_eq_true]
theorem swo3:SWO (ltOf cf3) where
 irrefl x:=by rw[lt3f];omega
 trans x y z h1 h2:=by rw[lt3]at *;omega
 ntrans x y z h1 h2:=by rw[lt3f]at *;omega
theorem tot3 (x y:qn) (h1:ltOf cf3 x y=false) (h2:ltOf cf3 y x=false):x=y:=by
 rw[lt3f]at h1 h2;exact qcd (by omega) (by omega) (by omega)
theorem cells3 (l:List qn):∀ x,x∈l.map jC→x.cells.length=3:=by
 intro x hx;obtain⟨y,_,rfl⟩:=List.mem_map.1 hx;rfl
theorem flat3 (l:List qn) {j:Nat} {c:AV} {M:Mem} {u:Value} (hc:(flat (l.map jC))[j]? = some c) :
  (R M c u↔u=(flatK enc3 3 l.toArray)[j]!)∧j<l.length * 3:=by
 have hj:j<l.length * 3:=by
  have h1:=(List.getElem?_eq_some_iff.1 hc).1;rw[jr (cells3 l)]at h1
  simpa using h1
 have hd:j / 3<l.length:=by omega
 have hm:j % 3<3:=by omega
 have h2:=Xe (k:=3) (xs:=l.map jC) (i:=j / 3) (x:=jC l[j / 3]) (cells3 l) (by simp[hd]) (j % 3) hm;rw[show j / 3 * 3+j % 3=j by omega,hc]at h2;refine⟨?_,hj⟩;rw[get_flatK _ _ _ j (by simpa using hj)]
 have e1:l.toArray[j / 3]! = l[j / 3]:=by simp[hd]
 rw[e1];generalize l[j / 3]=x at h2
 have:∀ m,m<3→∀ c,some c=(jC x).cells[m]?→(R M c u↔u=(enc3 x)[m]!):=fun m hm c hc=>by
  match m,hm with
  | 0,_=>cases hc;exact⟨fun h=>h.int_inv,fun h=>by rw[h];exact .int _ _⟩
  | 1,_=>cases hc;exact⟨fun h=>h.int_inv,fun h=>by rw[h];exact .int _ _⟩
  | 2,_=>cases hc;exact⟨fun h=>h.int_inv,fun h=>by rw[h];exact .int _ _⟩
 exact this _ hm c h2
theorem sort81 {l:List qn} (hl:l.length<4611686018427387904) :
  CallMOk Try.prog 81 [.sb 2000000 64 3 0 l.length,.clo 82 []] [(2000000,.obj 64 3 (l.map jC))] (.tup []) [(2000000,.obj 64 3 ((sort3 l).map jC))]:=by
 intro M O w vs hG hC hlen hO hOi hR hH
 obtain⟨v,fv,rfl⟩:∃ v fv,vs=[v,fv]:=by
  match vs,hlen with
  | [v,fv],_=>exact⟨v,fv,rfl⟩
 have hv:=hR 0 _ v rfl rfl;have hf:=(hR 1 _ fv rfl rfl).1;have ho:=hH 2000000 (.obj 64 3 (l.map jC)) rfl;obtain⟨q1,q2⟩:=hv;obtain⟨k0,k1,k2,k3⟩:=ho
 obtain rfl:fv=.func (.func 82) #[] #[]:=by
  generalize hx:AV.clo 82 []=x at hf
  have hx':x.strip=x:=by rw[← hx];rfl
  rw[hx']at hf
  cases hf with
  | clo e1 e2 =>
   rename_i vs;cases hx
   match vs,e1 with
   | [],_=>rfl
  | _=>cases hx
 have aE:∀ w,(isAgg 64).run Try.prog w=.ok true w:=Try.isAgg64;have zE:∀ w,(Go.sizeOf 64).run Try.prog w=.ok 3 w:=Try.sizeOf64;by_cases hne:l=[]
 ·subst hne
  have q2':∃ p cap,v=.slice p 0 cap:=by
   rcases q2 with ⟨_,ad,rfl⟩ | ⟨g,cap,rfl,_⟩
   ·exact⟨_,_,rfl⟩
   ·exact⟨_,_,rfl⟩
  obtain⟨p,cap,rfl⟩:=q2';refine (Try.slices_SortFunc_none (α:=Nat) p cap _ w).mono ?_
  rintro ed w' ⟨rfl,rfl⟩
  have es:sort3 []=[]:=by simp[sort3]
  refine⟨_,M,O,rfl,BelowD.refl _ _,Sub.refl M,hC,fun _ _ _ _=>rfl,fun i c g hh=>?_,fun i i' c c' g hh hh'=>?_,fun c _ _=>Gh.Eq1.refl O c,⟨.tup (vs:=[]) rfl (fun j c v hc=>by simp at hc),trivial⟩,fun id x hx=>?_⟩
  ·obtain⟨rfl,h2⟩:=hO i c g hh;exact⟨h2,.inr ⟨c,hh⟩⟩
  ·obtain⟨rfl,_⟩:=hO i c g hh;obtain⟨rfl,_⟩:=hO i' c' g hh';exact⟨rfl,hOi c c' g hh hh'⟩
  ·simp only[look]at hx;split at hx
   ·rename_i hb;cases hx;obtain rfl:=(B6 hb).symm;rw[es];exact⟨k0,k1,k2,k3⟩
   ·cases hx
 have hpos:0<l.length:=List.length_pos_iff.2 hne
 rcases q2 with ⟨h0,_⟩ | ⟨g,cap,rfl,p1,p2,p3,p4⟩
 ·omega
 rcases k3 with ⟨h0,_⟩ | ⟨g',cur,r1,r2,r3,r4,r5,r6⟩
 ·exact absurd (List.map_eq_nil_iff.1 h0) hne
 have hgg:g'=g:=by rw[p1]at r1;exact (Option.some.inj r1).symm
 subst hgg
 have r4':l.length * 3≤cur.size:=by simpa using r4
 have hb:=r2.plain (by omega);have hgs:g'<w.heap.size:=(hO _ _ _ p1).2
 have hcur:∀ j,j<l.length * 3→cur[j]? = some ((flatK enc3 3 l.toArray)[j]!):=fun j hj=>by
  have hjc:j<cur.size:=by omega
  have hfl:j<(flat (l.map jC)).length:=by rw[jr (cells3 l)];simpa using hj
  have h1:=r6 j _ cur[j] (C7 hfl) (by simp[hjc]);rw[D0 hjc];exact congrArg some (((flat3 l (C7 hfl)).1).1 h1)
 have hHd:HoldsK enc3 3 w g' 0 l.toArray:=by
  intro j hj
  have hj':j<l.length * 3:=by simpa using hj
  constructor
  ·simp only[A8,hb,Nat.zero_add,Option.isSome_none,Bool.false_eq_true,if_false];rw[hcur j hj'];rfl
  ·simp[World.frozen?,hb]
 have eg:∀ args w,(callFunc 82 args).run Try.prog w=.ok (.enter 82 args) w:=enters_of Try.func82 (by kernel_rfl) rfl
 have hcmp:CmpLays Try.prog 82 #[] enc3 3 cf3 g' 0 l.toArray.size w:=by
  intro m os dk hs x y;exact Try.cmp82 x.f_0 x.f_1 x.f_2 y.f_0 y.f_1 y.f_2 _
 have hcon:=Try.slices_SortFunc_total (α:=qn) 3 aE zE enc3 (fun _=>rfl) (fun x v hv=>by simp[enc3]at hv;rcases hv with rfl | rfl | rfl <;> rfl) cf3 swo3 82 #[] g' 0 cap l.toArray w eg hcmp hHd hgs (by simpa using hl) tot3
 have hsz:l.toArray.size=l.length:=by simp
 rw[hsz]at hcon;refine hcon.mono ?_
 rintro ed w' ⟨rfl,n,os,hw⟩
 have hw2:w'=grow (Go.Sort.putRow id (Sort.ahead w n) g' 0 (flatK enc3 3 (sort3 l).toArray)) os:=hw
 have hb':w'.heap[g']? = some (.cells (putCells id 0 (flatK enc3 3 (sort3 l).toArray) cur) 64 (0,0)):=by
  subst hw2;rw[heap_grow_old _ _ (by simpa using hgs)];simp[Go.Sort.putRow,mapBlock,Sort.ahead,D1,hb,onCells]
 have hbk:∀ q,q<w.heap.size→q≠g'→w'.heap[q]? = w.heap[q]?:=by
  intro q hq hne2;subst hw2;rw[heap_grow_old _ _ (by simpa using hq)]
  have:g'≠q:=fun e=>hne2 e.symm
  simp[Go.Sort.putRow,mapBlock,Sort.ahead,D1,this]
 have hszw:w.heap.size≤w'.heap.size:=by subst hw2;simp[grow]
 have hps:(putCells id 0 (flatK enc3 3 (sort3 l).toArray) cur).size=cur.size:=by simp[putCells]
 refine⟨_,M,O,rfl,⟨by subst hw2;rfl,by subst hw2;rfl,by subst hw2;rfl,hszw,fun q hq=>hbk q hq.1 fun e1=>hq.2 2000000 (by rw[e1];exact p1)⟩,Sub.refl M,?_,fun _ _ _ _=>rfl,fun i c g hh=>?_,fun i i' c c' g hh hh'=>?_,fun c _ _=>Gh.Eq1.refl O c,⟨.tup (vs:=[]) rfl (fun j c v hc=>by simp at hc),trivial⟩,fun id x hx=>?_⟩
 ·intro b o u hu;have h1:=hC b o u hu;have hb2:=ZN h1
  have hne2:b≠g':=fun e1=>by rw[e1,r5]at hu;cases hu
  rw[Qw (hbk b hb2 hne2)];exact h1
 ·obtain⟨rfl,h2⟩:=hO i c g hh;exact⟨Nat.lt_of_lt_of_le h2 hszw,.inr ⟨c,hh⟩⟩
 ·obtain⟨rfl,_⟩:=hO i c g hh;obtain⟨rfl,_⟩:=hO i' c' g hh';exact⟨rfl,hOi c c' g hh hh'⟩
 ·simp only[look]at hx;split at hx
  ·rename_i hbq;cases hx;obtain rfl:=(B6 hbq).symm;refine⟨k0,fun y hy=>?_,by simpa[YX] using k2,.inr ⟨g',_,p1,RowAt.of hb',by rw[hps];exact r3,by rw[hps];simpa[YX] using r4,r5,fun j c u hc hu=>?_⟩⟩
   ·obtain⟨z,_,rfl⟩:=List.mem_map.1 hy;exact⟨rfl,rfl⟩
   ·obtain⟨f1,f2⟩:=flat3 (M:=M) (u:=u) (sort3 l) hc;refine f1.2 ?_;rw[YX]at f2
    have hjc:j<cur.size:=by omega
    have:(putCells id 0 (flatK enc3 3 (sort3 l).toArray) cur)[j]? = some ((flatK enc3 3 (sort3 l).toArray)[j]!):=by
     have hz:(flatK enc3 3 (sort3 l).toArray).size=l.length * 3:=by simp[YX]
     simp only[putCells,Array.getElem?_mapIdx,D0 hjc,Option.map_some,hz];rw[if_pos (by omega)];simp
    rw[this]at hu;exact (Option.some.inj hu).symm
  ·cases hx
end Go.AM
namespace Go.AM
open Go.Proofs
def Uq (fuel:Nat) (a1:(List hsOp)):Option ((List Int)×Int):=viewO fuel a1
theorem Nl (fuel:Nat) (a1:(List hsOp)) (r:((List Int)×Int)) (h:Uq fuel a1=some r):Run Try.prog (.call 30 [l44 none a1] (.tup [l3 none r.1,I6 r.2])):=.ext0 (view30 h)
end Go.AM
namespace Go.AM
open Go.Proofs
structure qK where
 f_h:(List hsOp)
 qm:(List Int)
 qt:(List (Int×Int))
 qA:(List (Int×Int))
def Ux (x:qK):AV:=.agg [l44 none x.f_h,l3 none x.qm,mpE (AV.int .i64) (AV.int .i64) x.qt,mpE (AV.int .i64) (AV.int .i64) x.qA]
end Go.AM
