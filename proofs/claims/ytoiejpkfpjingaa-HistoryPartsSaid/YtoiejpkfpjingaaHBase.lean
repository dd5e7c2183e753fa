import Derived.Test.YtoiejpkfpjingaaESn2
import Derived.Test.YtoiejpkfpjingaaSBT
import Derived.Test.YtoiejpkfpjingaaASimM
import Derived.Test.YtoiejpkfpjingaaChecked
import Derived.Test.YtoiejpkfpjingaaKAT
import Derived.Test.YtoiejpkfpjingaaEPerm
import Derived.Test.YtoiejpkfpjingaaSE1
import Derived.Test.YtoiejpkfpjingaaEVo
import Derived.Test.YtoiejpkfpjingaaRows
import Derived.ProofKit
import Derived.OpenShut
set_option linter.all false
set_option maxRecDepth 100000
open Option renaming bind_some→A0
open Bool renaming and_eq_true→A1, not_true→A7, eq_iff_iff→B3, or_eq_true→B6, beq_comm→D3
open List renaming all_eq_true→A2, length_map→A3, length_filter_le→A5, take_of_length_le→A6, take_left→A8, any_eq_true→A9, append_nil→B4, length_append→B5, filter_append→B7, filter_cons_of_pos→B8, filter_cons→C7, length_singleton→D0, map_nil→D1, map_cons→D2, contains_iff_mem→D4
open Nat renaming le_trans→A4
namespace Go.AM
open Go.Proofs
def okB (h:List rf5Op):Bool:=(commL h).all fun a=>(commL h).all fun b=>(List.range 6).all fun i=>!(decide (a<b) && (ovL h a b && (writesL h a (i:Nat) && writesL h b (i:Nat))))
theorem qdu (h:List rf5Op):okB h=true↔NoBad h:=by
 unfold okB NoBad badA;simp only[A2,List.mem_range];constructor
 ·rintro hh a ha b hb i hi ⟨h1,h2,h3,h4⟩
  have:=hh a ha b hb i hi;rw[h2,h3,h4,decide_eq_true h1]at this;cases this
 ·intro hh a ha b hb i hi;have:=hh a ha b hb i hi
  cases h1:decide (a<b) <;> cases h2:ovL h a b <;> cases h3:writesL h a (i:Int) <;> cases h4:writesL h b (i:Int) <;> first | rfl | skip
  exact absurd ⟨of_decide_eq_true h1,h2,h3,h4⟩ this
def antiB (h:List rf5Op) (a b:Int):Bool:=(commL h).contains a && ((commL h).contains b && ((a != b) && (List.range 6).any fun i=>readsL a (i:Nat) h && (writesL h b (i:Nat) && decide (endL b 2 h 0 > begL a h 0))))
def restB (h:List rf5Op) (a b:Int):Bool:=(commL h).contains a && ((commL h).contains b && ((a != b) && (List.range 6).any fun i=>(writesL h a (i:Nat) && (writesL h b (i:Nat) && decide (endL a 2 h 0<endL b 2 h 0))) || (readsL b (i:Nat) h && (srcL h b (i:Nat) == a))))
def allB (h:List rf5Op) (a b:Int):Bool:=antiB h a b || restB h a b
theorem qaj (h:List rf5Op) (a b:Int):antiB h a b=true↔antiE h a b:=by
 unfold antiB antiE antiP antiC;simp[D4]
theorem qfJ (h:List rf5Op) (a b:Int):allB h a b=true↔allE h a b:=by
 unfold allB;rw[B6,qaj];unfold restB antiE allE antiP allP antiC restC;simp only[A1,D4,bne_iff_ne,A9,List.mem_range,B6,decide_eq_true_eq,beq_iff_eq];constructor
 ·rintro (⟨h1,h2,h3,i,h4,h5⟩ | ⟨h1,h2,h3,i,h4,h5⟩)
  ·exact⟨h1,h2,h3,i,h4,.inl h5⟩
  ·exact⟨h1,h2,h3,i,h4,.inr h5⟩
 ·rintro⟨h1,h2,h3,i,h4,h5 | h5⟩
  ·exact .inl ⟨h1,h2,h3,i,h4,h5⟩
  ·exact .inr ⟨h1,h2,h3,i,h4,h5⟩
def triT (h:List rf5Op) (x y z:Int):Bool:=antiB h x y && (antiB h y z && (ovL h x y && ovL h y z))
def triR (h:List rf5Op):List qn:=(commL h).flatMap fun x=>(commL h).flatMap fun y=>((commL h).filter (triT h x y)).map (qn.mk x y)
theorem Vi (h:List rf5Op):(commL h).Pairwise fun a b=>a<b:=List.Pairwise.filter _ (by decide)
theorem qeM (h:List rf5Op) (x:qn):x∈triR h↔dangT h x:=by
 unfold triR dangT triT;simp only[List.mem_flatMap,List.mem_map,List.mem_filter,A1,qaj];constructor
 ·rintro⟨a,_,b,_,c,⟨_,h1,h2,h3,h4⟩,rfl⟩
  exact⟨h1,h2,h3,h4⟩
 ·rintro⟨h1,h2,h3,h4⟩
  exact⟨x.f_0,h1.1,x.f_1,h1.2.1,x.f_2,⟨h2.2.1,h1,h2,h3,h4⟩,rfl⟩
theorem qba (h:List rf5Op):(triR h).Pairwise fun a b=>ltOf cf3 a b=true:=by
 unfold triR;refine List.pairwise_flatMap.2 ⟨fun x hx=>List.pairwise_flatMap.2 ⟨fun y hy=>?_,(Vi h).imp fun {a b} hab p hp q hq=>?_⟩,(Vi h).imp fun {a b} hab p hp q hq=>?_⟩
 ·refine List.pairwise_map.2 (((Vi h).filter _).imp fun {a b} hab=>?_);rw[lt3];exact .inr ⟨rfl,.inr ⟨rfl,hab⟩⟩
 ·obtain⟨_,_,rfl⟩:=List.mem_map.1 hp;obtain⟨_,_,rfl⟩:=List.mem_map.1 hq;rw[lt3];exact .inr ⟨rfl,.inl hab⟩
 ·obtain⟨_,_,hp⟩:=List.mem_flatMap.1 hp;obtain⟨_,_,hq⟩:=List.mem_flatMap.1 hq;obtain⟨_,_,rfl⟩:=List.mem_map.1 hp;obtain⟨_,_,rfl⟩:=List.mem_map.1 hq;rw[lt3];exact .inl hab
theorem qeN (h:List rf5Op):(triR h).length≤216:=by
 unfold triR;have h6:=Jv h;refine A4 (YO (m:=36) fun x hx=>A4 (YO (m:=6) fun y hy=>?_) (by omega)) (by omega);rw[A3];exact A4 (A5 _ _) h6
def sordR (h:List rf5Op):List Int×Int:=if validB h then (if okB h then (match topo (allB h) (commL h).length (commL h) with | some o=>(o,0) | none=>([],5)) else ([],7)) else ([],2)
def dangR (h:List rf5Op):List qn×Int:=if validB h then (if okB h then (triR h,0) else ([],7)) else ([],2)
theorem qdo {h:List rf5Op} {s:qK} (S:SnapOk h s):ju s=some (okB h):=by
 rcases qfh S with ⟨h1,h2⟩ | ⟨h1,h2⟩
 ·rw[h2,(qdu h).2 h1]
 ·have:okB h=false:=by
   cases hh:okB h
   ·rfl
   ·exact absurd ((qdu h).1 hh) h1
  rw[h2,this]
theorem qfA {h:List rf5Op} {u:Map2} (g:GoodM 500 u (allE h)):edgeB u=allB h:=by
 funext a b
 rw[B3,g.edge,qfJ]
theorem qbd (h:List rf5Op):Qb bigFuel ((h.take 43).map cv)=some (sordR h):=by
 unfold Qb sordR Xa;rw[Yw,A0]
 cases hv:validB h with
 | false=>rfl
 | true =>
  obtain⟨H,hlen⟩:=ZB hv;obtain⟨s,e,S⟩:=qbf H;rw[A6 (by omega),A7,cN,e,A0,qdo S,A0]
  cases ho:okB h with
  | false=>rfl
  | true =>
   obtain⟨v,u,e2,g1,g2⟩:=He S;rw[A7,cN,e2,A0];simp only[S.tx];rw[NW (by have:=Jv h;omega) (Qq h) Vz,qfA g2,A0];simp only[if_true];cases topo (allB h) (commL h).length (commL h) <;> rfl
theorem qbW (h:List rf5Op):Zg bigFuel ((h.take 43).map cv)=some (dangR h):=by
 unfold Zg dangerP dangR;rw[Yw,A0]
 cases hv:validB h with
 | false=>rfl
 | true =>
  obtain⟨H,hlen⟩:=ZB hv;obtain⟨s,e,S⟩:=qbf H;rw[A6 (by omega),A7,cN,e,A0,qdo S,A0]
  cases ho:okB h with
  | false=>rfl
  | true =>
   obtain⟨v,u,e2,g1,g2⟩:=He S;obtain⟨c1,c2⟩:=qby S g1 (qba h) (qeM h);rw[A7,cN,e2,A0,c1,qC,c2];rfl
end Go.AM
namespace Go.AM
open Go.Proofs
def fstL (Q:rf5Op→Bool):List rf5Op→Nat→Int
 | [],_ => -1
 | x::r,i=>bif Q x then (i:Int) else fstL Q r (i+1)
theorem UB (t:Int):∀ (l:List rf5Op) (i:Nat),begL t l i=fstL (fun x=>x.qg == t) l i
 | [],i=>rfl
 | x::l,i=>by unfold begL fstL;rw[UB t l (i+1)]
theorem Yp (t k:Int):∀ (l:List rf5Op) (i:Nat),endL t k l i=fstL (fun x=>(x.qg == t) && (x.qi == k)) l i
 | [],i=>rfl
 | x::l,i=>by unfold endL fstL;rw[Yp t k l (i+1)]
theorem Hr {Q:rf5Op→Bool} {x:rf5Op} (hx:Q x=true) (B:List rf5Op):∀ (A:List rf5Op) (i:Nat),(∀ y,y∈A→Q y=false)→fstL Q (A++x::B) i=((i+A.length:Nat):Int)
 | [],i,_=>by show (bif Q x then (i:Int) else _)=_;rw[hx];rfl
 | y::A,i,h=>by
  show (bif Q y then (i:Int) else fstL Q (A++x::B) (i+1))=_;rw[h y (by simp),cN,Hr hx B A (i+1) fun z hz=>h z (by simp[hz])]
  congr 1
  simp;omega
theorem UX {Q:rf5Op→Bool}:∀ {l:List rf5Op},(∃ x,x∈l∧Q x=true)→∃ A x B,l=A++x::B∧Q x=true∧∀ y,y∈A→Q y=false
 | [],h=>by simp at h
 | z::l,h=>by
  cases hz:Q z with
  | true=>exact⟨[],z,l,rfl,hz,fun _ h=>by cases h⟩
  | false =>
   obtain⟨x,hx,hq⟩:=h
   rcases List.mem_cons.1 hx with rfl | hx
   ·rw[hz]at hq;cases hq
   ·obtain⟨A,x,B,rfl,h2,h3⟩:=UX ⟨x,hx,hq⟩;refine⟨z::A,x,B,rfl,h2,fun y hy=>?_⟩
    rcases List.mem_cons.1 hy with rfl | hy
    ·exact hz
    ·exact h3 y hy
theorem qgl {P:rf5Op→Bool} {l A B A' B':List rf5Op} {x x':rf5Op} (e:l=A++x::B) (e':l=A'++x'::B') (h:A.length≤A'.length):(A.filter P).length≤(A'.filter P).length:=by
 have h1:A=l.take A.length:=by rw[e,A8]
 have h2:A'=l.take A'.length:=by rw[e',A8]
 have h3:A=A'.take A.length:=by rw[h2,List.take_take,Nat.min_eq_left h];exact h1
 rw[h3];exact ((List.take_sublist _ _).filter _).length_le
theorem qgk {P:rf5Op→Bool} {l A B A' B':List rf5Op} {x x':rf5Op} (e:l=A++x::B) (e':l=A'++x'::B') (hx:P x=true) (h:A.length<A'.length):(A.filter P).length<(A'.filter P).length:=by
 have h1:A++[x]=l.take (A.length+1):=by
  have:l=(A++[x])++B:=by rw[e];simp
  have h2:(A++[x]).length=A.length+1:=by simp
  rw[this,← h2,A8]
 have h2:A'=l.take A'.length:=by rw[e',A8]
 have h3:A++[x]=A'.take (A.length+1):=by rw[h2,List.take_take,Nat.min_eq_left (by omega)];exact h1
 have h4:((A++[x]).filter P).length≤(A'.filter P).length:=by rw[h3];exact ((List.take_sublist _ _).filter _).length_le
 rw[B7,B8 hx]at h4;simp at h4;omega
theorem qcY {P Q Q':rf5Op→Bool} {l:List rf5Op} (hQ:∀ x,Q x=true→P x=true) (hQ':∀ x,Q' x=true→P x=true) (h:∃ x,x∈l∧Q x=true) (h':∃ x,x∈l∧Q' x=true):(fstL Q (l.filter P) 0<fstL Q' (l.filter P) 0)↔(fstL Q l 0<fstL Q' l 0):=by
 obtain⟨A,x,B,e,hx,hA⟩:=UX h;obtain⟨A',x',B',e',hx',hA'⟩:=UX h'
 have f1:fstL Q l 0=((0+A.length:Nat):Int):=by rw[e];exact Hr hx B A 0 hA
 have f2:fstL Q' l 0=((0+A'.length:Nat):Int):=by rw[e'];exact Hr hx' B' A' 0 hA'
 have f3:fstL Q (l.filter P) 0=((0+(A.filter P).length:Nat):Int):=by
  rw[e,B7,B8 (hQ x hx)]
  exact Hr hx _ _ 0 fun y hy=>hA y (List.mem_filter.1 hy).1
 have f4:fstL Q' (l.filter P) 0=((0+(A'.filter P).length:Nat):Int):=by
  rw[e',B7,B8 (hQ' x' hx')]
  exact Hr hx' _ _ 0 fun y hy=>hA' y (List.mem_filter.1 hy).1
 rw[f1,f2,f3,f4];constructor
 ·intro h1;by_cases h2:A.length<A'.length
  ·omega
  ·have:=qgl (P:=P) e' e (by omega);omega
 ·intro h1;have:=qgk (P:=P) e e' (hQ x hx) (by omega);omega
theorem YD {α β:Type} {f g:α→List β}:∀ {l:List α},(∀ x,x∈l→f x=g x)→l.flatMap f=l.flatMap g
 | [],_=>rfl
 | a::l,hh=>by
  rw[List.flatMap_cons,List.flatMap_cons,hh a (by simp),YD fun x hx=>hh x (by simp[hx])]
variable {h:List rf5Op}
theorem qaf {t:Int} (ht:t∈commL h):∃ x,x∈h∧x.qg=t∧x.qi=2:=(NQ t 2 h 0).1 (Zl.1 ht).2
theorem qb {t:Int} (ht:t∈commL h):(∀ x:rf5Op,(x.qg == t)=true→doneB h x.qg=true)∧∃ x,x∈h∧(x.qg == t)=true:=by
 obtain⟨z,hz,h1,h2⟩:=qaf ht;refine⟨fun x hx=>?_,z,hz,by simp[h1]⟩;rw[eq_of_beq hx];exact QW.2 ⟨z,hz,h1,h2⟩
theorem qe {t:Int} (ht:t∈commL h):(∀ x:rf5Op,((x.qg == t) && (x.qi == 2))=true→doneB h x.qg=true)∧∃ x,x∈h∧((x.qg == t) && (x.qi == 2))=true:=by
 obtain⟨z,hz,h1,h2⟩:=qaf ht;refine⟨fun x hx=>?_,z,hz,by simp[h1,h2]⟩;rw[A1]at hx;rw[eq_of_beq hx.1];exact QW.2 ⟨z,hz,h1,h2⟩
theorem qaT {a b:Int} (ha:a∈commL h) (hb:b∈commL h):begL a (partL h) 0<endL b 2 (partL h) 0↔begL a h 0<endL b 2 h 0:=by
 rw[UB,UB,Yp,Yp,Xm];exact qcY (P:=fun x=>doneB h x.qg) (qb ha).1 (qe hb).1 (qb ha).2 (qe hb).2
theorem qgf {a b:Int} (ha:a∈commL h) (hb:b∈commL h):endL a 2 (partL h) 0<begL b (partL h) 0↔endL a 2 h 0<begL b h 0:=by
 rw[UB,UB,Yp,Yp,Xm];exact qcY (P:=fun x=>doneB h x.qg) (qe ha).1 (qb hb).1 (qe ha).2 (qb hb).2
theorem qdE {a b:Int} (ha:a∈commL h) (hb:b∈commL h):endL a 2 (partL h) 0<endL b 2 (partL h) 0↔endL a 2 h 0<endL b 2 h 0:=by
 rw[Yp,Yp,Yp,Yp,Xm];exact qcY (P:=fun x=>doneB h x.qg) (qe ha).1 (qe hb).1 (qe ha).2 (qe hb).2
theorem qaD {a b:Int} (ha:a∈commL h) (hb:b∈commL h):ovL (partL h) a b=ovL h a b:=by
 unfold ovL;rw[decide_eq_decide.2 (qaT ha hb),decide_eq_decide.2 (qaT hb ha)]
theorem Vq {a:Int} (ha:a∈commL h) (i:Int):writesL (partL h) a i=writesL h a i:=by
 unfold writesL;rw[Xm,List.any_filter];rw[B3,A9,A9];constructor
 ·rintro⟨x,hx,h1⟩
  rw[A1]at h1;exact⟨x,hx,h1.2⟩
 ·rintro⟨x,hx,h1⟩
  refine⟨x,hx,?_⟩;have h2:=h1;rw[A1]at h2;rw[(qb ha).1 x h2.1,h1];rfl
theorem qdl {a:Int} (ha:a∈commL h) (i:Int):readsL a i (partL h)=readsL a i h:=by
 have key:∀ l:List rf5Op,readsL a i (l.filter fun x=>doneB h x.qg)=readsL a i l:=by
  intro l
  induction l with
  | nil=>rfl
  | cons x l ih =>
   rw[C7];by_cases hx:x.qg=a
   ·rw[if_pos ((qb ha).1 x (by simp[hx]))];unfold readsL;rw[ih]
   ·have:(x.qg == a)=false:=beq_eq_false_iff_ne.2 hx
    have e:readsL a i (x::l)=readsL a i l:=by
     show (bif (x.qg == a) && _ then false else bif (x.qg == a) && _ then true else readsL a i l)=_;rw[this];rfl
    have e2:readsL a i (x::l.filter fun x=>doneB h x.qg)=readsL a i (l.filter fun x=>doneB h x.qg):=by
     show (bif (x.qg == a) && _ then false else bif (x.qg == a) && _ then true else readsL a i (l.filter fun x=>doneB h x.qg))=_;rw[this];rfl
    split
    ·rw[e2,ih,e]
    ·rw[ih,e]
 exact key h
theorem qeS {b:Int} (hb:b∈commL h) (i:Int):srcL (partL h) b i=srcL h b i:=by
 unfold srcL;rw[QX]
 have key:∀ (r:List Int) (z:Int),(∀ x,x∈r→x∈commL h)→(z=0∨z∈commL h)→r.foldl (srcStep (partL h) b i) z=r.foldl (srcStep h b i) z:=by
  intro r
  induction r with
  | nil=>intro z _ _;rfl
  | cons a r ih =>
   intro z hr hz;have ha:=hr a (by simp)
   have e:srcStep (partL h) b i z a=srcStep h b i z a:=by
    unfold srcStep;rw[Vq ha,decide_eq_decide.2 (qgf ha hb)]
    rcases hz with rfl | hz
    ·rfl
    ·rw[decide_eq_decide.2 (qdE hz ha)]
   rw[List.foldl_cons,List.foldl_cons,e];refine ih _ (fun x hx=>hr x (by simp[hx])) ?_;unfold srcStep
   cases (writesL h a i && (decide (endL a 2 h 0<begL b h 0) && ((z == 0) || decide (endL a 2 h 0 > endL z 2 h 0)))) with
   | true=>exact .inr ha
   | false=>exact hz
 exact key _ 0 (fun _ hx=>hx) (.inl rfl)
theorem qak {α:Type} {f g:α→Bool} {l:List α} (hh:∀ x,x∈l→f x=g x):l.all f=l.all g:=by
 rw[B3,A2,A2];exact⟨fun k x hx=>by rw[← hh x hx];exact k x hx,fun k x hx=>by rw[hh x hx];exact k x hx⟩
theorem qbD:okB (partL h)=okB h:=by
 unfold okB;rw[QX]
 refine qak fun a ha=>qak fun b hb=>?_
 congr 1
 funext i
 rw[qaD ha hb,Vq ha,Vq hb]
theorem Nf (a b:Int):antiB (partL h) a b=antiB h a b:=by
 unfold antiB;rw[QX]
 cases ha:(commL h).contains a with
 | false=>rfl
 | true =>
  cases hb:(commL h).contains b with
  | false=>rfl
  | true =>
   have ha:a∈commL h:=by simpa using ha
   have hb:b∈commL h:=by simpa using hb
   congr 4
   funext i
   rw[qdl ha,Vq hb,decide_eq_decide.2 (qaT ha hb)]
theorem qdW (a b:Int):restB (partL h) a b=restB h a b:=by
 unfold restB;rw[QX]
 cases ha:(commL h).contains a with
 | false=>rfl
 | true =>
  cases hb:(commL h).contains b with
  | false=>rfl
  | true =>
   have ha:a∈commL h:=by simpa using ha
   have hb:b∈commL h:=by simpa using hb
   congr 4
   funext i
   rw[qdl hb,Vq ha,Vq hb,qeS hb,decide_eq_decide.2 (qdE ha hb)]
theorem qeJ:allB (partL h)=allB h:=by
 funext a b
 unfold allB;rw[Nf,qdW]
theorem qdL:triR (partL h)=triR h:=by
 unfold triR;rw[QX]
 refine YD fun x hx=>YD fun y hy=>?_
 congr 1
 refine List.filter_congr fun z hz=>?_
 unfold triT;rw[Nf,Nf,qaD hx hy,qaD hy hz]
theorem qdR (hv:validB h=true):sordR (partL h)=sordR h:=by
 unfold sordR;rw[qbD,QX,qeJ,hv,show validB (partL h)=true from Xo hv _]
theorem qew (hv:validB h=true):dangR (partL h)=dangR h:=by
 unfold dangR;rw[qbD,qdL,hv,show validB (partL h)=true from Xo hv _]
end Go.AM
namespace Go.AM
open Go.Proofs
def NoAb (q:List rf5Op):Prop:=∀ x,x∈q→x.qi≠3
theorem qfy {q:List rf5Op} (h:NoAb q) (t:Int):decide (endL t 3 q 0 ≥ 0)=false:=by
 rw[decide_eq_false_iff_not,NQ]
 rintro⟨x,hx,_,h3⟩
 exact h x hx h3
theorem qfM {q:List rf5Op} (h:NoAb q) (i:Nat) (x p:rf5Op):wins q i x p=wrB x.qj p:=by
 unfold wins wrB;rw[qfy h];simp
theorem Hn (it:Int):∀ (l:List rf5Op) (s:Int→Int),lastS s l it=scanF (wrB it) (s it) l
 | [],s=>rfl
 | x::l,s=>by
  show lastS (stepW s x) l it=scanF (wrB it) (bif wrB it x then x.qg else s it) l;rw[Hn it l];rfl
theorem qgd {q pre r:List rf5Op} {x:rf5Op} (h:NoAb q) (hq:q=pre++x::r) (h0:x.qi=0):fromAt q pre.length x=lastS s0 pre x.qj:=by
 unfold fromAt
 have:(x.qi != 0)=false:=by rw[h0];rfl
 have htk:q.take pre.length=pre:=by rw[hq,A8]
 rw[this,cN,htk,Nk (W':=wrB x.qj) fun p _=>qfM h _ x p,Hn];have:=Ds (wrB x.qj) pre.reverse;rw[List.reverse_reverse]at this;exact this.symm
def last6 (f:Int→Int):List Int:=[f 0,f 1,f 2,f 3,f 4,f 5]
theorem qbr (t:Int) (pre:List rf5Op) (x:rf5Op) (s:Int→Int):readsW t (pre++[x]) s=readsW t pre s++(bif rdB t x then [lastS s pre x.qj] else []):=by
 rw[XR];show readsW t pre s++((bif rdB t x then [lastS s pre x.qj] else [])++[])=_;rw[B4]
theorem Dl {q:List rf5Op} (hq:NoAb q) (hi:∀ x,x∈q→0≤x.qj∧x.qj≤5):∀ (r pre:List rf5Op) (m:List (Int×List Int)),q=pre++r→(∀ t,mget keq1 [] t m=readsW t pre s0)→(∀ p,p∈m→p.2.length≤pre.length) →
  ∃ m',viewF (r.map cv) (fromL q r pre.length) m (last6 (lastS s0 pre))=⟨m',last6 (lastS s0 q)⟩∧(∀ t,mget keq1 [] t m'=readsW t q s0)∧∀ p,p∈m'→p.2.length≤q.length
 | [],pre,m,he,hm,hl=>by
  rw[B4]at he;subst he;exact⟨m,rfl,hm,hl⟩
 | x::r,pre,m,he,hm,hl=>by
  have hx:=hi x (by rw[he];simp)
  have e1:viewF ((x::r).map cv) (fromL q (x::r) pre.length) m (last6 (lastS s0 pre))=viewF (r.map cv) (fromL q r (pre++[x]).length) (vstep m (cv x) (fromAt q pre.length x)) (lstep (last6 (lastS s0 pre)) (cv x)):=by
   rw[B5,D0];rfl
  have e2:lstep (last6 (lastS s0 pre)) (cv x)=last6 (lastS s0 (pre++[x])):=by
   rw[Zz];show lstep (last6 (lastS s0 pre)) (cv x)=last6 (stepW (lastS s0 pre) x);unfold lstep stepW wrB last6;show (bif x.qi == 1 then ([_,_,_,_,_,_]:List Int).set x.qj.toNat x.qg else _)=_
   cases x.qi == 1 with
   | false=>rfl
   | true =>
    have h6:x.qj=0∨x.qj=1∨x.qj=2∨x.qj=3∨x.qj=4∨x.qj=5:=by omega
    rcases h6 with h | h | h | h | h | h <;> rw[h] <;> rfl
  rw[e1,e2];refine Dl hq hi r (pre++[x]) _ (by rw[he];simp) (fun t=>?_) (fun p hp=>?_)
  ·rw[qbr,← hm t];unfold vstep;show mget keq1 [] t (bif x.qi == 0 then mset keq1 x.qg (mget keq1 [] x.qg m++[fromAt q pre.length x]) m else m)=_;unfold rdB;by_cases h0:x.qi=0
   ·have b0:(x.qi == 0)=true:=by simp[h0]
    rw[b0,cT,VU,qgd hq he h0,Bool.and_true];by_cases ht:t=x.qg
    ·subst ht;simp
    ·have:(x.qg == t)=false:=by rw[beq_eq_false_iff_ne];exact fun e=>ht e.symm
     rw[if_neg ht,this,cN,B4]
   ·have b0:(x.qi == 0)=false:=beq_eq_false_iff_ne.2 h0;rw[b0,Bool.and_false,cN,cN,B4]
  ·unfold vstep at hp;rw[B5,D0]
   have hold:∀ p,p∈m→p.2.length≤pre.length+1:=fun p hp=>Nat.le_succ_of_le (hl p hp)
   have hget:(mget keq1 [] x.qg m).length≤pre.length:=by
    have:∀ (m:List (Int×List Int)),(∀ p,p∈m→p.2.length≤pre.length)→(mget keq1 [] x.qg m).length≤pre.length:=by
     intro m
     induction m with
     | nil=>intro _;exact Nat.zero_le _
     | cons y m ih =>
      intro h;unfold mget
      cases keq1 y.1 x.qg with
      | true=>exact h y (by simp)
      | false=>exact ih fun p hp=>h p (by simp[hp])
    exact this m hl
   cases hk:((cv x).qi == 0) with
   | false=>rw[hk]at hp;exact hold p hp
   | true =>
    rw[hk,cT]at hp
    have:∀ (m:List (Int×List Int)) (k:Int) (v:List Int),(∀ p,p∈m→p.2.length≤pre.length+1)→v.length≤pre.length+1→∀ p,p∈mset keq1 k v m→p.2.length≤pre.length+1:=by
     intro m k v
     induction m with
     | nil =>
      intro _ hv p hp
      have:p=(k,v):=by simpa[mset] using hp
      rw[this];exact hv
     | cons y m ih =>
      intro h hv p hp;unfold mset at hp
      cases hyk:keq1 y.1 k with
      | true =>
       rw[hyk,cT]at hp
       rcases List.mem_cons.1 hp with rfl | hp
       ·exact hv
       ·exact h p (by simp[hp])
      | false =>
       rw[hyk,cN]at hp
       rcases List.mem_cons.1 hp with rfl | hp
       ·exact h _ (by simp)
       ·exact ih (fun p hp=>h p (by simp[hp])) hv p hp
    refine this m _ _ hold ?_ p hp;rw[B5,D0];exact Nat.succ_le_succ hget
structure SeenAs (q:List rf5Op) (v:hsview):Prop where
 reads:∀ t,mget keq1 [] t v.JL=readsW t q s0
 last:v.Xz=last6 (lastS s0 q)
 len:∀ p,p∈v.JL→p.2.length≤q.length
theorem Dk {q:List rf5Op} (H:Hist q) (hq:NoAb q):∃ v,viewP bigFuel (q.map cv)=some v∧SeenAs q v:=by
 have hl:=H.len;obtain⟨m',h1,h2,h3⟩:=Dl hq H.item q [] [] rfl (fun t=>rfl) (fun p hp=>by cases hp);refine⟨⟨m',last6 (lastS s0 q)⟩,?_,h2,rfl,h3⟩;unfold viewP;rw[qfv H,A0]
 have hck:(decide ((q.map cv).length≤100000) && (decide ((fromL q q 0).length=(q.map cv).length) && (q.map cv).all okV))=true:=by
  simp only[A1,decide_eq_true_eq,A3,DS,A2];refine⟨by omega,trivial,fun x hx=>?_⟩;obtain⟨y,hy,rfl⟩:=List.mem_map.1 hx;have ht:=H.txn y hy;have hi:=H.item y hy;show (wfI .i64 y.qg && (!(y.qi == 1) || (decide (0≤y.qj) && decide (y.qj<6))))=true;rw[wf6 (by omega) (by omega),decide_eq_true hi.1,decide_eq_true (by omega)];simp
 rw[hck,qC];exact congrArg some h1
theorem qfb {p q:List rf5Op} {v w:hsview} (hv:SeenAs p v) (hw:SeenAs q w):sameP v w=sameV p q:=by
 unfold sameP sameV;rw[hv.last,hw.last];simp only[hv.reads,hw.reads]
 congr 1
theorem qcw (t:Int) (K:List hsOp→Option (List hsOp)):∀ (r:List rf5Op) (k:Nat) (v:List hsOp),v.length+r.length≤50000→qS t K (r.map cv) k v=K (v++(r.filter fun x=>x.qg == t).map cv)
 | [],k,v,_=>by rw[D1,qS.eq_1];simp
 | x::r,k,v,hl=>by
  have hl:v.length+(r.length+1)≤50000:=hl;rw[D2,qS.eq_2];unfold Jz;show (bif x.qg == t then _ else _)=_;rw[C7]
  cases hx:x.qg == t with
  | true =>
   rw[cT,capS (by omega) (by simp;omega),qC,qcw t K r (k+1) _ (by simp;omega)];simp
  | false =>
   rw[cN,qcw t K r (k+1) _ (by omega)];simp
theorem qeY {q:List rf5Op} (hq:q.length≤1000) (K:List hsOp→Option (List hsOp)):∀ (r:List Int) (k:Nat) (v:List hsOp),v.length+r.length * 1000≤40000→qI (q.map cv) K r k v=K (v++(serV q r).map cv)
 | [],k,v,_=>by rw[qI.eq_1];simp[serV]
 | t::r,k,v,hl=>by
  have hl:v.length+(r.length+1) * 1000≤40000:=hl;rw[qI.eq_2,jT (by rw[A3];omega),qC,qcw t _ q 0 v (by omega)];unfold jy;have:=A5 (fun x:rf5Op=>x.qg == t) q;rw[qeY hq K r (k+1) _ (by simp;omega)];have e:serV q (t::r)=(q.filter fun x=>x.qg == t)++serV q r:=rfl;rw[e];simp
theorem qcv {q:List rf5Op} (hq:q.length≤1000) {o:List Int} (ho:o.length≤6):JK (q.map cv) o=some ((serV q o).map cv):=by
 unfold JK;rw[jT (by omega),qC,qeY hq _ o 0 [] (by simp;omega)];simp[qT]
theorem qbi {q:List rf5Op} {o:List Int} {x:rf5Op} (h:x∈serV q o):x∈q:=by
 obtain⟨t,_,h⟩:=List.mem_flatMap.1 h;exact (List.mem_filter.1 h).1
theorem qbj (q:List rf5Op):∀ o:List Int,(serV q o).length≤o.length * q.length
 | []=>Nat.zero_le _
 | t::o=>by
  have e:serV q (t::o)=(q.filter fun x=>x.qg == t)++serV q o:=rfl;have h1:=A5 (fun x:rf5Op=>x.qg == t) q;have h2:=qbj q o;rw[e,B5,List.length_cons,Nat.succ_mul];omega
theorem qbQ {q r:List rf5Op} (H:Hist q) (hl:r.length≤1000) (hm:∀ x,x∈r→x∈q):Hist r :=
 ⟨hl,fun x hx=>H.txn x (hm x hx),fun x hx=>H.kind x (hm x hx),fun x hx=>H.item x (hm x hx),fun x hx=>H.zero x (hm x hx)⟩
theorem DB {h:List rf5Op} (hv:validB h=true):NoAb (partL h):=by
 intro x hx h3;obtain⟨h1,h2⟩:=List.mem_filter.1 hx;obtain⟨y,hy,e1,e2⟩:=QW.1 (show doneB h x.qg=true from h2);have hp:=((Vr h).1 hv).2.1
 have hne:x≠y:=fun e=>by rw[e,e2]at h3;cases h3
 obtain⟨i,hi⟩:=List.mem_iff_getElem?.1 h1;obtain⟨j,hj⟩:=List.mem_iff_getElem?.1 hy;obtain⟨hi1,hi2⟩:=List.getElem?_eq_some_iff.1 hi;obtain⟨hj1,hj2⟩:=List.getElem?_eq_some_iff.1 hj
 rcases Nat.lt_trichotomy i j with hlt | heq | hlt
 ·have:=List.pairwise_iff_getElem.1 hp i j hi1 hj1 hlt;rw[hi2,hj2]at this;exact this ⟨e1.symm,by omega⟩
 ·subst heq;rw[hi2]at hj2;exact hne hj2
 ·have:=List.pairwise_iff_getElem.1 hp j i hj1 hi1 hlt;rw[hi2,hj2]at this;exact this ⟨e1,by omega⟩
theorem qeZ {q:List rf5Op} (H:Hist q) (hq:NoAb q) (h40:q.length≤100) {want:hsview} (hw:SeenAs q want) {o:List Int} (ho:o.length≤6):seenO bigFuel (q.map cv) want o=some (sameV (serV q o) q):=by
 have hl:=qbj q o;have h6:o.length * q.length≤6 * 100:=Nat.mul_le_mul ho h40;obtain⟨v,h1,h2⟩:=Dk (qbQ H (by omega) (fun x hx=>qbi hx):Hist (serV q o)) (fun x hx=>hq x (qbi hx));unfold seenO;rw[qcv H.len ho,A0,h1,A0]
 have hck:(decide (v.Xz.length=6) && v.JL.all fun q=>decide (q.2.length≤100000))=true:=by
  rw[A1,decide_eq_true_eq,A2];refine⟨by rw[h2.last];rfl,fun p hp=>?_⟩;have:=h2.len p hp;rw[decide_eq_true_eq];omega
 rw[hck,qC,qfb h2 hw]
theorem qaY (h:List rf5Op):Uq bigFuel ((h.take 43).map cv)=some (viewR h):=by
 unfold Uq viewO viewR;rw[Yw,A0]
 cases hv:validB h with
 | false=>rfl
 | true =>
  obtain⟨H,hlen⟩:=ZB hv;have htk:h.take 43=h:=A6 (by omega);have hp40:(partL h).length≤100:=A4 (A5 _ _) (by omega)
  have HP:Hist (partL h):=qbQ H (by omega) fun x hx=>(List.mem_filter.1 hx).1
  obtain⟨want,h1,h2⟩:=Dk HP (DB hv);have hl6:=Jv h
  have hseen:∀ o:List Int,o.length≤6→seenO bigFuel ((partL h).map cv) want o=some (sameV (serV (partL h) o) (partL h)):=fun o ho=>qeZ HP (DB hv) hp40 h2 ho
  rw[htk,cT,US H,A0,h1,A0,QN H,A0]
  have hck:(decide ((commL h).length≤999) && ((commL h).all (wfI .i64) && (decide (commL h).Nodup && (decide (want.Xz.length=6) && (someF (commL h).length (commL h)).all fun o=>(seenO bigFuel ((partL h).map cv) want o).isSome))))=true:=by
   simp only[A1,decide_eq_true_eq,A2];refine⟨by omega,Vz,Qq h,by rw[h2.last];rfl,fun o ho=>?_⟩;rw[hseen o (by rw[(UJ _ _ o ho).1];exact hl6)];rfl
  rw[hck,qC,if_pos rfl,UY _ (Qq h),UY _ (Qq h)]
  have hfind:(permsF (commL h).length (commL h)).find? (fun o=>(seenO bigFuel ((partL h).map cv) want o).getD false)=(permsF (commL h).length (commL h)).find? fun o=>sameV (serV (partL h) o) (partL h):=by
   refine Hv fun o ho=>?_
   have hp:=(Uj (Qq h) (Nat.le_refl _) o).1 ho;rw[hseen o (by rw[hp.length_eq];exact hl6)];rfl
  rw[hfind]
  try (cases (permsF (commL h).length (commL h)).find? (fun o=>sameV (serV (partL h) o) (partL h)) <;> rfl)
end Go.AM
namespace Go.AM
open Go.Proofs
variable {h:List rf5Op}
structure GoodA (v:List Bool) (E:Int→Int→Prop):Prop where
 len:v.length=49
 mem:∀ a b,0≤a∧a≤6→0≤b∧b≤6→(at2 v a b=true↔E a b)
theorem GoodA.congr {v:List Bool} {E F:Int→Int→Prop} (g:GoodA v E) (he:∀ a b,E a b↔F a b):GoodA v F:=⟨g.len,fun a b ha hb=>(g.mem a b ha hb).trans (he a b)⟩
theorem GoodA.set {v:List Bool} {E:Int→Int→Prop} (g:GoodA v E) {a b:Int} (ha:0≤a∧a≤6) (hb:0≤b∧b≤6):GoodA (v.set ((0+Int.toNat a * 7)+Int.toNat b * 1) true) (fun c d=>E c d∨(c=a∧d=b)):=by
 refine⟨by rw[List.length_set];exact g.len,fun c d hc hd=>?_⟩;rw[qgg g.len hc hd ha hb,B6,g.mem c d hc hd,A1,beq_iff_eq,beq_iff_eq];exact or_congr Iff.rfl ⟨fun ⟨p,q⟩=>⟨p.symm,q.symm⟩,fun ⟨p,q⟩=>⟨p.symm,q.symm⟩⟩
end Go.AM
namespace Go.AM
open Go.Proofs
variable {h:List rf5Op}
abbrev K3:=List qn→Option (List qn×Int)
theorem Nt:∀ (p q:List qn),jV (p++q) (Qn) q p.length=some true
 | p,[]=>by rw[jV.eq_1];rfl
 | p,x::q=>by
  have h:idx (p++x::q) ((p.length:Nat):Int)=some x:=qcV (by simp);rw[jV.eq_2,h];simp only[A0,beq_self_eq_true,Bool.and_self,A7,cN];have:=Nt (p++[x]) q
  simpa using this
theorem qbU {l:List qn} (hl:l.length≤100000):QR l l=some true:=by
 unfold QR;rw[jT (by omega)];simp only[bne_self_eq_false,cN,qC];exact Nt [] l
theorem qeW (h:List rf5Op):(sordR h).1.length≤100:=by
 unfold sordR;split
 ·split
  ·split
   ·rename_i o ho;have:=NS _ _ _ ho;have:=Jv h;simp only;omega
   ·simp
  ·simp
 ·simp
theorem qfC (h:List rf5Op):(dangR h).1.length≤216:=by
 unfold dangR;split
 ·split
  ·exact qeN h
  ·simp
 ·simp
end Go.AM
namespace Go.AM
open Go.Proofs
def Qo (v46:Bool):Option Bool :=
 (some v46)
def qN (v54:Bool):Option Bool :=
 (some v54)
def jG (fuel:Nat) (a1:(List rf5Op)) (v15:(List hsOp)):Option Bool :=
 ((YB a1).bind fun w17=>((Xx fuel w17).bind fun w18=>((Xx fuel v15).bind fun w20=>((YB a1).bind fun w22=>((Vf fuel w22).bind fun w23=>((Vf fuel v15).bind fun w25=>((YB a1).bind fun w27=>((Uq fuel w27).bind fun w28=>((Uq fuel v15).bind fun w30=>((YB a1).bind fun w32=>((Qb fuel w32).bind fun w33=>((Qb fuel v15).bind fun w35=>((YB a1).bind fun w37=>((Zg fuel w37).bind fun w38=>((Zg fuel v15).bind fun w40=>(bif (w18.2 == 2) then ((Ze a1).bind fun w44=>(bif (!w44) then ((Yt fuel).bind fun w45=>((Qo) w45)) else ((Qo) false))) else ((Jn w18.1 w20.1).bind fun w48=>(bif w48 then (bif (w18.2 == w20.2) then ((Jn w23.1 w25.1).bind fun w49=>(bif w49 then (bif (w23.2 == w25.2) then ((Jn w28.1 w30.1).bind fun w50=>(bif w50 then (bif (w28.2 == w30.2) then ((Jn w33.1 w35.1).bind fun w51=>(bif w51 then (bif (w33.2 == w35.2) then ((QR w38.1 w40.1).bind fun w52=>(bif w52 then (bif (w38.2 == w40.2) then ((Yt fuel).bind fun w53=>((qN) w53)) else ((qN) false)) else ((qN) false))) else ((qN) false)) else ((qN) false))) else ((qN) false)) else ((qN) false))) else ((qN) false)) else ((qN) false))) else ((qN) false)) else ((qN) false)))))))))))))))))))
def JS (N1:((List hsOp)→Option Bool)) (v14:(List hsOp)):Option Bool :=
 (N1 v14)
def qW (a1:(List rf5Op)) (K4:((List hsOp)→Option Bool)):List hsOp→Nat→(List hsOp)→Option Bool
 | [],k1,v7=>(K4 v7)
 | x1::r1,k1,v7=>((YB a1).bind fun w11=>((Jg w11 (hsOp.mk x1.qg 2 0)).bind fun w12=>(bif w12 then (chk (capOk 24 ((v7++[x1])).length) ((JS (qW a1 K4 r1 (k1+1))) (v7++[x1]))) else ((JS (qW a1 K4 r1 (k1+1))) v7))))
def QV (fuel:Nat) (a1:(List rf5Op)):Option Bool :=
 ((YB a1).bind fun w6=>(chk (lenOk w6) (qW a1 (jG fuel a1) w6 0 ([]:(List hsOp)))))
theorem ZV (fuel:Nat) (a1:(List rf5Op)) (r:Bool) (h:QV fuel a1=some r):Run Try.prog (.call 16 [l43 none a1] (.bool r)):=by
 refine cW Try.func16 rfl (env0:=[(0,l43 none a1)]) ?_;unfold QV at h;refine W.seq ?_;let z0:=fun t=>EN ((0,l43 none a1)::t);refine W.rt (e2:=z0 []) ?_;refine W.seq ?_;let z1:=fun t=>z0 ((3,.nils)::t);refine W.rt (e2:=z1 []) ?_;refine W.seq<|W.join (σ:=((List hsOp))) (fun s=>z0 [(3,l44 (some 10300) s)]) (fun s=>(jG fuel a1) s=some r) (fun v15 h=>?_) (fun hK4=>?_)
 ·unfold jG at h;refine W.sr ?_;obtain⟨w17,hw17,h⟩:=qh h;let z2:=fun t=>z0 ((3,l44 (some 10300) v15)::t);let z3:=fun t=>z2 ((45,l43 none a1)::(46,l44 (some 46) w17)::t);refine WO.ck 1 (F:=18) (l:=[l43 none a1]) (C:=[]) (r:=l44 (some 1) w17) (Xk a1 w17 hw17) (e1:=z3 []) ?_;obtain⟨w18,hw18,h⟩:=qh h;refine WO.ck 0 (F:=17) (l:=[l44 none w17]) (C:=[]) (r:=.tup [l3 none w18.1,I6 w18.2]) (Zt fuel w17 w18 hw18) (e1:=z3 [(47,.tup [l3 none w18.1,I6 w18.2])]) ?_;let z4:=fun t=>z2 ((6,l3 none w18.1)::(7,I6 w18.2)::t);refine WO.fn (e2:=z4 []) ?_;refine W.sr ?_;obtain⟨w20,hw20,h⟩:=qh h;refine WO.ck 1 (F:=17) (l:=[l44 none v15]) (C:=[]) (r:=.tup [l3 none w20.1,I6 w20.2]) (Zt fuel v15 w20 hw20) (e1:=z4 [(51,l44 (some 10300) v15),(52,.tup [l3 none w20.1,I6 w20.2])]) ?_;let z5:=fun t=>z4 ((8,l3 none w20.1)::(9,I6 w20.2)::t);refine WO.fn (e2:=z5 []) ?_;refine W.sr ?_;obtain⟨w22,hw22,h⟩:=qh h;let z6:=fun t=>z5 ((56,l43 none a1)::(57,l44 (some 57) w22)::t);refine WO.ck 1 (F:=18) (l:=[l43 none a1]) (C:=[]) (r:=l44 (some 1) w22) (Xk a1 w22 hw22) (e1:=z6 []) ?_;obtain⟨w23,hw23,h⟩:=qh h;refine WO.ck 0 (F:=19) (l:=[l44 none w22]) (C:=[]) (r:=.tup [l3 none w23.1,I6 w23.2]) (Uh fuel w22 w23 hw23) (e1:=z6 [(58,.tup [l3 none w23.1,I6 w23.2])]) ?_;let z7:=fun t=>z5 ((10,l3 none w23.1)::(11,I6 w23.2)::t);refine WO.fn (e2:=z7 []) ?_;refine W.sr ?_;obtain⟨w25,hw25,h⟩:=qh h;refine WO.ck 1 (F:=19) (l:=[l44 none v15]) (C:=[]) (r:=.tup [l3 none w25.1,I6 w25.2]) (Uh fuel v15 w25 hw25) (e1:=z7 [(62,l44 (some 10300) v15),(63,.tup [l3 none w25.1,I6 w25.2])]) ?_;let z8:=fun t=>z7 ((12,l3 none w25.1)::(13,I6 w25.2)::t);refine WO.fn (e2:=z8 []) ?_;refine W.sr ?_;obtain⟨w27,hw27,h⟩:=qh h;let z9:=fun t=>z8 ((67,l43 none a1)::(68,l44 (some 68) w27)::t);refine WO.ck 1 (F:=18) (l:=[l43 none a1]) (C:=[]) (r:=l44 (some 1) w27) (Xk a1 w27 hw27) (e1:=z9 []) ?_;obtain⟨w28,hw28,h⟩:=qh h;refine WO.ck 0 (F:=30) (l:=[l44 none w27]) (C:=[]) (r:=.tup [l3 none w28.1,I6 w28.2]) (Nl fuel w27 w28 hw28) (e1:=z9 [(69,.tup [l3 none w28.1,I6 w28.2])]) ?_;let z10:=fun t=>z8 ((14,l3 none w28.1)::(15,I6 w28.2)::t);refine WO.fn (e2:=z10 []) ?_;refine W.sr ?_;obtain⟨w30,hw30,h⟩:=qh h;refine WO.ck 1 (F:=30) (l:=[l44 none v15]) (C:=[]) (r:=.tup [l3 none w30.1,I6 w30.2]) (Nl fuel v15 w30 hw30) (e1:=z10 [(73,l44 (some 10300) v15),(74,.tup [l3 none w30.1,I6 w30.2])]) ?_;let z11:=fun t=>z10 ((16,l3 none w30.1)::(17,I6 w30.2)::t);refine WO.fn (e2:=z11 []) ?_;refine W.sr ?_;obtain⟨w32,hw32,h⟩:=qh h;let z12:=fun t=>z11 ((78,l43 none a1)::(79,l44 (some 79) w32)::t);refine WO.ck 1 (F:=18) (l:=[l43 none a1]) (C:=[]) (r:=l44 (some 1) w32) (Xk a1 w32 hw32) (e1:=z12 []) ?_;obtain⟨w33,hw33,h⟩:=qh h;refine WO.ck 0 (F:=42) (l:=[l44 none w32]) (C:=[]) (r:=.tup [l3 none w33.1,I6 w33.2]) (XX fuel w32 w33 hw33) (e1:=z12 [(80,.tup [l3 none w33.1,I6 w33.2])]) ?_;let z13:=fun t=>z11 ((18,l3 none w33.1)::(19,I6 w33.2)::t);refine WO.fn (e2:=z13 []) ?_;refine W.sr ?_;obtain⟨w35,hw35,h⟩:=qh h;refine WO.ck 1 (F:=42) (l:=[l44 none v15]) (C:=[]) (r:=.tup [l3 none w35.1,I6 w35.2]) (XX fuel v15 w35 hw35) (e1:=z13 [(84,l44 (some 10300) v15),(85,.tup [l3 none w35.1,I6 w35.2])]) ?_;let z14:=fun t=>z13 ((20,l3 none w35.1)::(21,I6 w35.2)::t);refine WO.fn (e2:=z14 []) ?_;refine W.sr ?_;obtain⟨w37,hw37,h⟩:=qh h;let z15:=fun t=>z14 ((89,l43 none a1)::(90,l44 (some 90) w37)::t);refine WO.ck 1 (F:=18) (l:=[l43 none a1]) (C:=[]) (r:=l44 (some 1) w37) (Xk a1 w37 hw37) (e1:=z15 []) ?_
  obtain⟨w38,hw38,h⟩:=qh h;refine WO.ck 0 (F:=43) (l:=[l44 none w37]) (C:=[]) (r:=.tup [l64 none w38.1,I6 w38.2]) (VK fuel w37 w38 hw38) (e1:=z15 [(91,.tup [l64 none w38.1,I6 w38.2])]) ?_;let z16:=fun t=>z14 ((22,l64 none w38.1)::(23,I6 w38.2)::t);refine WO.fn (e2:=z16 []) ?_;refine W.sr ?_;obtain⟨w40,hw40,h⟩:=qh h;refine WO.ck 1 (F:=43) (l:=[l44 none v15]) (C:=[]) (r:=.tup [l64 none w40.1,I6 w40.2]) (VK fuel v15 w40 hw40) (e1:=z16 [(95,l44 (some 10300) v15),(96,.tup [l64 none w40.1,I6 w40.2])]) ?_;let y0:Env:=[(6,l3 none w18.1),(7,I6 w18.2),(8,l3 none w20.1),(9,I6 w20.2),(10,l3 none w23.1),(11,I6 w23.2),(12,l3 none w25.1),(13,I6 w25.2),(14,l3 none w28.1),(15,I6 w28.2),(16,l3 none w30.1),(17,I6 w30.2),(18,l3 none w33.1),(19,I6 w33.2),(20,l3 none w35.1),(21,I6 w35.2),(22,l64 none w38.1),(23,I6 w38.2),(24,l64 none w40.1),(25,I6 w40.2)];refine WO.fn (e2:=z0 y0) ?_;refine W.seq<|W.seq ?_;let z17:=fun t=>z0 ((6,l3 none w18.1)::(7,I6 w18.2)::(8,l3 none w20.1)::(9,I6 w20.2)::(10,l3 none w23.1)::(11,I6 w23.2)::(12,l3 none w25.1)::(13,I6 w25.2)::(14,l3 none w28.1)::(15,I6 w28.2)::(16,l3 none w30.1)::(17,I6 w30.2)::(18,l3 none w33.1)::(19,I6 w33.2)::(20,l3 none w35.1)::(21,I6 w35.2)::(22,l64 none w38.1)::(23,I6 w38.2)::(24,l64 none w40.1)::(25,I6 w40.2)::(100,.bool (w18.2 == 2))::t);refine W.rt (e2:=z17 []) ?_;refine W.ch (w18.2 == 2) h (fun h=>?_) (fun h=>?_)
  ·refine W.seq<|W.join (σ:=(Bool)) (fun s=>[(2,.bool s)]) (fun s=>(Qo) s=some r) (fun v46 h=>?_) (fun hK43=>?_)
   ·unfold Qo at h;refine W.wk (e:=[(2,.bool v46)]) ?_;cases h;exact W.rr
   refine W.rg ?_;obtain⟨w44,hw44,h⟩:=qh h;let z18:=fun t=>z17 ((101,l43 none a1)::(102,.bool w44)::t);refine WO.ck 1 (F:=20) (l:=[l43 none a1]) (C:=[]) (r:=.bool w44) (HU a1 w44 hw44) (e1:=z18 [])<|WO.bh 2 (fun b=>z18 [(103,.bool b),(104,.bool b)]) (!w44) h (fun h=>?_) (fun h=>?_)
   ·obtain⟨w45,hw45,h⟩:=qh h;refine WO.ck 0 (F:=21) (l:=[]) (C:=[]) (r:=.bool w45) (VJ fuel w45 hw45) (e1:=z18 [(103,.bool true),(104,.bool true),(105,.bool w45)])<|WO.fn (e2:=[(2,.bool w45)]) ?_;exact hK43 w45 h
   refine WO.fn (e2:=[(2,.bool false)]) ?_;exact hK43 false h
  refine W.skip ?_;let z19:=fun t=>EN ((6,l3 none w18.1)::(7,I6 w18.2)::(8,l3 none w20.1)::(9,I6 w20.2)::(10,l3 none w23.1)::(11,I6 w23.2)::(12,l3 none w25.1)::(13,I6 w25.2)::(14,l3 none w28.1)::(15,I6 w28.2)::(16,l3 none w30.1)::(17,I6 w30.2)::(18,l3 none w33.1)::(19,I6 w33.2)::(20,l3 none w35.1)::(21,I6 w35.2)::(22,l64 none w38.1)::(23,I6 w38.2)::(24,l64 none w40.1)::(25,I6 w40.2)::t);refine W.wk (e:=z19 [])<|W.seq<|W.join (σ:=(Bool)) (fun s=>[(2,.bool s)]) (fun s=>(qN) s=some r) (fun v54 h=>?_) (fun hK47=>?_)
  ·unfold qN at h;refine W.wk (e:=[(2,.bool v54)]) ?_;cases h;exact W.rr
  refine W.rg ?_;obtain⟨w48,hw48,h⟩:=qh h;let z20:=fun t=>z19 ((107,l3 none w18.1)::(108,l3 none w20.1)::t);refine WO.ck 2 (F:=24) (l:=[l3 none w18.1,l3 none w20.1]) (C:=[]) (r:=.bool w48) (Qa w18.1 w20.1 w48 hw48) (e1:=z20 [(109,.bool w48)])<|WO.bh 1 (fun b=>z20 [(109,.bool b),(110,.bool b)]) w48 h (fun h=>?_) (fun h=>?_)
  ·let z21:=fun t=>z20 ((109,.bool true)::(110,.bool true)::(111,I6 w18.2)::(112,I6 w20.2)::t);refine WO.bh 5 (fun b=>z21 [(113,.bool b),(114,.bool b),(115,.bool b)]) (w18.2 == w20.2) h (fun h=>?_) (fun h=>?_)
   ·obtain⟨w49,hw49,h⟩:=qh h;let z22:=fun t=>z21 ((113,.bool true)::(114,.bool true)::(115,.bool true)::(116,l3 none w23.1)::(117,l3 none w25.1)::t);refine WO.ck 2 (F:=24) (l:=[l3 none w23.1,l3 none w25.1]) (C:=[]) (r:=.bool w49) (Qa w23.1 w25.1 w49 hw49) (e1:=z22 [(118,.bool w49)])<|WO.bh 2 (fun b=>z22 [(118,.bool b),(119,.bool b),(120,.bool b)]) w49 h (fun h=>?_) (fun h=>?_)
    ·let z23:=fun t=>z22 ((118,.bool true)::(119,.bool true)::(120,.bool true)::(121,I6 w23.2)::(122,I6 w25.2)::t);refine WO.bh 5 (fun b=>z23 [(123,.bool b),(124,.bool b),(125,.bool b)]) (w23.2 == w25.2) h (fun h=>?_) (fun h=>?_)
     ·obtain⟨w50,hw50,h⟩:=qh h;let z24:=fun t=>z23 ((123,.bool true)::(124,.bool true)::(125,.bool true)::(126,l3 none w28.1)::(127,l3 none w30.1)::t);refine WO.ck 2 (F:=24) (l:=[l3 none w28.1,l3 none w30.1]) (C:=[]) (r:=.bool w50) (Qa w28.1 w30.1 w50 hw50) (e1:=z24 [(128,.bool w50)])<|WO.bh 2 (fun b=>z24 [(128,.bool b),(129,.bool b),(130,.bool b)]) w50 h (fun h=>?_) (fun h=>?_)
      ·let z25:=fun t=>z24 ((128,.bool true)::(129,.bool true)::(130,.bool true)::(131,I6 w28.2)::(132,I6 w30.2)::t);refine WO.bh 5 (fun b=>z25 [(133,.bool b),(134,.bool b),(135,.bool b)]) (w28.2 == w30.2) h (fun h=>?_) (fun h=>?_)
       ·obtain⟨w51,hw51,h⟩:=qh h;let z26:=fun t=>z25 ((133,.bool true)::(134,.bool true)::(135,.bool true)::(136,l3 none w33.1)::(137,l3 none w35.1)::t);refine WO.ck 2 (F:=24) (l:=[l3 none w33.1,l3 none w35.1]) (C:=[]) (r:=.bool w51) (Qa w33.1 w35.1 w51 hw51) (e1:=z26 [(138,.bool w51)])<|WO.bh 2 (fun b=>z26 [(138,.bool b),(139,.bool b),(140,.bool b)]) w51 h (fun h=>?_) (fun h=>?_)
        ·let z27:=fun t=>z26 ((138,.bool true)::(139,.bool true)::(140,.bool true)::(141,I6 w33.2)::(142,I6 w35.2)::t);refine WO.bh 5 (fun b=>z27 [(143,.bool b),(144,.bool b),(145,.bool b)]) (w33.2 == w35.2) h (fun h=>?_) (fun h=>?_)
         ·obtain⟨w52,hw52,h⟩:=qh h;let z28:=fun t=>z27 ((143,.bool true)::(144,.bool true)::(145,.bool true)::(146,l64 none w38.1)::(147,l64 none w40.1)::t);refine WO.ck 2 (F:=47) (l:=[l64 none w38.1,l64 none w40.1]) (C:=[]) (r:=.bool w52) (VP w38.1 w40.1 w52 hw52) (e1:=z28 [(148,.bool w52)])<|WO.bh 2 (fun b=>z28 [(148,.bool b),(149,.bool b),(150,.bool b)]) w52 h (fun h=>?_) (fun h=>?_)
          ·let z29:=fun t=>z28 ((148,.bool true)::(149,.bool true)::(150,.bool true)::(151,I6 w38.2)::(152,I6 w40.2)::t);refine WO.bh 5 (fun b=>z29 [(153,.bool b),(154,.bool b),(155,.bool b)]) (w38.2 == w40.2) h (fun h=>?_) (fun h=>?_)
           ·obtain⟨w53,hw53,h⟩:=qh h;refine WO.ck 0 (F:=21) (l:=[]) (C:=[]) (r:=.bool w53) (VJ fuel w53 hw53) (e1:=z29 [(153,.bool true),(154,.bool true),(155,.bool true),(156,.bool w53)])<|WO.fn (e2:=[(2,.bool w53)]) ?_;exact hK47 w53 h
           refine WO.fn (e2:=[(2,.bool false)]) ?_;exact hK47 false h
          refine WO.fn (e2:=[(2,.bool false)]) ?_;exact hK47 false h
         refine WO.fn (e2:=[(2,.bool false)]) ?_;exact hK47 false h
        refine WO.fn (e2:=[(2,.bool false)]) ?_;exact hK47 false h
       refine WO.fn (e2:=[(2,.bool false)]) ?_;exact hK47 false h
      refine WO.fn (e2:=[(2,.bool false)]) ?_;exact hK47 false h
     refine WO.fn (e2:=[(2,.bool false)]) ?_;exact hK47 false h
    refine WO.fn (e2:=[(2,.bool false)]) ?_;exact hK47 false h
   refine WO.fn (e2:=[(2,.bool false)]) ?_;exact hK47 false h
  refine WO.fn (e2:=[(2,.bool false)]) ?_;exact hK47 false h
 refine W.sr ?_;obtain⟨w6,hw6,h⟩:=qh h;let z30:=fun t=>z1 ((26,l43 none a1)::(27,l44 (some 27) w6)::t);refine WO.ck 1 (F:=18) (l:=[l43 none a1]) (C:=[]) (r:=l44 (some 1) w6) (Xk a1 w6 hw6) (e1:=z30 [])<|WO.pq 0 (jM jn w6) (e1:=z30 [(28,I6 (w6.length:Int))])<|WO.fn (e2:=z1 [(27,l44 (some 27) w6),(28,I6 (w6.length:Int)),(29,.int .i64 0)]) ?_;refine W.block ?_;obtain⟨hl1,h⟩:=qw h;refine W.weak [0,3,27,28,29] [] [(3,0,44,3,10300)] [] (env':=z0 [(3,l44 (some 10300) ([]:(List hsOp))),(27,l44 (some 27) w6),(28,I6 (w6.length:Int)),(29,I6 ((0:Nat):Int))]) (by kernel_rfl)<|W.range (σ:=((List hsOp))) w6 (fun k1 s=>z0 [(3,l44 (some 10300) s),(27,l44 (some 27) w6),(28,I6 (w6.length:Int)),(29,I6 (k1:Int))]) (fun r0 k0 s=>qW a1 (jG fuel a1) r0 k0 s=some r) (fun v7 h=>?_) (fun x1 r1 k1 s hx1 hk1 h hN1=>?_) ([]:(List hsOp)) h
 ·have h:qW a1 (jG fuel a1) [] (w6).length v7=some r:=h;rw[qW.eq_1]at h;refine W.sr ?_;let y1:Env:=[(3,l44 (some 10300) v7),(27,l44 (some 27) w6),(28,I6 (w6.length:Int)),(29,I6 ((w6).length:Int)),(30,.bool false)];refine WO.pq 0 (jB (jN (l:=w6))) (e1:=z0 y1)<|WO.fn (e2:=z0 y1) ?_;refine W.seq<|W.cF<|W.exit<|W.wk (e:=z0 [(3,l44 (some 10300) v7)]) ?_;exact hK4 v7 h
 ·obtain⟨v7,rfl⟩:∃ x,x=s:=⟨s,rfl⟩;have h:qW a1 (jG fuel a1) (x1::r1) k1 v7=some r:=h;rw[qW.eq_2]at h;refine W.sr ?_;let y2:Env:=[(3,l44 (some 10300) v7),(27,l44 (some 27) w6),(28,I6 (w6.length:Int)),(29,I6 (k1:Int)),(30,.bool true)];refine WO.pq 0 (jB (Jr hk1)) (e1:=z0 y2)<|WO.fn (e2:=z0 y2) ?_;refine W.seq<|W.cT<|W.skip ?_;let y3:Env:=[(27,l44 (some 27) w6),(28,I6 (w6.length:Int)),(29,I6 (k1:Int))];let z31:=fun t=>z0 ((3,l44 (some 10300) v7)::t);refine W.wk (e:=z31 y3)<|W.seq<|W.join (σ:=((List hsOp))) (fun s=>z0 ((3,l44 (some 10300) s)::y3)) (fun s=>(JS (qW a1 (jG fuel a1) r1 (k1+1))) s=some r) (fun v14 h=>?_) (fun hK8=>?_)
  ·unfold JS at h;refine W.rg ?_;let z32:=fun t=>z0 ((3,l44 (some 10300) v14)::(27,l44 (some 27) w6)::(28,I6 (w6.length:Int))::t);refine WO.pq 0 (jI (jg hl1 hk1)) (e1:=z32 [(29,I6 (k1:Int)),(43,I6 ((k1+1:Nat):Int))])<|WO.fn (e2:=z32 [(29,I6 ((k1+1:Nat):Int))]) ?_;exact hN1 v14 h
  refine W.block<|W.sr<|WO.pq 0 (Js (f:=jn) hx1) (e1:=z31 [(27,l44 (some 27) w6),(28,I6 (w6.length:Int)),(29,I6 (k1:Int)),(31,.ptr (.agg [I6 x1.qg,I6 x1.qi,I6 x1.qj]))]) ?_;let z33:=fun t=>z31 ((5,.ptr (.agg [I6 x1.qg,I6 x1.qi,I6 x1.qj]))::t);refine WO.fi [0,3,5,27,28,29] [5] (e2:=z33 y3) ?_;refine W.sr ?_;obtain⟨w11,hw11,h⟩:=qh h;let z34:=fun t=>z33 ((27,l44 (some 27) w6)::(28,I6 (w6.length:Int))::(29,I6 (k1:Int))::t);let z35:=fun t=>z34 ((33,l43 none a1)::(34,l44 none w11)::t);refine WO.ck 1 (F:=18) (l:=[l43 none a1]) (C:=[]) (r:=l44 (some 1) w11) (Xk a1 w11 hw11) (e1:=z35 []) ?_;obtain⟨w12,hw12,h⟩:=qh h;refine WO.ck 3 (F:=38) (l:=[l44 none w11,.agg [I6 x1.qg,.int .i64 2,.int .i64 0]]) (C:=[]) (r:=.bool w12) (XV w11 (hsOp.mk x1.qg 2 0) w12 hw12) (e1:=z35 [(35,.ptr (I6 x1.qg)),(36,I6 x1.qg),(37,.agg [I6 x1.qg,.int .i64 2,.int .i64 0]),(38,.bool w12)])<|WO.fn (e2:=z34 [(38,.bool w12)]) ?_;refine W.ch w12 h (fun h=>?_) (fun h=>?_)
  ·refine W.rg ?_;obtain⟨hc13,h⟩:=qw h;refine WO.appendK 3 (d:=42) (e:=44) (s:=3) (bytes:=24) (xs:=(List.map jn v7)) (ys:=(List.map jn [x1])) (zs:=(List.map jn (v7++[x1]))) (env1:=[(0,l43 none a1),(3,l44 none v7),(5,.ptr (.agg [I6 x1.qg,I6 x1.qi,I6 x1.qj])),(27,l44 (some 27) w6),(28,I6 (w6.length:Int)),(29,I6 (k1:Int)),(38,.bool w12),(39,l44 none v7),(40,.agg [I6 x1.qg,I6 x1.qi,I6 x1.qj]),(41,l44 (some 41) [x1])]) (by kernel_rfl) (List.map_append.symm) (by rw[A3];exact hc13) (e1:=z0 [(3,l44 none v7),(5,.ptr (.agg [I6 x1.qg,I6 x1.qi,I6 x1.qj])),(27,l44 (some 27) w6),(28,I6 (w6.length:Int)),(29,I6 (k1:Int)),(38,.bool w12),(39,l44 none v7),(40,.agg [I6 x1.qg,I6 x1.qi,I6 x1.qj]),(41,l44 (some 41) [x1]),(42,l44 (some 42) (v7++[x1]))]) (by kernel_rfl) ?_;refine WO.fin [0,3,27,28,29] [] [] [(42,some 10300)] (e2:=z0 ((3,l44 (some 10300) (v7++[x1]))::y3)) (by kernel_rfl) (fun _ h=>h) ?_;exact hK8 (v7++[x1]) h
  refine W.sw (e:=z31 y3) ?_;exact hK8 v7 h
def hasC (l:List rf5Op) (t:Int):Bool:=l.any fun x=>(x.qg == t) && ((x.qi == 2) && (x.qj == 0))
theorem qdB (t:Int):∀ (l:List rf5Op) (k:Nat),∃ r:Int,qZ (hsOp.mk t 2 0) JA (l.map cv) k=some r∧decide (r ≥ 0)=hasC l t
 | [],k=>⟨-1,by rw[D1,qZ.eq_1];rfl,rfl⟩
 | x::l,k=>by
  obtain⟨r,h1,h2⟩:=qdB t l (k+1);rw[D2,qZ.eq_2,h1];unfold hasC at h2 ⊢;rw[List.any_cons,← h2];have e:((hsOp.mk t 2 0).qg == (cv x).qg)=(x.qg == t):=D3;have e2:((hsOp.mk t 2 0).qi == (cv x).qi)=(x.qi == 2):=D3;have e3:((hsOp.mk t 2 0).qj == (cv x).qj)=(x.qj == 0):=D3;rw[e,e2,e3,Bool.and_true]
  cases ((x.qg == t) && ((x.qi == 2) && (x.qj == 0))) with
  | true=>exact⟨(k:Int),rfl,by simp⟩
  | false=>exact⟨r,rfl,by rw[Bool.false_or]⟩
theorem qft {l:List rf5Op} (hl:l.length≤1000) (t:Int):Jg (l.map cv) (hsOp.mk t 2 0)=some (hasC l t):=by
 obtain⟨r,h1,h2⟩:=qdB t l 0;unfold Jg JW;rw[jT (by rw[A3];omega),qC,h1,A0,h2]
theorem qbz {h:List rf5Op} (hl:lenOk h=true) (K:List hsOp→Option Bool):∀ (r:List rf5Op) (k:Nat) (v:List hsOp),v.length+r.length≤1000→qW h K (r.map cv) k v=K (v++(r.filter fun x=>hasC (h.take 43) x.qg).map cv)
 | [],k,v,_=>by rw[D1,qW.eq_1];simp
 | x::r,k,v,hv=>by
  have hv:v.length+(r.length+1)≤1000:=hv
  have ih:=fun v' h'=>qbz hl K r (k+1) v' h'
  have h43:(h.take 43).length≤1000:=by rw[List.length_take];omega
  have hc:=qft h43 x.qg;rw[D2,qW.eq_2,qcK hl,A0];show ((Jg ((h.take 43).map cv) (hsOp.mk x.qg 2 0)).bind _)=_;rw[hc,A0,C7];unfold JS
  cases hasC (h.take 43) x.qg with
  | true =>
   simp only[cT,if_true];rw[capS (by omega) (by simp;omega),qC,ih _ (by simp;omega)];simp
  | false =>
   simp only[cN,Bool.false_eq_true,if_false];exact ih _ (by omega)
theorem qes {h:List rf5Op} (H:Hist h) (t:Int):hasC h t=doneB h t:=by
 rw[B3,QW];unfold hasC;rw[A9];constructor
 ·rintro⟨x,hx,h1⟩
  simp only[A1,beq_iff_eq]at h1;exact⟨x,hx,h1.1,h1.2.1⟩
 ·rintro⟨x,hx,h1,h2⟩
  refine⟨x,hx,?_⟩;simp only[A1,beq_iff_eq];exact⟨h1,h2,H.zero x hx (by omega)⟩
theorem Ur {h:List rf5Op} (hl:lenOk h=true):QV bigFuel h=some true:=by
 have h43:(h.take 43).length≤43:=by rw[List.length_take];omega
 unfold QV;rw[qcK hl,A0,jT (by rw[A3];omega),qC,qbz hl _ (h.take 43) 0 [] (by simp;omega),List.nil_append]
 obtain⟨q,hq⟩:∃ q,q=(h.take 43).filter fun x=>hasC (h.take 43) x.qg:=⟨_,rfl⟩
 have hq43:q.take 43=q:=A6 (by rw[hq];exact A4 (A5 _ _) h43);rw[← hq];have o1:=DC q;have o2:=qac q;have o3:=qaY q;have o4:=qbd q;have o5:=qbW q;rw[hq43]at o1 o2 o3 o4 o5;unfold jG;rw[qcK hl,A0,DC,A0,o1,A0,A0,qac,A0,o2,A0,A0,qaY,A0,o3,A0,A0,qbd,A0,o4,A0,A0,qbW,A0,o5,A0,qcy hl,qeD]
 cases hv:validB h with
 | false =>
  have e1:orderR h=([],2):=by unfold orderR;rw[hv];rfl
  rw[e1];rfl
 | true =>
  obtain⟨H,h40⟩:=ZB hv;have htk:h.take 43=h:=A6 (by omega)
  have hqp:q=partL h:=by
   rw[hq,htk,Xm]
   exact List.filter_congr fun x _=>qes H x.qg
  rw[hqp,qcJ hv,qda hv,qdG hv,qdR hv,qew hv];have l1:=qec h;have l2:=qex h;have l3:=qeL h;have l4:=qeW h;have l5:=qfC h
  have hne:((orderR h).2 == 2)=false:=by
   unfold orderR;rw[hv,if_pos rfl];cases topo (confL (partL h)) (commL h).length (commL h) <;> rfl
  rw[hne,cN,ZK (by omega),ZK (by omega),ZK (by omega),ZK (by omega),qbU (by omega)];simp[qN]
end Go.AM
namespace Go.AM
open Go.Proofs Go.Proofs.Ytoiejpkfpjingaa Go.ChangeShapes Go.WideShapes Go.ChangeAt Go.RowKit
theorem readsOp:Reads Try.prog 43 Xi (fun _=>True) :=
 qay (P := Try.prog) (size := 3) (fs := #[Field.mk "Txn" 3 0 false "" "" 0, Field.mk "Kind" 3 1 false "" "" 8, Field.mk "Item" 3 2 false "" "" 16]) (fun b : Int × Int × Int × Unit => (⟨b.1, b.2.1, b.2.2.1⟩ : rf5Op)) (by kernel_rfl) (by kernel_rfl)
  (ZH (f:=AV.int .i64) (ok:=fun n=>(Lit.int .i64 n).wf=true) (n:=1) (off':=1) rfl (by kernel_rfl) rfl (UR (k:=.i64) (by kernel_rfl)) (ZH (f:=AV.int .i64) (ok:=fun n=>(Lit.int .i64 n).wf=true) (n:=1) (off':=2) rfl (by kernel_rfl) rfl (UR (k:=.i64) (by kernel_rfl)) (ZH (f:=AV.int .i64) (ok:=fun n=>(Lit.int .i64 n).wf=true) (n:=1) (off':=3) rfl (by kernel_rfl) rfl (UR (k:=.i64) (by kernel_rfl)) (qbS rfl))))
  (fun b=>rfl) (fun b h=>trivial)
theorem qdZ:Reads Try.prog 23 (encL 43 3 Xi) (fun l=>l.length≤maxLen∧∀ d,d∈l→True) :=
 qbp (by kernel_rfl) (by kernel_rfl) (by decide) readsOp (fun _=>rfl) (fun _=>rfl)
theorem qep {α:Type} {l:List α} (h:l.length≤maxLen):lenOk l=true:=Nat.ble_eq_true_of_le (by unfold maxLen at h;omega)
theorem own:ownKnob Try.prog.godebug=none:=by kernel_rfl
theorem mixed:Try.prog.follows .mixedOrders=true:=by kernel_rfl
theorem laid:laidOutB Try.prog=true:=by kernel_rfl
end Go.AM
