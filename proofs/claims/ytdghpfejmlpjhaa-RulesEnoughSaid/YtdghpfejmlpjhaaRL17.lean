/- s -/
import Derived.Test.YtdghpfejmlpjhaaRL13
set_option maxRecDepth 100000
set_option linter.unusedVariables false
set_option linter.unusedSimpArgs false
namespace Go.AM
open Go.Proofs
open Classical
structure StR (ar:Int→Nat) (out:List (rufact×Bool)) (S:List Bool):Prop where
 nt:NT out
 ar:arW ar (fun g=>g∈out.map Prod.fst)
 len:S.length=252
 same:∀ g,g∈out.map Prod.fst↔setB S g
theorem StR.arB {ar:Int→Nat} {out:List (rufact×Bool)} {S:List Bool} (h:StR ar out S):arW ar (setB S):=fun g hg=>h.ar g ((h.same g).2 hg)
def inS (v:List Int) (k:Nat) (r:rf3Rule):Bool:=v.getD r.qf.qb.toNat 0 == (k:Int)
def partS (v:List Int) (k:Nat) (l:List rf3Rule):List rf3Rule:=l.filter (inS v k)
theorem idx6 {v:List Int} (hv:v.length=6) {n:Int} (h:rel6 n):idx v n=some (v.getD n.toNat 0):=by
 have:=h.1;have:=h.2;unfold idx;rw[if_pos h.1,List.getD_eq_getElem?_getD,List.getElem?_eq_getElem (by omega)];rfl
theorem Hx {v:List Int} (hv:v.length=6) {b:Bool} (k1:Nat) (K:List ruRule→Option (List (rufact×Bool)×Bool)):∀ (l:List rf3Rule) (k:Nat) (acc:List ruRule),(∀ r,r∈l→rel6 r.qf.qb)→acc.length+l.length≤1000→Jf k1 (v,b) K (l.map toR) k acc=K (acc++(partS v k1 l).map toR)
 | [],k,acc,_,_=>by rw[List.map_nil,Jf];simp[partS]
 | r::l,k,acc,h,hl=>by
  have hr:=h r (List.mem_cons_self ..)
  have h':∀ q,q∈l→rel6 q.qf.qb:=fun q hq=>h q (List.mem_cons_of_mem _ hq)
  rw[List.length_cons]at hl;rw[List.map_cons,Jf];show (idx v r.qf.qb).bind _=_;rw[idx6 hv hr];simp only[Option.bind_some];unfold XC partS;rw[List.filter_cons]
  cases hq:inS v k1 r with
  | true =>
   have hq':(v.getD r.qf.qb.toNat 0 == (k1:Int))=true:=hq;rw[hq',cond_true,VK (Qs (by omega) (by simp;omega)),Hx hv k1 K l (k+1) _ h' (by simp;omega)]
   simp[partS]
  | false =>
   have hq':(v.getD r.qf.qb.toNat 0 == (k1:Int))=false:=hq;rw[hq',cond_false,Hx hv k1 K l (k+1) _ h' (by omega)]
   simp[partS]
def toF (f:apiFact):rufact:=mkF f.qb f.qa
theorem Vq {f:apiFact} (h:groundP f):okU1 (toF f)∧argsF (toF f)=f.qa:=qho h.1 h.2.1 h.2.2
theorem qcG {f:apiFact} (h:groundP f):ZM f=some (toF f):=by
 have e:f=apiF (toF f):=by rw[UN,(Vq h).2];rfl
 calc ZM f=ZM (apiF (toF f)):=by rw[← e]
  _=some (toF f):=qim
theorem UF (K:List (rufact×Bool)→Option (List (rufact×Bool))):∀ (l:List apiFact) (k:Nat) (acc:List (rufact×Bool)),(∀ f,f∈l→groundP f)→NT acc→acc.length+l.length≤1000→Qf K l k acc=K (addF acc (l.map toF))
 | [],k,acc,_,_,_=>by rw[Qf];rfl
 | f::l,k,acc,h,hn,hl=>by
  have hf:=h f (List.mem_cons_self ..);rw[List.length_cons]at hl;have hw:=(Vq hf).1.wf;unfold wfF at hw;obtain⟨m1,m2,m3,m4⟩:=hn.mset (toF f)
  have hlen:(mset qm (toF f) true acc).length≤acc.length+1:=by
   by_cases hm:toF f∈acc.map Prod.fst
   ·have:∀ {l:List (rufact×Bool)},toF f∈l.map Prod.fst→(mset qm (toF f) true l).length=l.length:=by
     intro l
     induction l with
     | nil=>intro h;simp at h
     | cons p r ih =>
      intro h;unfold mset
      cases hq:qm p.1 (toF f) with
      | true=>rfl
      | false =>
       rw[cond_false,List.length_cons,List.length_cons,ih];rw[List.map_cons]at h
       rcases List.mem_cons.1 h with h | h
       ·exact absurd h.symm (HJ.1 hq)
       ·exact h
    rw[this hm];omega
   ·rw[m4 hm];omega
  rw[Qf,qcG hf];simp only[Option.bind_some];rw[VK hw,VK (by rw[Nat.blt_eq];omega),UF K l (k+1) _ (fun g hg=>h g (List.mem_cons_of_mem _ hg)) m1 (by omega)];rfl
theorem qhf (K:List Bool→Option (List Bool)):∀ (l:List apiFact) (k:Nat) (S:List Bool),(∀ f,f∈l→groundP f)→S.length=252→∃ S',Vg K l k S=K S'∧S'.length=252∧∀ g,setB S' g↔setB S g∨g∈l.map toF
 | [],k,S,_,hS=>⟨S,by rw[Vg],hS,fun g=>by simp⟩
 | f::l,k,S,h,hS=>by
  have hf:=h f (List.mem_cons_self ..);obtain⟨h1,h2⟩:=Vq hf;have hlt:=Zw h1;obtain⟨S',e1,e2,e3⟩:=qhf K l (k+1) (S.set (codeF (toF f)) true) (fun g hg=>h g (List.mem_cons_of_mem _ hg)) (by rw[List.length_set,hS]);refine⟨S',?_,e2,fun g=>?_⟩
  ·have hc:=qaC h1;rw[h2]at hc;replace hc:YN f.qb f.qa=_:=hc;rw[Vg,hc];simp only[Option.bind_some];rw[VK (decide_eq_true ⟨by omega,by omega,by omega⟩),VK (decide_eq_true (by omega)),Nat.zero_add,Nat.mul_one,Int.toNat_natCast];exact e1
  ·rw[e3,qdk hS h1,List.map_cons,List.mem_cons]
   constructor
   ·rintro ((h | h) | h)
    ·exact .inl h
    ·exact .inr (.inl h)
    ·exact .inr (.inr h)
   ·rintro (h | h | h)
    ·exact .inl (.inl h)
    ·exact .inl (.inr h)
    ·exact .inr h
theorem qeX {ar:Int→Nat} {l:List apiFact} (hl:l.length≤100) (h:∀ f,f∈l→groundP f) (har:∀ f,f∈l→f.qa.length=ar f.qb):∃ out S,Yl l=some out∧qeB l=some S∧StR ar out S:=by
 obtain⟨S,e1,e2,e3⟩:=qhf Hy l 0 (List.replicate 252 false) h (by simp);obtain⟨a1,a2,a3,a4⟩:=NT.empty.add (fr:=l.map toF)
 have hm:∀ g,g∈(addF [] (l.map toF)).map Prod.fst↔g∈l.map toF:=fun g=>by rw[a2];simp
 have h0:∀ g,¬ setB (List.replicate 252 false) g:=fun g hg=>by
  have:=hg.2;rw[List.getD_eq_getElem?_getD,List.getElem?_replicate]at this
  split at this <;> simp at this
 refine⟨addF [] (l.map toF),S,?_,?_,a1,fun g hg=>?_,e2,fun g=>?_⟩
 ·unfold Yl;rw[VK (qM (by omega)),UF _ l 0 [] h NT.empty (by simp;omega)];rfl
 ·unfold qeB;rw[VK (qM (by omega)),e1];unfold Hy;rw[VK (decide_eq_true e2),VK (decide_eq_true ⟨e2,by simp⟩),VK (decide_eq_true e2)]
 ·obtain⟨f,hf,rfl⟩:=List.mem_map.1 ((hm g).1 hg);obtain⟨h1,h2⟩:=Vq (h f hf);exact⟨h1,by rw[h2];exact har f hf⟩
 ·rw[hm,e3];exact⟨.inr,fun q=>q.resolve_left (h0 g)⟩
end Go.AM
namespace Go.AM
open Go.Proofs
open Classical
def arOf (S:List qi) (rel:Int):Nat:=match S.find? fun s=>s.f_0 == rel with
 | some s=>s.f_1.toNat
 | none=>1
theorem qeg {S:List qi} (hS:conP S) {s:qi} (hs:s∈S):arOf S s.f_0=s.f_1.toNat:=by
 unfold arOf
 cases hf:S.find? fun t=>t.f_0 == s.f_0 with
 | none =>
  have:=List.find?_eq_none.1 hf s hs
  simp at this
 | some t =>
  have h1:=List.mem_of_find?_eq_some hf
  have h2:t.f_0=s.f_0:=by simpa using List.find?_some hf
  show t.f_1.toNat=s.f_1.toNat;rw[hS t h1 s hs h2]
abbrev szVR (l:List rf3Rule) (facts:List apiFact):List qi:=facts.map szF++l.flatMap sizesR
abbrev arVR (l:List rf3Rule) (facts:List apiFact):Int→Nat:=arOf (szVR l facts)
theorem VR.facts_ar {l:List rf3Rule} {facts:List apiFact} (h:VR l facts):∀ f,f∈facts→f.qa.length=arVR l facts f.qb:=fun f hf=>by
 have:=qeg h.2.2.2.2 (s:=szF f) (List.mem_append_left _ (List.mem_map.2 ⟨f,hf,rfl⟩));show _=arOf _ (szF f).f_0;rw[this];rfl
theorem VR.okL {l:List rf3Rule} {facts:List apiFact} (h:VR l facts):∀ r,r∈l→okL (arVR l facts) (toR r):=fun r hr=>by
 have h1:=h.2.2.2.1 r hr
 have h2:okU (toR r):=by rw[← qhJ h1];exact (qfB r).2 h1
 refine⟨h2,fun a ha=>?_⟩
 have key:∀ t:rf2Atom,szA t∈sizesR r→t.qa.length=arVR l facts t.qb:=fun t ht=>by
  have:=qeg h.2.2.2.2 (s:=szA t) (List.mem_append_right _ (List.mem_flatMap.2 ⟨r,hr,ht⟩));show _=arOf _ (szA t).f_0;rw[this];rfl
 rcases List.mem_cons.1 ha with rfl | ha
 ·exact key r.qf (List.mem_cons_self ..)
 ·obtain⟨x,hx,rfl⟩:=List.mem_map.1 ha;obtain⟨y,hy,rfl⟩:=List.mem_map.1 hx;exact key y.qd (List.mem_cons_of_mem _ (List.mem_map.2 ⟨y,hy,rfl⟩))
theorem qhh {ar:Int→Nat} {l:List rf3Rule} (h:∀ r,r∈l→Go.AM.okL ar (toR r)):relsU (l.map toR):=fun q hq=>by
 obtain⟨r,hr,rfl⟩:=List.mem_map.1 hq;have h1:=h r hr;exact⟨Vl h1.head.1,h1.1.1,fun b hb=>Vl (h1.body b hb).1⟩
theorem qhI (l:List rf3Rule):edgesU (l.map toR)=edgesR l:=by
 unfold edgesU edgesR;rw[List.flatMap_map];simp only[toR,List.map_map,Function.comp_def,toL,toA]
end Go.AM
namespace Go.AM
open Go.Proofs Go.Sort
open Classical
def keyOf (n:Nat):List Int:=(decF n).qn::argsF (decF n)
theorem qfZ {f:apiFact} (h:f.qa.length≤1000):XZ f f=some true:=by
 have key:∀ (r:List Int) (k:Nat),(∃ p:List Int,p.length=k∧f.qa=p++r)→je f.qa Jb r k=some true:=by
  intro r
  induction r with
  | nil=>intro k _;rw[je];rfl
  | cons x r ih =>
   rintro k ⟨p,hp,h2⟩
   have hi:idx f.qa (k:Int)=some x:=by
    unfold idx;rw[if_pos (by omega),Int.toNat_natCast,h2,List.getElem?_append_right (by omega),hp,Nat.sub_self];rfl
   rw[je,hi];simp only[Option.bind_some,bne_self_eq_false,cond_false];exact ih (k+1) ⟨p++[x],by simp[hp],by rw[h2];simp⟩
 unfold XZ QM;rw[beq_self_eq_true,cond_true,bne_self_eq_false,cond_false,VK (qM (by omega)),key f.qa 0 ⟨[],rfl,rfl⟩];rfl
theorem qhc {l:List apiFact} (hl:l.length≤1000) (h:∀ f,f∈l→f.qa.length≤1000):Uf l l=some true:=by
 have key:∀ (r:List apiFact) (k:Nat),(∃ p:List apiFact,p.length=k∧l=p++r)→qG l (fun y0 y1=>XZ y0 y1) qY r k=some true:=by
  intro r
  induction r with
  | nil=>intro k _;rw[qG];rfl
  | cons x r ih =>
   rintro k ⟨p,hp,h2⟩
   have hi:idx l (k:Int)=some x:=by
    unfold idx;rw[if_pos (by omega),Int.toNat_natCast,h2,List.getElem?_append_right (by omega),hp,Nat.sub_self];rfl
   rw[qG,hi];simp only[Option.bind_some];rw[qfZ (h x (by rw[h2];simp))];simp only[Option.bind_some,Bool.not_true,cond_false];exact ih (k+1) ⟨p++[x],by simp[hp],by rw[h2];simp⟩
 unfold Uf Qz;rw[bne_self_eq_false,cond_false,VK (qM (by omega)),key l 0 ⟨[],rfl,rfl⟩];rfl
end Go.AM
namespace Go.AM
open Go.Proofs Go.Sort
open Classical
abbrev awR:List ruRule:=[(ruRule.mk (ql.mk 1 [0]) [(ruLit.mk false (ql.mk 0 [0]))])]
abbrev awF:List apiFact:=[(apiFact.mk 0 [3])]
theorem qeb (n:Nat):XL (n+30) awR awF=some true:=by rfl
theorem qec (n:Nat):Vd (n+30) awR awF=some ([(⟨0,3,0⟩,true),(⟨1,3,0⟩,true)],true):=by rfl
theorem qfi:sortF (apis [((⟨0,3,0⟩:rufact),true),(⟨1,3,0⟩,true)])=[⟨0,[3]⟩,⟨1,[3]⟩]:=by
 show sortF [⟨0,[3]⟩,⟨1,[3]⟩]=_;unfold sortF;refine List.mergeSort_of_pairwise ?_;simp only[List.pairwise_cons,List.mem_cons,List.not_mem_nil,or_false,forall_eq,false_implies,implies_true,List.Pairwise.nil,and_true,Bool.not_eq_true'];rw[ltFf]
 decide
theorem qfj:Xq [((⟨0,3,0⟩:rufact),true),(⟨1,3,0⟩,true)]=some [⟨0,[3]⟩,⟨1,[3]⟩]:=by
 unfold Xq;rw[VK (by rfl),qfi]
theorem qgJ (n:Nat):YB (n+30)=some true:=by
 unfold YB YM;rw[qeb];simp only[Option.bind_some,Bool.not_true,cond_false];rw[qec];simp only[Option.bind_some,Bool.not_true,cond_false];rw[qfj];simp only[Option.bind_some];rw[show ((0:Int) == 0)=true from rfl,cond_true,qhc (by simp) (by simp)];rfl
end Go.AM
