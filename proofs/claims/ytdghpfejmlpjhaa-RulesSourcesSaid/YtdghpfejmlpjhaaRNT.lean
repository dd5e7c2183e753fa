/- s -/
import Derived.Test.YtdghpfejmlpjhaaRL13
import Derived.Test.YtdghpfejmlpjhaaAClose
import Derived.Test.YtdghpfejmlpjhaaRAT
import Derived.Test.YtdghpfejmlpjhaaChecked
import Derived.Test.YtdghpfejmlpjhaaRows
import Derived.ProofKit
import Derived.OpenShut
import Derived.Test.YtdghpfejmlpjhaaAWq
import Derived.Test.YtdghpfejmlpjhaaAArr
import Derived.Test.YtdghpfejmlpjhaaASimJ
import Derived.Test.YtdghpfejmlpjhaaRCon3
import Derived.Test.YtdghpfejmlpjhaaRMT
import Derived.Test.YtdghpfejmlpjhaaRL1
set_option maxRecDepth 100000
set_option linter.unusedVariables false
set_option linter.unusedSimpArgs false
namespace Go.AM
open Go.Proofs
open Classical
structure StR (ar:Int→Nat) (out:List (rufact×Bool)) (S:List Bool):Prop where
 nt:NT out
 ar:arW ar (fun g=>g∈out.map Prod.fst)
 len:S.length=252
 same:∀ g,g∈out.map Prod.fst↔setB S g
theorem StR.arB {ar:Int→Nat} {out:List (rufact×Bool)} {S:List Bool} (h:StR ar out S):arW ar (setB S):=fun g hg=>h.ar g ((h.same g).2 hg)
def toF (f:apiFact):rufact:=mkF f.qb f.qa
theorem Nb {f:apiFact} (h:groundP f):okU1 (toF f)∧argsF (toF f)=f.qa:=qgQ h.1 h.2.1 h.2.2
theorem qcw {f:apiFact} (h:groundP f):ZU f=some (toF f):=by
 have e:f=apiF (toF f):=by rw[qbS,(Nb h).2];rfl
 calc ZU f=ZU (apiF (toF f)):=by rw[← e]
  _=some (toF f):=qhG
theorem HM (K:List (rufact×Bool)→Option (List (rufact×Bool))):∀ (l:List apiFact) (k:Nat) (acc:List (rufact×Bool)),(∀ f,f∈l→groundP f)→NT acc→acc.length+l.length≤1000→Qw K l k acc=K (addF acc (l.map toF))
 | [],k,acc,_,_,_=>by rw[Qw];rfl
 | f::l,k,acc,h,hn,hl=>by
  have hf:=h f (List.mem_cons_self ..);rw[List.length_cons]at hl;have hw:=(Nb hf).1.wf;unfold wfF at hw;obtain⟨m1,m2,m3,m4⟩:=hn.mset (toF f)
  have hlen:(mset qm (toF f) true acc).length≤acc.length+1:=by
   by_cases hm:toF f∈acc.map Prod.fst
   ·have:∀ {l:List (rufact×Bool)},toF f∈l.map Prod.fst→(mset qm (toF f) true l).length=l.length:=by
     intro l
     induction l with
     | nil=>intro h;simp at h
     | cons p r ih =>
      intro h;unfold mset
      cases hq:qm p.1 (toF f) with
      | true=>rfl
      | false =>
       rw[cond_false,List.length_cons,List.length_cons,ih];rw[List.map_cons]at h
       rcases List.mem_cons.1 h with h | h
       ·exact absurd h.symm (HI.1 hq)
       ·exact h
    rw[this hm];omega
   ·rw[m4 hm];omega
  rw[Qw,qcw hf];simp only[Option.bind_some];rw[VP hw,VP (by rw[Nat.blt_eq];omega),HM K l (k+1) _ (fun g hg=>h g (List.mem_cons_of_mem _ hg)) m1 (by omega)];rfl
theorem qgK (K:List Bool→Option (List Bool)):∀ (l:List apiFact) (k:Nat) (S:List Bool),(∀ f,f∈l→groundP f)→S.length=252→∃ S',Xz K l k S=K S'∧S'.length=252∧∀ g,setB S' g↔setB S g∨g∈l.map toF
 | [],k,S,_,hS=>⟨S,by rw[Xz],hS,fun g=>by simp⟩
 | f::l,k,S,h,hS=>by
  have hf:=h f (List.mem_cons_self ..);obtain⟨h1,h2⟩:=Nb hf;have hlt:=ZE h1;obtain⟨S',e1,e2,e3⟩:=qgK K l (k+1) (S.set (codeF (toF f)) true) (fun g hg=>h g (List.mem_cons_of_mem _ hg)) (by rw[List.length_set,hS]);refine⟨S',?_,e2,fun g=>?_⟩
  ·have hc:=qat h1;rw[h2]at hc;replace hc:Ya f.qb f.qa=_:=hc;rw[Xz,hc];simp only[Option.bind_some];rw[VP (decide_eq_true ⟨by omega,by omega,by omega⟩),VP (decide_eq_true (by omega)),Nat.zero_add,Nat.mul_one,Int.toNat_natCast];exact e1
  ·rw[e3,qcX hS h1,List.map_cons,List.mem_cons]
   constructor
   ·rintro ((h | h) | h)
    ·exact .inl h
    ·exact .inr (.inl h)
    ·exact .inr (.inr h)
   ·rintro (h | h | h)
    ·exact .inl (.inl h)
    ·exact .inl (.inr h)
    ·exact .inr h
theorem qeH {ar:Int→Nat} {l:List apiFact} (hl:l.length≤100) (h:∀ f,f∈l→groundP f) (har:∀ f,f∈l→f.qa.length=ar f.qb):∃ out S,Zv l=some out∧DS l=some S∧StR ar out S:=by
 obtain⟨S,e1,e2,e3⟩:=qgK XS l 0 (List.replicate 252 false) h (by simp);obtain⟨a1,a2,a3,a4⟩:=NT.empty.add (fr:=l.map toF)
 have hm:∀ g,g∈(addF [] (l.map toF)).map Prod.fst↔g∈l.map toF:=fun g=>by rw[a2];simp
 have h0:∀ g,¬ setB (List.replicate 252 false) g:=fun g hg=>by
  have:=hg.2;rw[List.getD_eq_getElem?_getD,List.getElem?_replicate]at this
  split at this <;> simp at this
 refine⟨addF [] (l.map toF),S,?_,?_,a1,fun g hg=>?_,e2,fun g=>?_⟩
 ·unfold Zv;rw[VP (jk (by omega)),HM _ l 0 [] h NT.empty (by simp;omega)];rfl
 ·unfold DS;rw[VP (jk (by omega)),e1];unfold XS;rw[VP (decide_eq_true e2),VP (decide_eq_true ⟨e2,by simp⟩),VP (decide_eq_true e2)]
 ·obtain⟨f,hf,rfl⟩:=List.mem_map.1 ((hm g).1 hg);obtain⟨h1,h2⟩:=Nb (h f hf);exact⟨h1,by rw[h2];exact har f hf⟩
 ·rw[hm,e3];exact⟨.inr,fun q=>q.resolve_left (h0 g)⟩
end Go.AM
namespace Go.AM
open Go.Proofs
open Classical
def arOf (S:List qj) (rel:Int):Nat:=match S.find? fun s=>s.f_0 == rel with
 | some s=>s.f_1.toNat
 | none=>1
theorem qdR {S:List qj} (hS:conP S) {s:qj} (hs:s∈S):arOf S s.f_0=s.f_1.toNat:=by
 unfold arOf
 cases hf:S.find? fun t=>t.f_0 == s.f_0 with
 | none =>
  have:=List.find?_eq_none.1 hf s hs
  simp at this
 | some t =>
  have h1:=List.mem_of_find?_eq_some hf
  have h2:t.f_0=s.f_0:=by simpa using List.find?_some hf
  show t.f_1.toNat=s.f_1.toNat;rw[hS t h1 s hs h2]
abbrev szVR (l:List rf3Rule) (facts:List apiFact):List qj:=facts.map szF++l.flatMap sizesR
abbrev arVR (l:List rf3Rule) (facts:List apiFact):Int→Nat:=arOf (szVR l facts)
theorem VR.facts_ar {l:List rf3Rule} {facts:List apiFact} (h:VR l facts):∀ f,f∈facts→f.qa.length=arVR l facts f.qb:=fun f hf=>by
 have:=qdR h.2.2.2.2 (s:=szF f) (List.mem_append_left _ (List.mem_map.2 ⟨f,hf,rfl⟩));show _=arOf _ (szF f).f_0;rw[this];rfl
theorem VR.okL {l:List rf3Rule} {facts:List apiFact} (h:VR l facts):∀ r,r∈l→okL (arVR l facts) (toR r):=fun r hr=>by
 have h1:=h.2.2.2.1 r hr
 have h2:okU (toR r):=by rw[← qhh h1];exact (qfj r).2 h1
 refine⟨h2,fun a ha=>?_⟩
 have key:∀ t:rf2Atom,szA t∈sizesR r→t.qa.length=arVR l facts t.qb:=fun t ht=>by
  have:=qdR h.2.2.2.2 (s:=szA t) (List.mem_append_right _ (List.mem_flatMap.2 ⟨r,hr,ht⟩));show _=arOf _ (szA t).f_0;rw[this];rfl
 rcases List.mem_cons.1 ha with rfl | ha
 ·exact key r.qf (List.mem_cons_self ..)
 ·obtain⟨x,hx,rfl⟩:=List.mem_map.1 ha;obtain⟨y,hy,rfl⟩:=List.mem_map.1 hx;exact key y.qd (List.mem_cons_of_mem _ (List.mem_map.2 ⟨y,hy,rfl⟩))
end Go.AM
namespace Go.AM
open Go.Proofs Go.Sort
open Classical
def keyOf (n:Nat):List Int:=(decF n).qn::argsF (decF n)
theorem qfG {f:apiFact} (h:f.qa.length≤1000):Yo f f=some true:=by
 have key:∀ (r:List Int) (k:Nat),(∃ p:List Int,p.length=k∧f.qa=p++r)→js f.qa Jr r k=some true:=by
  intro r
  induction r with
  | nil=>intro k _;rw[js];rfl
  | cons x r ih =>
   rintro k ⟨p,hp,h2⟩
   have hi:idx f.qa (k:Int)=some x:=by
    unfold idx;rw[if_pos (by omega),Int.toNat_natCast,h2,List.getElem?_append_right (by omega),hp,Nat.sub_self];rfl
   rw[js,hi];simp only[Option.bind_some,bne_self_eq_false,cond_false];exact ih (k+1) ⟨p++[x],by simp[hp],by rw[h2];simp⟩
 unfold Yo Xg;rw[beq_self_eq_true,cond_true,bne_self_eq_false,cond_false,VP (jk (by omega)),key f.qa 0 ⟨[],rfl,rfl⟩];rfl
theorem qgI {l:List apiFact} (hl:l.length≤1000) (h:∀ f,f∈l→f.qa.length≤1000):Uo l l=some true:=by
 have key:∀ (r:List apiFact) (k:Nat),(∃ p:List apiFact,p.length=k∧l=p++r)→qR l (fun y0 y1=>Yo y0 y1) jm r k=some true:=by
  intro r
  induction r with
  | nil=>intro k _;rw[qR];rfl
  | cons x r ih =>
   rintro k ⟨p,hp,h2⟩
   have hi:idx l (k:Int)=some x:=by
    unfold idx;rw[if_pos (by omega),Int.toNat_natCast,h2,List.getElem?_append_right (by omega),hp,Nat.sub_self];rfl
   rw[qR,hi];simp only[Option.bind_some];rw[qfG (h x (by rw[h2];simp))];simp only[Option.bind_some,Bool.not_true,cond_false];exact ih (k+1) ⟨p++[x],by simp[hp],by rw[h2];simp⟩
 unfold Uo QQ;rw[bne_self_eq_false,cond_false,VP (jk (by omega)),key l 0 ⟨[],rfl,rfl⟩];rfl
end Go.AM
namespace Go.AM
open Go.Proofs Go.Sort
open Classical
abbrev awR:List ruRule:=[(ruRule.mk (ql.mk 1 [0]) [(ruLit.mk false (ql.mk 0 [0]))])]
abbrev awF:List apiFact:=[(apiFact.mk 0 [3])]
theorem qdL (n:Nat):XY (n+30) awR awF=some true:=by rfl
theorem qdM (n:Nat):NK (n+30) awR awF=some ([(⟨0,3,0⟩,true),(⟨1,3,0⟩,true)],true):=by rfl
theorem qeR:sortF (apis [((⟨0,3,0⟩:rufact),true),(⟨1,3,0⟩,true)])=[⟨0,[3]⟩,⟨1,[3]⟩]:=by
 show sortF [⟨0,[3]⟩,⟨1,[3]⟩]=_;unfold sortF;refine List.mergeSort_of_pairwise ?_;simp only[List.pairwise_cons,List.mem_cons,List.not_mem_nil,or_false,forall_eq,false_implies,implies_true,List.Pairwise.nil,and_true,Bool.not_eq_true'];rw[ltFf]
 decide
theorem qeS:YZ [((⟨0,3,0⟩:rufact),true),(⟨1,3,0⟩,true)]=some [⟨0,[3]⟩,⟨1,[3]⟩]:=by
 unfold YZ;rw[VP (by rfl),qeR]
theorem qgq (n:Nat):YO (n+30)=some true:=by
 unfold YO NL;rw[qdL];simp only[Option.bind_some,Bool.not_true,cond_false];rw[qdM];simp only[Option.bind_some,Bool.not_true,cond_false];rw[qeS];simp only[Option.bind_some];rw[show ((0:Int) == 0)=true from rfl,cond_true,qgI (by simp) (by simp)];rfl
end Go.AM
namespace Go.AM
open Go.Proofs Go.Proofs.Ytdghpfejmlpjhaa Go.ChangeShapes Go.WideShapes Go.ChangeAt Go.RowKit
abbrev wA (l:List Int):Prop:=l.length≤maxLen∧∀ x,x∈l→wfI .i64 x=true
abbrev wAt (a:rf2Atom):Prop:=wfI .i64 a.qb=true∧wA a.qa
abbrev wFa (f:apiFact):Prop:=wfI .i64 f.qb=true∧wA f.qa
abbrev wRu (r:rf3Rule):Prop:=wAt r.qf∧r.qc.length≤maxLen∧∀ b,b∈r.qc→wAt b.qd
theorem DU:Reads Try.prog 3 (AV.int .i64) (fun n=>wfI .i64 n=true):=qfK (P:=Try.prog) (t:=3) (k:=.i64) (by kernel_rfl)
theorem qbf:Reads Try.prog 39 (encL 3 1 (AV.int .i64)) wA :=
 ZM (by kernel_rfl) (by kernel_rfl) (by decide) DU (fun _=>rfl) (fun _=>rfl)
theorem qbg:Reads Try.prog 41 qt wFa :=
 Zg (P := Try.prog) (size := 2) (fs := #[Field.mk "Rel" 3 0 false "" "" 0, Field.mk "Args" 39 1 false "" "" 8]) (fun b : Int × List Int × Unit => (⟨b.1, b.2.1⟩ : apiFact)) (by kernel_rfl) (by kernel_rfl)
  (QV (f:=AV.int .i64) (ok:=fun n=>wfI .i64 n=true) (n:=1) (off':=1) rfl (by kernel_rfl) rfl DU (QV (f:=encL 3 1 (AV.int .i64)) (ok:=wA) (n:=1) (off':=2) rfl (by kernel_rfl) rfl qbf (ZO rfl)))
  (fun b=>rfl) (fun b h=>⟨h.1,h.2.1⟩)
theorem qbh:Reads Try.prog 91 HP wAt :=
 Zg (P := Try.prog) (size := 2) (fs := #[Field.mk "Rel" 3 0 false "" "" 0, Field.mk "Args" 39 1 false "" "" 8]) (fun b : Int × List Int × Unit => (⟨b.1, b.2.1⟩ : rf2Atom)) (by kernel_rfl) (by kernel_rfl)
  (QV (f:=AV.int .i64) (ok:=fun n=>wfI .i64 n=true) (n:=1) (off':=1) rfl (by kernel_rfl) rfl DU (QV (f:=encL 3 1 (AV.int .i64)) (ok:=wA) (n:=1) (off':=2) rfl (by kernel_rfl) rfl qbf (ZO rfl)))
  (fun b=>rfl) (fun b h=>⟨h.1,h.2.1⟩)
theorem qgL:Reads Try.prog 96 JD (fun b=>wAt b.qd) :=
 Zg (P := Try.prog) (size := 3) (fs := #[Field.mk "Not" 4 0 false "" "" 0, Field.mk "Atom" 91 1 false "" "" 8]) (fun b : Bool × rf2Atom × Unit => (⟨b.1, b.2.1⟩ : rf3Lit)) (by kernel_rfl) (by kernel_rfl)
  (QV (f:=AV.bool) (ok:=fun _=>True) (n:=1) (off':=1) rfl (by kernel_rfl) rfl (qeo (by kernel_rfl)) (QV (f:=HP) (ok:=wAt) (n:=2) (off':=3) rfl (by kernel_rfl) rfl qbh (ZO rfl)))
  (fun b=>rfl) (fun b h=>h.2.1)
theorem qfM:Reads Try.prog 92 (encL 96 3 JD) (fun l=>l.length≤maxLen∧∀ b,b∈l→wAt b.qd) :=
 ZM (by kernel_rfl) (by kernel_rfl) (by decide) qgL (fun _=>rfl) (fun _=>rfl)
theorem qfL:Reads Try.prog 94 JR wRu :=
 Zg (P := Try.prog) (size := 3) (fs := #[Field.mk "Head" 91 0 false "" "" 0, Field.mk "Body" 92 2 false "" "" 32]) (fun b : rf2Atom × List rf3Lit × Unit => (⟨b.1, b.2.1⟩ : rf3Rule)) (by kernel_rfl) (by kernel_rfl)
  (QV (f:=HP) (ok:=wAt) (n:=2) (off':=2) rfl (by kernel_rfl) rfl qbh (QV (f:=encL 96 3 JD) (ok:=fun l=>l.length≤maxLen∧∀ b,b∈l→wAt b.qd) (n:=1) (off':=3) rfl (by kernel_rfl) rfl qfM (ZO rfl)))
  (fun b=>rfl) (fun b h=>⟨h.1,h.2.1⟩)
theorem qep:Reads Try.prog 22 (encL 94 3 JR) (fun l=>l.length≤maxLen∧∀ r,r∈l→wRu r) :=
 ZM (by kernel_rfl) (by kernel_rfl) (by decide) qfL (fun _=>rfl) (fun _=>rfl)
theorem qeq:Reads Try.prog 23 (encL 41 2 qt) (fun l=>l.length≤maxLen∧∀ f,f∈l→wFa f) :=
 ZM (by kernel_rfl) (by kernel_rfl) (by decide) qbg (fun _=>rfl) (fun _=>rfl)
theorem UI {α:Type} {l:List α} (h:l.length≤maxLen):lenOk l=true:=Nat.ble_eq_true_of_le (by unfold maxLen at h;omega)
theorem own:ownKnob Try.prog.godebug=none:=by kernel_rfl
theorem mixed:Try.prog.follows .mixedOrders=true:=by kernel_rfl
theorem laid:laidOutB Try.prog=true:=by kernel_rfl
end Go.AM
namespace Go.AM
open Go.Proofs
theorem UC {l:List Int} (h:wA l):okArgs l:=⟨UI h.1,h.2⟩
theorem qex {l:List rf3Rule} (h:l.length≤maxLen∧∀ r,r∈l→wRu r):okRules l :=
 ⟨UI h.1,fun r hr=>⟨⟨(h.2 r hr).1.1,UC (h.2 r hr).1.2⟩,UI (h.2 r hr).2.1,fun b hb=>⟨((h.2 r hr).2.2 b hb).1,UC ((h.2 r hr).2.2 b hb).2⟩⟩⟩
theorem qey {l:List apiFact} (h:l.length≤maxLen∧∀ f,f∈l→wFa f):okFacts l :=
 ⟨UI h.1,fun f hf=>⟨(h.2 f hf).1,UC (h.2 f hf).2⟩⟩
theorem qfV {f:apiFact} (h:wFa f):okFact f:=⟨h.1,UC h.2⟩
def bigFuel:Nat:=500
theorem big400:400≤bigFuel:=by decide
end Go.AM
namespace Go.AM
open Go.Proofs
end Go.AM
