/- s -/
import Derived.Test.YtdghpfejmlpjhaaRL12
import Derived.Test.YtdghpfejmlpjhaaAClose
import Derived.Test.YtdghpfejmlpjhaaRA1
import Derived.Test.YtdghpfejmlpjhaaChecked
import Derived.Test.YtdghpfejmlpjhaaRows
import Derived.ProofKit
import Derived.OpenShut
import Derived.Test.YtdghpfejmlpjhaaAWq
import Derived.Test.YtdghpfejmlpjhaaANil
import Derived.Test.YtdghpfejmlpjhaaASimJ
import Derived.Test.YtdghpfejmlpjhaaRCon3
import Derived.Test.YtdghpfejmlpjhaaRMT
import Derived.Test.YtdghpfejmlpjhaaRM1
set_option maxRecDepth 100000
set_option linter.unusedVariables false
set_option linter.unusedSimpArgs false
namespace Go.AM
open Go.Proofs
open Classical
theorem qfX {S:List Bool} {n:Nat} (hn:n<S.length) (m:Nat):(S.set n true).getD m false=if m=n then true else S.getD m false:=by
 simp only[List.getD_eq_getElem?_getD]
 by_cases h:m=n
 ·subst h;rw[List.getElem?_set_self hn,if_pos rfl];rfl
 ·rw[List.getElem?_set_ne (fun q=>h q.symm),if_neg h]
theorem qfz {S:List Bool} (hS:S.length=252) {g:rufact} (hg:okU1 g) (h:rufact):setB (S.set (codeF g) true) h↔setB S h∨h=g:=by
 have hlt:=Df hg;unfold setB;rw[qfX (by omega)]
 constructor
 ·rintro⟨h1,h2⟩
  split at h2
  ·rename_i he;exact .inr (qay h1 hg he)
  ·exact .inl ⟨h1,h2⟩
 ·rintro (⟨h1,h2⟩ | rfl)
  ·refine⟨h1,?_⟩
   split
   ·rfl
   ·exact h2
  ·exact⟨hg,by rw[if_pos rfl]⟩
end Go.AM
namespace Go.AM
open Go.Proofs
open Classical
structure StR (ar:Int→Nat) (out:List (rufact×Bool)) (S:List Bool):Prop where
 nt:NT out
 ar:arW ar (fun g=>g∈out.map Prod.fst)
 len:S.length=252
 same:∀ g,g∈out.map Prod.fst↔setB S g
def inS (v:List Int) (k:Nat) (r:rf3Rule):Bool:=v.getD r.qc.qb.toNat 0 == (k:Int)
def partS (v:List Int) (k:Nat) (l:List rf3Rule):List rf3Rule:=l.filter (inS v k)
theorem idx6 {v:List Int} (hv:v.length=6) {n:Int} (h:rel6 n):idx v n=some (v.getD n.toNat 0):=by
 have:=h.1;have:=h.2;unfold idx;rw[if_pos h.1,List.getD_eq_getElem?_getD,List.getElem?_eq_getElem (by omega)];rfl
theorem Nl {v:List Int} (hv:v.length=6) {b:Bool} (k1:Nat) (K:List ruRule→Option (List (rufact×Bool)×Bool)):∀ (l:List rf3Rule) (k:Nat) (acc:List ruRule),(∀ r,r∈l→rel6 r.qc.qb)→acc.length+l.length≤1000→jQ k1 (v,b) K (l.map toR) k acc=K (acc++(partS v k1 l).map toR)
 | [],k,acc,_,_=>by rw[List.map_nil,jQ];simp[partS]
 | r::l,k,acc,h,hl=>by
  have hr:=h r (List.mem_cons_self ..)
  have h':∀ q,q∈l→rel6 q.qc.qb:=fun q hq=>h q (List.mem_cons_of_mem _ hq)
  rw[List.length_cons]at hl;rw[List.map_cons,jQ];show (idx v r.qc.qb).bind _=_;rw[idx6 hv hr];simp only[Option.bind_some];unfold QP partS;rw[List.filter_cons]
  cases hq:inS v k1 r with
  | true =>
   have hq':(v.getD r.qc.qb.toNat 0 == (k1:Int))=true:=hq;rw[hq',cond_true,ZJ (XI (by omega) (by simp;omega)),Nl hv k1 K l (k+1) _ h' (by simp;omega)]
   simp[partS]
  | false =>
   have hq':(v.getD r.qc.qb.toNat 0 == (k1:Int))=false:=hq;rw[hq',cond_false,Nl hv k1 K l (k+1) _ h' (by omega)]
   simp[partS]
def toF (f:apiFact):rufact:=mkF f.qb f.qa
theorem qaH {f:apiFact} (h:groundP f):okU1 (toF f)∧argsF (toF f)=f.qa:=qfO h.1 h.2.1 h.2.2
theorem qgJ {f:apiFact} (h:groundP f):ZW f=some (toF f):=by
 have e:f=apiF (toF f):=by rw[NG,(qaH h).2];rfl
 calc ZW f=ZW (apiF (toF f)):=by rw[← e]
  _=some (toF f):=qgI
theorem Nx (K:List (rufact×Bool)→Option (List (rufact×Bool))):∀ (l:List apiFact) (k:Nat) (acc:List (rufact×Bool)),(∀ f,f∈l→groundP f)→NT acc→acc.length+l.length≤1000→JI K l k acc=K (addF acc (l.map toF))
 | [],k,acc,_,_,_=>by rw[JI];rfl
 | f::l,k,acc,h,hn,hl=>by
  have hf:=h f (List.mem_cons_self ..);rw[List.length_cons]at hl;have hw:=(qaH hf).1.wf;unfold wfF at hw;obtain⟨m1,m2,m3,m4⟩:=hn.mset (toF f)
  have hlen:(mset qp (toF f) true acc).length≤acc.length+1:=by
   by_cases hm:toF f∈acc.map Prod.fst
   ·have:∀ {l:List (rufact×Bool)},toF f∈l.map Prod.fst→(mset qp (toF f) true l).length=l.length:=by
     intro l
     induction l with
     | nil=>intro h;simp at h
     | cons p r ih =>
      intro h;unfold mset
      cases hq:qp p.1 (toF f) with
      | true=>rfl
      | false =>
       rw[cond_false,List.length_cons,List.length_cons,ih];rw[List.map_cons]at h
       rcases List.mem_cons.1 h with h | h
       ·exact absurd h.symm (Nv.1 hq)
       ·exact h
    rw[this hm];omega
   ·rw[m4 hm];omega
  rw[JI,qgJ hf];simp only[Option.bind_some];rw[ZJ hw,ZJ (by rw[Nat.blt_eq];omega),Nx K l (k+1) _ (fun g hg=>h g (List.mem_cons_of_mem _ hg)) m1 (by omega)];rfl
theorem qfE (K:List Bool→Option (List Bool)):∀ (l:List apiFact) (k:Nat) (S:List Bool),(∀ f,f∈l→groundP f)→S.length=252→∃ S',Zg K l k S=K S'∧S'.length=252∧∀ g,setB S' g↔setB S g∨g∈l.map toF
 | [],k,S,_,hS=>⟨S,by rw[Zg],hS,fun g=>by simp⟩
 | f::l,k,S,h,hS=>by
  have hf:=h f (List.mem_cons_self ..);obtain⟨h1,h2⟩:=qaH hf;have hlt:=Df h1;obtain⟨S',e1,e2,e3⟩:=qfE K l (k+1) (S.set (codeF (toF f)) true) (fun g hg=>h g (List.mem_cons_of_mem _ hg)) (by rw[List.length_set,hS]);refine⟨S',?_,e2,fun g=>?_⟩
  ·have hc:=qgi h1;rw[h2]at hc;replace hc:UC f.qb f.qa=_:=hc;rw[Zg,hc];simp only[Option.bind_some];rw[ZJ (decide_eq_true ⟨by omega,by omega,by omega⟩),ZJ (decide_eq_true (by omega)),Nat.zero_add,Nat.mul_one,Int.toNat_natCast];exact e1
  ·rw[e3,qfz hS h1,List.map_cons,List.mem_cons]
   constructor
   ·rintro ((h | h) | h)
    ·exact .inl h
    ·exact .inr (.inl h)
    ·exact .inr (.inr h)
   ·rintro (h | h | h)
    ·exact .inl (.inl h)
    ·exact .inl (.inr h)
    ·exact .inr h
theorem qdw {ar:Int→Nat} {l:List apiFact} (hl:l.length≤100) (h:∀ f,f∈l→groundP f) (har:∀ f,f∈l→f.qa.length=ar f.qb):∃ out S,Yu l=some out∧qfI l=some S∧StR ar out S:=by
 obtain⟨S,e1,e2,e3⟩:=qfE Nm l 0 (List.replicate 252 false) h (by simp);obtain⟨a1,a2,a3,a4⟩:=NT.empty.add (fr:=l.map toF)
 have hm:∀ g,g∈(addF [] (l.map toF)).map Prod.fst↔g∈l.map toF:=fun g=>by rw[a2];simp
 have h0:∀ g,¬ setB (List.replicate 252 false) g:=fun g hg=>by
  have:=hg.2;rw[List.getD_eq_getElem?_getD,List.getElem?_replicate]at this
  split at this <;> simp at this
 refine⟨addF [] (l.map toF),S,?_,?_,a1,fun g hg=>?_,e2,fun g=>?_⟩
 ·unfold Yu;rw[ZJ (qN (by omega)),Nx _ l 0 [] h NT.empty (by simp;omega)];rfl
 ·unfold qfI;rw[ZJ (qN (by omega)),e1];unfold Nm;rw[ZJ (decide_eq_true e2),ZJ (decide_eq_true ⟨e2,by simp⟩),ZJ (decide_eq_true e2)]
 ·obtain⟨f,hf,rfl⟩:=List.mem_map.1 ((hm g).1 hg);obtain⟨h1,h2⟩:=qaH (h f hf);exact⟨h1,by rw[h2];exact har f hf⟩
 ·rw[hm,e3];exact⟨.inr,fun q=>q.resolve_left (h0 g)⟩
end Go.AM
namespace Go.AM
open Go.Proofs
open Classical
def arOf (S:List Je) (rel:Int):Nat:=match S.find? fun s=>s.f_0 == rel with
 | some s=>s.f_1.toNat
 | none=>1
theorem qcB {S:List Je} (hS:conP S) {s:Je} (hs:s∈S):arOf S s.f_0=s.f_1.toNat:=by
 unfold arOf
 cases hf:S.find? fun t=>t.f_0 == s.f_0 with
 | none =>
  have:=List.find?_eq_none.1 hf s hs
  simp at this
 | some t =>
  have h1:=List.mem_of_find?_eq_some hf
  have h2:t.f_0=s.f_0:=by simpa using List.find?_some hf
  show t.f_1.toNat=s.f_1.toNat;rw[hS t h1 s hs h2]
abbrev szVR (l:List rf3Rule) (facts:List apiFact):List Je:=facts.map szF++l.flatMap sizesR
abbrev arVR (l:List rf3Rule) (facts:List apiFact):Int→Nat:=arOf (szVR l facts)
theorem VR.facts_ar {l:List rf3Rule} {facts:List apiFact} (h:VR l facts):∀ f,f∈facts→f.qa.length=arVR l facts f.qb:=fun f hf=>by
 have:=qcB h.2.2.2.2 (s:=szF f) (List.mem_append_left _ (List.mem_map.2 ⟨f,hf,rfl⟩));show _=arOf _ (szF f).f_0;rw[this];rfl
theorem VR.okL {l:List rf3Rule} {facts:List apiFact} (h:VR l facts):∀ r,r∈l→okL (arVR l facts) (toR r):=fun r hr=>by
 have h1:=h.2.2.2.1 r hr
 have h2:okU (toR r):=by rw[← qge h1];exact (qec r).2 h1
 refine⟨h2,fun a ha=>?_⟩
 have key:∀ t:rf2Atom,szA t∈sizesR r→t.qa.length=arVR l facts t.qb:=fun t ht=>by
  have:=qcB h.2.2.2.2 (s:=szA t) (List.mem_append_right _ (List.mem_flatMap.2 ⟨r,hr,ht⟩));show _=arOf _ (szA t).f_0;rw[this];rfl
 rcases List.mem_cons.1 ha with rfl | ha
 ·exact key r.qc (List.mem_cons_self ..)
 ·obtain⟨x,hx,rfl⟩:=List.mem_map.1 ha;obtain⟨y,hy,rfl⟩:=List.mem_map.1 hx;exact key y.qe (List.mem_cons_of_mem _ (List.mem_map.2 ⟨y,hy,rfl⟩))
theorem Zh {ar:Int→Nat} {l:List rf3Rule} (h:∀ r,r∈l→Go.AM.okL ar (toR r)):relsR l:=fun r hr=>by
 have h1:=h r hr;refine⟨XF h1.head.1,by have:=h1.1.1;simpa[toR] using this,fun b hb=>XF (h1.body (toL b) (List.mem_map.2 ⟨b,hb,rfl⟩)).1⟩
theorem Hy {ar:Int→Nat} {l:List rf3Rule} (h:∀ r,r∈l→Go.AM.okL ar (toR r)):relsU (l.map toR):=fun q hq=>by
 obtain⟨r,hr,rfl⟩:=List.mem_map.1 hq;have h1:=h r hr;exact⟨XF h1.head.1,h1.1.1,fun b hb=>XF (h1.body b hb).1⟩
theorem Dd (l:List rf3Rule):edgesU (l.map toR)=edgesR l:=by
 unfold edgesU edgesR;rw[List.flatMap_map];simp only[toR,List.map_map,Function.comp_def,toL,toA]
end Go.AM
namespace Go.AM
open Go.Proofs Go.Sort
open Classical
def keyOf (n:Nat):List Int:=(decF n).ql::argsF (decF n)
theorem qew {f:apiFact} (h:f.qa.length≤1000):Xo f f=some true:=by
 have key:∀ (r:List Int) (k:Nat),(∃ p:List Int,p.length=k∧f.qa=p++r)→jA f.qa Jh r k=some true:=by
  intro r
  induction r with
  | nil=>intro k _;rw[jA];rfl
  | cons x r ih =>
   rintro k ⟨p,hp,h2⟩
   have hi:idx f.qa (k:Int)=some x:=by
    unfold idx;rw[if_pos (by omega),Int.toNat_natCast,h2,List.getElem?_append_right (by omega),hp,Nat.sub_self];rfl
   rw[jA,hi];simp only[Option.bind_some,bne_self_eq_false,cond_false];exact ih (k+1) ⟨p++[x],by simp[hp],by rw[h2];simp⟩
 unfold Xo Yf;rw[beq_self_eq_true,cond_true,bne_self_eq_false,cond_false,ZJ (qN (by omega)),key f.qa 0 ⟨[],rfl,rfl⟩];rfl
theorem qbC {l:List apiFact} (hl:l.length≤1000) (h:∀ f,f∈l→f.qa.length≤1000):Zl l l=some true:=by
 have key:∀ (r:List apiFact) (k:Nat),(∃ p:List apiFact,p.length=k∧l=p++r)→qG l (fun y0 y1=>Xo y0 y1) qV r k=some true:=by
  intro r
  induction r with
  | nil=>intro k _;rw[qG];rfl
  | cons x r ih =>
   rintro k ⟨p,hp,h2⟩
   have hi:idx l (k:Int)=some x:=by
    unfold idx;rw[if_pos (by omega),Int.toNat_natCast,h2,List.getElem?_append_right (by omega),hp,Nat.sub_self];rfl
   rw[qG,hi];simp only[Option.bind_some];rw[qew (h x (by rw[h2];simp))];simp only[Option.bind_some,Bool.not_true,cond_false];exact ih (k+1) ⟨p++[x],by simp[hp],by rw[h2];simp⟩
 unfold Zl JV;rw[bne_self_eq_false,cond_false,ZJ (qN (by omega)),key l 0 ⟨[],rfl,rfl⟩];rfl
end Go.AM
namespace Go.AM
open Go.Proofs Go.Sort
open Classical
abbrev awR:List ruRule:=[(ruRule.mk (qj.mk 1 [0]) [(ruLit.mk false (qj.mk 0 [0]))])]
abbrev awF:List apiFact:=[(apiFact.mk 0 [3])]
theorem qcw (n:Nat):Qo (n+30) awR awF=some true:=by rfl
theorem qcx (n:Nat):Xy (n+30) awR awF=some ([(⟨0,3,0⟩,true),(⟨1,3,0⟩,true)],true):=by rfl
theorem qdJ:sortF (apis [((⟨0,3,0⟩:rufact),true),(⟨1,3,0⟩,true)])=[⟨0,[3]⟩,⟨1,[3]⟩]:=by
 show sortF [⟨0,[3]⟩,⟨1,[3]⟩]=_;unfold sortF;refine List.mergeSort_of_pairwise ?_;simp only[List.pairwise_cons,List.mem_cons,List.not_mem_nil,or_false,forall_eq,false_implies,implies_true,List.Pairwise.nil,and_true,Bool.not_eq_true'];rw[ltFf]
 decide
theorem qdK:Qg [((⟨0,3,0⟩:rufact),true),(⟨1,3,0⟩,true)]=some [⟨0,[3]⟩,⟨1,[3]⟩]:=by
 unfold Qg;rw[ZJ (by rfl),qdJ]
theorem qff (n:Nat):Xs (n+30)=some true:=by
 unfold Xs UB;rw[qcw];simp only[Option.bind_some,Bool.not_true,cond_false];rw[qcx];simp only[Option.bind_some,Bool.not_true,cond_false];rw[qdK];simp only[Option.bind_some];rw[show ((0:Int) == 0)=true from rfl,cond_true,qbC (by simp) (by simp)];rfl
end Go.AM
namespace Go.AM
open Go.Proofs Go.Proofs.Ytdghpfejmlpjhaa Go.ChangeShapes Go.WideShapes Go.ChangeAt Go.RowKit
abbrev wA (l:List Int):Prop:=l.length≤maxLen∧∀ x,x∈l→wfI .i64 x=true
abbrev wAt (a:rf2Atom):Prop:=wfI .i64 a.qb=true∧wA a.qa
abbrev wFa (f:apiFact):Prop:=wfI .i64 f.qb=true∧wA f.qa
abbrev wRu (r:rf3Rule):Prop:=wAt r.qc∧r.qd.length≤maxLen∧∀ b,b∈r.qd→wAt b.qe
theorem UD:Reads Try.prog 3 (AV.int .i64) (fun n=>wfI .i64 n=true):=qeA (P:=Try.prog) (t:=3) (k:=.i64) (by kernel_rfl)
theorem DR:Reads Try.prog 39 (encL 3 1 (AV.int .i64)) wA :=
 YM (by kernel_rfl) (by kernel_rfl) (by decide) UD (fun _=>rfl) (fun _=>rfl)
theorem qeD:Reads Try.prog 41 qg wFa :=
 Yg (P := Try.prog) (size := 2) (fs := #[Field.mk "Rel" 3 0 false "" "" 0, Field.mk "Args" 39 1 false "" "" 8]) (fun b : Int × List Int × Unit => (⟨b.1, b.2.1⟩ : apiFact)) (by kernel_rfl) (by kernel_rfl)
  (JY (f:=AV.int .i64) (ok:=fun n=>wfI .i64 n=true) (n:=1) (off':=1) rfl (by kernel_rfl) rfl UD (JY (f:=encL 3 1 (AV.int .i64)) (ok:=wA) (n:=1) (off':=2) rfl (by kernel_rfl) rfl DR (YO rfl)))
  (fun b=>rfl) (fun b h=>⟨h.1,h.2.1⟩)
theorem DS:Reads Try.prog 91 NB wAt :=
 Yg (P := Try.prog) (size := 2) (fs := #[Field.mk "Rel" 3 0 false "" "" 0, Field.mk "Args" 39 1 false "" "" 8]) (fun b : Int × List Int × Unit => (⟨b.1, b.2.1⟩ : rf2Atom)) (by kernel_rfl) (by kernel_rfl)
  (JY (f:=AV.int .i64) (ok:=fun n=>wfI .i64 n=true) (n:=1) (off':=1) rfl (by kernel_rfl) rfl UD (JY (f:=encL 3 1 (AV.int .i64)) (ok:=wA) (n:=1) (off':=2) rfl (by kernel_rfl) rfl DR (YO rfl)))
  (fun b=>rfl) (fun b h=>⟨h.1,h.2.1⟩)
theorem qfJ:Reads Try.prog 96 YE (fun b=>wAt b.qe) :=
 Yg (P := Try.prog) (size := 3) (fs := #[Field.mk "Not" 4 0 false "" "" 0, Field.mk "Atom" 91 1 false "" "" 8]) (fun b : Bool × rf2Atom × Unit => (⟨b.1, b.2.1⟩ : rf3Lit)) (by kernel_rfl) (by kernel_rfl)
  (JY (f:=AV.bool) (ok:=fun _=>True) (n:=1) (off':=1) rfl (by kernel_rfl) rfl (qcZ (by kernel_rfl)) (JY (f:=NB) (ok:=wAt) (n:=2) (off':=3) rfl (by kernel_rfl) rfl DS (YO rfl)))
  (fun b=>rfl) (fun b h=>h.2.1)
theorem qeC:Reads Try.prog 92 (encL 96 3 YE) (fun l=>l.length≤maxLen∧∀ b,b∈l→wAt b.qe) :=
 YM (by kernel_rfl) (by kernel_rfl) (by decide) qfJ (fun _=>rfl) (fun _=>rfl)
theorem qeB:Reads Try.prog 94 XR wRu :=
 Yg (P := Try.prog) (size := 3) (fs := #[Field.mk "Head" 91 0 false "" "" 0, Field.mk "Body" 92 2 false "" "" 32]) (fun b : rf2Atom × List rf3Lit × Unit => (⟨b.1, b.2.1⟩ : rf3Rule)) (by kernel_rfl) (by kernel_rfl)
  (JY (f:=NB) (ok:=wAt) (n:=2) (off':=2) rfl (by kernel_rfl) rfl DS (JY (f:=encL 96 3 YE) (ok:=fun l=>l.length≤maxLen∧∀ b,b∈l→wAt b.qe) (n:=1) (off':=3) rfl (by kernel_rfl) rfl qeC (YO rfl)))
  (fun b=>rfl) (fun b h=>⟨h.1,h.2.1⟩)
theorem qda:Reads Try.prog 22 (encL 94 3 XR) (fun l=>l.length≤maxLen∧∀ r,r∈l→wRu r) :=
 YM (by kernel_rfl) (by kernel_rfl) (by decide) qeB (fun _=>rfl) (fun _=>rfl)
theorem qdb:Reads Try.prog 23 (encL 41 2 qg) (fun l=>l.length≤maxLen∧∀ f,f∈l→wFa f) :=
 YM (by kernel_rfl) (by kernel_rfl) (by decide) qeD (fun _=>rfl) (fun _=>rfl)
theorem VC {α:Type} {l:List α} (h:l.length≤maxLen):lenOk l=true:=Nat.ble_eq_true_of_le (by unfold maxLen at h;omega)
theorem own:ownKnob Try.prog.godebug=none:=by kernel_rfl
theorem mixed:Try.prog.follows .mixedOrders=true:=by kernel_rfl
theorem laid:laidOutB Try.prog=true:=by kernel_rfl
end Go.AM
namespace Go.AM
open Go.Proofs
theorem Np {l:List Int} (h:wA l):okArgs l:=⟨VC h.1,h.2⟩
theorem qdk {l:List rf3Rule} (h:l.length≤maxLen∧∀ r,r∈l→wRu r):okRules l :=
 ⟨VC h.1,fun r hr=>⟨⟨(h.2 r hr).1.1,Np (h.2 r hr).1.2⟩,VC (h.2 r hr).2.1,fun b hb=>⟨((h.2 r hr).2.2 b hb).1,Np ((h.2 r hr).2.2 b hb).2⟩⟩⟩
theorem qdl {l:List apiFact} (h:l.length≤maxLen∧∀ f,f∈l→wFa f):okFacts l :=
 ⟨VC h.1,fun f hf=>⟨(h.2 f hf).1,Np (h.2 f hf).2⟩⟩
def bigFuel:Nat:=500
theorem big400:400≤bigFuel:=by decide
end Go.AM
namespace Go.AM
open Go.Proofs
end Go.AM
namespace Go.AM
open Go.Proofs
end Go.AM
namespace Go.AM
open Go.Proofs Go.Sort
open Classical
abbrev z6:List Int:=List.replicate 6 0
end Go.AM
namespace Go.AM
open Go.Proofs Go.Sort
open Classical
theorem qcC {f:rufact} (h:okU1 f):groundP (apiF f)∧toF (apiF f)=f:=by
  have h16:=Dm h
  have hl:1≤(argsF f).length∧(argsF f).length≤2:=by
    unfold argsF;split <;> simp
  rw[NG];refine⟨⟨⟨h.r0,h.r5⟩,hl,h16⟩,?_⟩;unfold toF mkF argsF;obtain⟨r,a,b⟩:=f
  by_cases hb:b=0
  · subst hb;rfl
  · simp only
    rw[if_neg hb];rfl
theorem qaP {out:List (rufact×Bool)} (hn:NT out) (ho:∀ g,g∈out.map Prod.fst→okU1 g):Qg out=some (sortF (apis out)):=by
  have hsm:=Ys hn.n ho;rw[List.length_map]at hsm;unfold Qg;rw[ZJ (by rw[Bool.and_eq_true,DZ hn.n,decide_eq_true (by omega)];exact⟨rfl,rfl⟩)]
end Go.AM
namespace Go.AM
open Go.Proofs
end Go.AM
