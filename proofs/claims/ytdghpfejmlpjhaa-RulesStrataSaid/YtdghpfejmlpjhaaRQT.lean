/- s -/
import Derived.Test.YtdghpfejmlpjhaaRL8
import Derived.Test.YtdghpfejmlpjhaaAClose
import Derived.Test.YtdghpfejmlpjhaaRAT
import Derived.Test.YtdghpfejmlpjhaaChecked
import Derived.Test.YtdghpfejmlpjhaaRows
import Derived.ProofKit
import Derived.OpenShut
import Derived.Test.YtdghpfejmlpjhaaAWq
import Derived.Test.YtdghpfejmlpjhaaAArr
import Derived.Test.YtdghpfejmlpjhaaASimJ
import Derived.Test.YtdghpfejmlpjhaaRCon3
import Derived.Test.YtdghpfejmlpjhaaRMT
import Derived.Test.YtdghpfejmlpjhaaRM1
set_option maxRecDepth 100000
set_option linter.unusedVariables false
set_option linter.unusedSimpArgs false
namespace Go.AM
open Go.Proofs
open Classical
structure okU1 (f:rufact):Prop where
 r0:0≤f.qq
 r5:f.qq≤5
 a1:1≤f.f_a
 a6:f.f_a≤6
 b0:0≤f.f_b
 b6:f.f_b≤6
def argsF (f:rufact):List Int:=if f.f_b=0 then [f.f_a] else [f.f_a,f.f_b]
def codeF (f:rufact):Nat:=(f.qq * 42+(if f.f_b=0 then f.f_a - 1 else f.f_a * 6+f.f_b - 1)).toNat
def decF (n:Nat):rufact:=if n % 42<6 then ⟨(n / 42:Nat),(n % 42+1:Nat),0⟩ else ⟨(n / 42:Nat),(n % 42 / 6:Nat),(n % 42 % 6+1:Nat)⟩
def fitA:List Int→List Int→List Int→Option (List Int)
 | v,[],_=>some v
 | v,_::_,[]=>none
 | v,x::xs,e::es=>if x<0 then (if 0 - x=e then fitA v xs es else none) else if v.getD x.toNat 0≠0∧v.getD x.toNat 0≠e then none else fitA (v.set x.toNat e) xs es
def groundA (v args:List Int):List Int:=args.map fun x=>if x<0 then 0 - x else v.getD x.toNat 0
def mkF (rel:Int) (g:List Int):rufact:=⟨rel,g.getD 0 0,g.getD 1 0⟩
def groundF (v:List Int) (a:qj):rufact:=mkF a.qb (groundA v a.qa)
end Go.AM
namespace Go.AM
open Go.Proofs
open Classical
def toA (a:rf2Atom):qj:=⟨a.qb,a.qa⟩
def toL (x:rf3Lit):ruLit:=⟨x.qi,toA x.qc⟩
def toR (r:rf3Rule):ruRule:=⟨toA r.qd,r.qe.map toL⟩
theorem qgg {a:rf2Atom} (h:fitP a.qb a.qa):cvA a=toA a:=by
 unfold cvA toA;rw[Ua h]
theorem qge {r:rf3Rule} (h:okR r):cvR r=toR r:=by
 unfold cvR toR;rw[qgg h.1,List.take_of_length_le (by have:=h.2.1;omega)]
 congr 1
 refine List.map_congr_left fun x hx=>?_
 unfold cvL toL;rw[qgg (h.2.2.1 x hx)]
def InstP (P:rufact→Prop):List ruLit→List Int→List Int→Prop
 | [],v,w=>w=v
 | x::body,v,w=>(x.qi=true∧InstP P body v w)∨(x.qi=false∧∃ g u,P g∧g.qq=x.qc.qb∧(argsF g).length=x.qc.qa.length∧fitA v x.qc.qa (argsF g)=some u∧InstP P body u w)
def setB (S:List Bool) (g:rufact):Prop:=okU1 g∧S.getD (codeF g) false=true
end Go.AM
namespace Go.AM
open Go.Proofs
open Classical
def okW (P:rufact→Prop):Prop:=∀ g,P g→okU1 g
theorem Nd {rel:Int} {args:List Int} (h:fitP rel args):rel6 rel:=h.1
def FreeP (N:rufact→Prop) (w:List Int) (body:List ruLit):Prop:=∀ x,x∈body→x.qi=true→¬ N (groundF w x.qc)
theorem HA {i:Int} (h1 : -1000≤i) (h2:i≤1000):wfI .i64 i=true:=by
 unfold wfI Lit.wf
 simp[IntKind.min,IntKind.max,IntKind.signed,IntKind.bits]
 omega
def arW (ar:Int→Nat) (P:rufact→Prop):Prop:=∀ g,P g→okU1 g∧(argsF g).length=ar g.qq
end Go.AM
namespace Go.AM
open Go.Proofs
open Classical
abbrev v0:List Int:=List.replicate 8 0
def ClosedR (L:List ruRule) (N X:rufact→Prop):Prop:=∀ r,r∈L→∀ w,InstP X r.qe v0 w→FreeP N w r.qe→X (groundF w r.qd)
structure LeastR (L:List ruRule) (N G X:rufact→Prop):Prop where
 sub:∀ g,G g→X g
 closed:ClosedR L N X
 least:∀ Q:rufact→Prop,(∀ g,G g→Q g)→ClosedR L N Q→∀ g,X g→Q g
theorem LeastR.same {L:List ruRule} {N N' G G' X X':rufact→Prop} (h:LeastR L N G X) (h':LeastR L N' G' X') (hN:∀ g,N g↔N' g) (hG:∀ g,G g↔G' g):∀ g,X g↔X' g:=by
 obtain rfl:N=N':=funext fun g=>propext (hN g)
 obtain rfl:G=G':=funext fun g=>propext (hG g)
 exact fun g=>⟨h.least X' h'.sub h'.closed g,h'.least X h.sub h.closed g⟩
def okL (ar:Int→Nat) (r:ruRule):Prop:=okU r∧∀ a,a∈atomsU r→a.qa.length=ar a.qb
theorem okL.body {ar:Int→Nat} {r:ruRule} (h:okL ar r):∀ x,x∈r.qe→fitP x.qc.qb x.qc.qa∧x.qc.qa.length=ar x.qc.qb:=fun x hx =>
 have hm:x.qc∈atomsU r:=List.mem_cons_of_mem _ (List.mem_map.2 ⟨x,hx,rfl⟩)
 ⟨h.1.2.2 _ hm,h.2 _ hm⟩
theorem okL.head {ar:Int→Nat} {r:ruRule} (h:okL ar r):fitP r.qd.qb r.qd.qa∧r.qd.qa.length=ar r.qd.qb :=
 ⟨h.1.2.2 _ (List.mem_cons_self ..),h.2 _ (List.mem_cons_self ..)⟩
theorem arW.ok {ar:Int→Nat} {P:rufact→Prop} (h:arW ar P):okW P:=fun g hg=>(h g hg).1
theorem okU1.wf {f:rufact} (h:okU1 f):wfF f=true:=by
 have:=h.r0;have:=h.r5;have:=h.a1;have:=h.a6;have:=h.b0;have:=h.b6;unfold wfF;rw[HA (by omega) (by omega),HA (by omega) (by omega),HA (by omega) (by omega)];rfl
end Go.AM
namespace Go.AM
open Go.Proofs
open Classical
end Go.AM
namespace Go.AM
open Go.Proofs
open Classical
structure StR (ar:Int→Nat) (out:List (rufact×Bool)) (S:List Bool):Prop where
 nt:NT out
 ar:arW ar (fun g=>g∈out.map Prod.fst)
 len:S.length=252
 same:∀ g,g∈out.map Prod.fst↔setB S g
def toF (f:apiFact):rufact:=mkF f.qb f.qa
end Go.AM
namespace Go.AM
open Go.Proofs
open Classical
def arOf (S:List ql) (rel:Int):Nat:=match S.find? fun s=>s.f_0 == rel with
 | some s=>s.f_1.toNat
 | none=>1
theorem qgo {S:List ql} (hS:conP S) {s:ql} (hs:s∈S):arOf S s.f_0=s.f_1.toNat:=by
 unfold arOf
 cases hf:S.find? fun t=>t.f_0 == s.f_0 with
 | none =>
  have:=List.find?_eq_none.1 hf s hs
  simp at this
 | some t =>
  have h1:=List.mem_of_find?_eq_some hf
  have h2:t.f_0=s.f_0:=by simpa using List.find?_some hf
  show t.f_1.toNat=s.f_1.toNat;rw[hS t h1 s hs h2]
abbrev szVR (l:List rf3Rule) (facts:List apiFact):List ql:=facts.map szF++l.flatMap sizesR
abbrev arVR (l:List rf3Rule) (facts:List apiFact):Int→Nat:=arOf (szVR l facts)
theorem VR.okL {l:List rf3Rule} {facts:List apiFact} (h:VR l facts):∀ r,r∈l→okL (arVR l facts) (toR r):=fun r hr=>by
 have h1:=h.2.2.2.1 r hr
 have h2:okU (toR r):=by rw[← qge h1];exact (qef r).2 h1
 refine⟨h2,fun a ha=>?_⟩
 have key:∀ t:rf2Atom,szA t∈sizesR r→t.qa.length=arVR l facts t.qb:=fun t ht=>by
  have:=qgo h.2.2.2.2 (s:=szA t) (List.mem_append_right _ (List.mem_flatMap.2 ⟨r,hr,ht⟩));show _=arOf _ (szA t).f_0;rw[this];rfl
 rcases List.mem_cons.1 ha with rfl | ha
 ·exact key r.qd (List.mem_cons_self ..)
 ·obtain⟨x,hx,rfl⟩:=List.mem_map.1 ha;obtain⟨y,hy,rfl⟩:=List.mem_map.1 hx;exact key y.qc (List.mem_cons_of_mem _ (List.mem_map.2 ⟨y,hy,rfl⟩))
theorem qcf {ar:Int→Nat} {l:List rf3Rule} (h:∀ r,r∈l→Go.AM.okL ar (toR r)):relsR l:=fun r hr=>by
 have h1:=h r hr;refine⟨Nd h1.head.1,by have:=h1.1.1;simpa[toR] using this,fun b hb=>Nd (h1.body (toL b) (List.mem_map.2 ⟨b,hb,rfl⟩)).1⟩
theorem qfG {ar:Int→Nat} {l:List rf3Rule} (h:∀ r,r∈l→Go.AM.okL ar (toR r)):relsU (l.map toR):=fun q hq=>by
 obtain⟨r,hr,rfl⟩:=List.mem_map.1 hq;have h1:=h r hr;exact⟨Nd h1.head.1,h1.1.1,fun b hb=>Nd (h1.body b hb).1⟩
theorem qgd (l:List rf3Rule):edgesU (l.map toR)=edgesR l:=by
 unfold edgesU edgesR;rw[List.flatMap_map];simp only[toR,List.map_map,Function.comp_def,toL,toA]
end Go.AM
namespace Go.AM
open Go.Proofs Go.Sort
open Classical
def keyOf (n:Nat):List Int:=(decF n).qq::argsF (decF n)
theorem qeB {f:apiFact} (h:f.qa.length≤1000):XZ f f=some true:=by
 have key:∀ (r:List Int) (k:Nat),(∃ p:List Int,p.length=k∧f.qa=p++r)→jq f.qa Jn r k=some true:=by
  intro r
  induction r with
  | nil=>intro k _;rw[jq];rfl
  | cons x r ih =>
   rintro k ⟨p,hp,h2⟩
   have hi:idx f.qa (k:Int)=some x:=by
    unfold idx;rw[if_pos (by omega),Int.toNat_natCast,h2,List.getElem?_append_right (by omega),hp,Nat.sub_self];rfl
   rw[jq,hi];simp only[Option.bind_some,bne_self_eq_false,cond_false];exact ih (k+1) ⟨p++[x],by simp[hp],by rw[h2];simp⟩
 unfold XZ Qg;rw[beq_self_eq_true,cond_true,bne_self_eq_false,cond_false,Vj (jh (by omega)),key f.qa 0 ⟨[],rfl,rfl⟩];rfl
theorem qfz {l:List apiFact} (hl:l.length≤1000) (h:∀ f,f∈l→f.qa.length≤1000):VC l l=some true:=by
 have key:∀ (r:List apiFact) (k:Nat),(∃ p:List apiFact,p.length=k∧l=p++r)→qI l (fun y0 y1=>XZ y0 y1) jk r k=some true:=by
  intro r
  induction r with
  | nil=>intro k _;rw[qI];rfl
  | cons x r ih =>
   rintro k ⟨p,hp,h2⟩
   have hi:idx l (k:Int)=some x:=by
    unfold idx;rw[if_pos (by omega),Int.toNat_natCast,h2,List.getElem?_append_right (by omega),hp,Nat.sub_self];rfl
   rw[qI,hi];simp only[Option.bind_some];rw[qeB (h x (by rw[h2];simp))];simp only[Option.bind_some,Bool.not_true,cond_false];exact ih (k+1) ⟨p++[x],by simp[hp],by rw[h2];simp⟩
 unfold VC QA;rw[bne_self_eq_false,cond_false,Vj (jh (by omega)),key l 0 ⟨[],rfl,rfl⟩];rfl
end Go.AM
namespace Go.AM
open Go.Proofs Go.Sort
open Classical
abbrev awR:List ruRule:=[(ruRule.mk (qj.mk 1 [0]) [(ruLit.mk false (qj.mk 0 [0]))])]
abbrev awF:List apiFact:=[(apiFact.mk 0 [3])]
theorem qcM (n:Nat):XJ (n+30) awR awF=some true:=by rfl
theorem qcN (n:Nat):UN (n+30) awR awF=some ([(⟨0,3,0⟩,true),(⟨1,3,0⟩,true)],true):=by rfl
theorem qdO:sortF (apis [((⟨0,3,0⟩:rufact),true),(⟨1,3,0⟩,true)])=[⟨0,[3]⟩,⟨1,[3]⟩]:=by
 show sortF [⟨0,[3]⟩,⟨1,[3]⟩]=_;unfold sortF;refine List.mergeSort_of_pairwise ?_;simp only[List.pairwise_cons,List.mem_cons,List.not_mem_nil,or_false,forall_eq,false_implies,implies_true,List.Pairwise.nil,and_true,Bool.not_eq_true'];rw[ltFf]
 decide
theorem qdP:YJ [((⟨0,3,0⟩:rufact),true),(⟨1,3,0⟩,true)]=some [⟨0,[3]⟩,⟨1,[3]⟩]:=by
 unfold YJ;rw[Vj (by rfl),qdO]
theorem qfh (n:Nat):Yf (n+30)=some true:=by
 unfold Yf UO;rw[qcM];simp only[Option.bind_some,Bool.not_true,cond_false];rw[qcN];simp only[Option.bind_some,Bool.not_true,cond_false];rw[qdP];simp only[Option.bind_some];rw[show ((0:Int) == 0)=true from rfl,cond_true,qfz (by simp) (by simp)];rfl
end Go.AM
namespace Go.AM
open Go.Proofs Go.Proofs.Ytdghpfejmlpjhaa Go.ChangeShapes Go.WideShapes Go.ChangeAt Go.RowKit
abbrev wA (l:List Int):Prop:=l.length≤maxLen∧∀ x,x∈l→wfI .i64 x=true
abbrev wAt (a:rf2Atom):Prop:=wfI .i64 a.qb=true∧wA a.qa
abbrev wRu (r:rf3Rule):Prop:=wAt r.qd∧r.qe.length≤maxLen∧∀ b,b∈r.qe→wAt b.qc
theorem De:Reads Try.prog 3 (AV.int .i64) (fun n=>wfI .i64 n=true):=qeG (P:=Try.prog) (t:=3) (k:=.i64) (by kernel_rfl)
theorem qeJ:Reads Try.prog 39 (encL 3 1 (AV.int .i64)) wA :=
 Vw (by kernel_rfl) (by kernel_rfl) (by decide) De (fun _=>rfl) (fun _=>rfl)
theorem qaj:Reads Try.prog 91 NN wAt :=
 ZZ (P := Try.prog) (size := 2) (fs := #[Field.mk "Rel" 3 0 false "" "" 0, Field.mk "Args" 39 1 false "" "" 8]) (fun b : Int × List Int × Unit => (⟨b.1, b.2.1⟩ : rf2Atom)) (by kernel_rfl) (by kernel_rfl)
  (XE (f:=AV.int .i64) (ok:=fun n=>wfI .i64 n=true) (n:=1) (off':=1) rfl (by kernel_rfl) rfl De (XE (f:=encL 3 1 (AV.int .i64)) (ok:=wA) (n:=1) (off':=2) rfl (by kernel_rfl) rfl qeJ (VG rfl)))
  (fun b=>rfl) (fun b h=>⟨h.1,h.2.1⟩)
theorem qfH:Reads Try.prog 96 jB (fun b=>wAt b.qc) :=
 ZZ (P := Try.prog) (size := 3) (fs := #[Field.mk "Not" 4 0 false "" "" 0, Field.mk "Atom" 91 1 false "" "" 8]) (fun b : Bool × rf2Atom × Unit => (⟨b.1, b.2.1⟩ : rf3Lit)) (by kernel_rfl) (by kernel_rfl)
  (XE (f:=AV.bool) (ok:=fun _=>True) (n:=1) (off':=1) rfl (by kernel_rfl) rfl (qdl (by kernel_rfl)) (XE (f:=NN) (ok:=wAt) (n:=2) (off':=3) rfl (by kernel_rfl) rfl qaj (VG rfl)))
  (fun b=>rfl) (fun b h=>h.2.1)
theorem qeI:Reads Try.prog 92 (encL 96 3 jB) (fun l=>l.length≤maxLen∧∀ b,b∈l→wAt b.qc) :=
 Vw (by kernel_rfl) (by kernel_rfl) (by decide) qfH (fun _=>rfl) (fun _=>rfl)
theorem qeH:Reads Try.prog 94 qK wRu :=
 ZZ (P := Try.prog) (size := 3) (fs := #[Field.mk "Head" 91 0 false "" "" 0, Field.mk "Body" 92 2 false "" "" 32]) (fun b : rf2Atom × List rf3Lit × Unit => (⟨b.1, b.2.1⟩ : rf3Rule)) (by kernel_rfl) (by kernel_rfl)
  (XE (f:=NN) (ok:=wAt) (n:=2) (off':=2) rfl (by kernel_rfl) rfl qaj (XE (f:=encL 96 3 jB) (ok:=fun l=>l.length≤maxLen∧∀ b,b∈l→wAt b.qc) (n:=1) (off':=3) rfl (by kernel_rfl) rfl qeI (VG rfl)))
  (fun b=>rfl) (fun b h=>⟨h.1,h.2.1⟩)
theorem qdm:Reads Try.prog 22 (encL 94 3 qK) (fun l=>l.length≤maxLen∧∀ r,r∈l→wRu r) :=
 Vw (by kernel_rfl) (by kernel_rfl) (by decide) qeH (fun _=>rfl) (fun _=>rfl)
theorem NJ {α:Type} {l:List α} (h:l.length≤maxLen):lenOk l=true:=Nat.ble_eq_true_of_le (by unfold maxLen at h;omega)
theorem own:ownKnob Try.prog.godebug=none:=by kernel_rfl
theorem mixed:Try.prog.follows .mixedOrders=true:=by kernel_rfl
theorem laid:laidOutB Try.prog=true:=by kernel_rfl
end Go.AM
namespace Go.AM
open Go.Proofs
theorem qap {l:List Int} (h:wA l):okArgs l:=⟨NJ h.1,h.2⟩
theorem qdu {l:List rf3Rule} (h:l.length≤maxLen∧∀ r,r∈l→wRu r):okRules l :=
 ⟨NJ h.1,fun r hr=>⟨⟨(h.2 r hr).1.1,qap (h.2 r hr).1.2⟩,NJ (h.2 r hr).2.1,fun b hb=>⟨((h.2 r hr).2.2 b hb).1,qap ((h.2 r hr).2.2 b hb).2⟩⟩⟩
def bigFuel:Nat:=500
theorem big400:400≤bigFuel:=by decide
end Go.AM
namespace Go.AM
open Go.Proofs
end Go.AM
namespace Go.AM
open Go.Proofs
end Go.AM
namespace Go.AM
open Go.Proofs Go.Sort
open Classical
abbrev z6:List Int:=List.replicate 6 0
end Go.AM
namespace Go.AM
open Go.Proofs Go.Sort
open Classical
end Go.AM
namespace Go.AM
open Go.Proofs
end Go.AM
