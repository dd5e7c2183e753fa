/- s -/
import Derived.Test.YtdghpfejmlpjhaaRL16
import Derived.Test.YtdghpfejmlpjhaaAClose
import Derived.Test.YtdghpfejmlpjhaaRA1
import Derived.Test.YtdghpfejmlpjhaaChecked
import Derived.Test.YtdghpfejmlpjhaaRows
import Derived.ProofKit
import Derived.OpenShut
import Derived.Test.YtdghpfejmlpjhaaAWq
import Derived.Test.YtdghpfejmlpjhaaRKey
import Derived.Test.YtdghpfejmlpjhaaASimJ
import Derived.Test.YtdghpfejmlpjhaaRCon3
import Derived.Test.YtdghpfejmlpjhaaRMT
import Derived.Test.YtdghpfejmlpjhaaRM1
import Derived.Test.YtdghpfejmlpjhaaRL15
set_option maxRecDepth 100000
set_option linter.unusedVariables false
set_option linter.unusedSimpArgs false
namespace Go.AM
open Go.Proofs Go.Sort
open Classical
abbrev awR:List ruRule:=[(ruRule.mk (qj.mk 1 [0]) [(ruLit.mk false (qj.mk 0 [0]))])]
abbrev awF:List apiFact:=[(apiFact.mk 0 [3])]
theorem qdi (n:Nat):Qx (n+30) awR awF=some true:=by rfl
theorem qdj (n:Nat):Ya (n+30) awR awF=some ([(⟨0,3,0⟩,true),(⟨1,3,0⟩,true)],true):=by rfl
theorem qer:sortF (apis [((⟨0,3,0⟩:rufact),true),(⟨1,3,0⟩,true)])=[⟨0,[3]⟩,⟨1,[3]⟩]:=by
 show sortF [⟨0,[3]⟩,⟨1,[3]⟩]=_;unfold sortF;refine List.mergeSort_of_pairwise ?_;simp only[List.pairwise_cons,List.mem_cons,List.not_mem_nil,or_false,forall_eq,false_implies,implies_true,List.Pairwise.nil,and_true,Bool.not_eq_true'];rw[ltFf]
 decide
theorem qes:Jp [((⟨0,3,0⟩:rufact),true),(⟨1,3,0⟩,true)]=some [⟨0,[3]⟩,⟨1,[3]⟩]:=by
 unfold Jp;rw[ZU (by rfl),qer]
theorem qfR (n:Nat):XM (n+30)=some true:=by
 unfold XM Qz;rw[qdi];simp only[Option.bind_some,Bool.not_true,cond_false];rw[qdj];simp only[Option.bind_some,Bool.not_true,cond_false];rw[qes];simp only[Option.bind_some];rw[show ((0:Int) == 0)=true from rfl,cond_true,qco (by simp) (by simp)];rfl
end Go.AM
namespace Go.AM
open Go.Proofs Go.Proofs.Ytdghpfejmlpjhaa Go.ChangeShapes Go.WideShapes Go.ChangeAt Go.RowKit
abbrev wA (l:List Int):Prop:=l.length≤maxLen∧∀ x,x∈l→wfI .i64 x=true
abbrev wAt (a:rf2Atom):Prop:=wfI .i64 a.qb=true∧wA a.qa
abbrev wFa (f:apiFact):Prop:=wfI .i64 f.qb=true∧wA f.qa
abbrev wRu (r:rf3Rule):Prop:=wAt r.qf∧r.qd.length≤maxLen∧∀ b,b∈r.qd→wAt b.qe
theorem Dp:Reads Try.prog 3 (AV.int .i64) (fun n=>wfI .i64 n=true):=qfk (P:=Try.prog) (t:=3) (k:=.i64) (by kernel_rfl)
theorem qaB:Reads Try.prog 39 (encL 3 1 (AV.int .i64)) wA :=
 YU (by kernel_rfl) (by kernel_rfl) (by decide) Dp (fun _=>rfl) (fun _=>rfl)
theorem qfn:Reads Try.prog 41 qr wFa :=
 Yl (P := Try.prog) (size := 2) (fs := #[Field.mk "Rel" 3 0 false "" "" 0, Field.mk "Args" 39 1 false "" "" 8]) (fun b : Int × List Int × Unit => (⟨b.1, b.2.1⟩ : apiFact)) (by kernel_rfl) (by kernel_rfl)
  (JR (f:=AV.int .i64) (ok:=fun n=>wfI .i64 n=true) (n:=1) (off':=1) rfl (by kernel_rfl) rfl Dp (JR (f:=encL 3 1 (AV.int .i64)) (ok:=wA) (n:=1) (off':=2) rfl (by kernel_rfl) rfl qaB (YW rfl)))
  (fun b=>rfl) (fun b h=>⟨h.1,h.2.1⟩)
theorem qaC:Reads Try.prog 91 NR wAt :=
 Yl (P := Try.prog) (size := 2) (fs := #[Field.mk "Rel" 3 0 false "" "" 0, Field.mk "Args" 39 1 false "" "" 8]) (fun b : Int × List Int × Unit => (⟨b.1, b.2.1⟩ : rf2Atom)) (by kernel_rfl) (by kernel_rfl)
  (JR (f:=AV.int .i64) (ok:=fun n=>wfI .i64 n=true) (n:=1) (off':=1) rfl (by kernel_rfl) rfl Dp (JR (f:=encL 3 1 (AV.int .i64)) (ok:=wA) (n:=1) (off':=2) rfl (by kernel_rfl) rfl qaB (YW rfl)))
  (fun b=>rfl) (fun b h=>⟨h.1,h.2.1⟩)
theorem qgw:Reads Try.prog 96 YL (fun b=>wAt b.qe) :=
 Yl (P := Try.prog) (size := 3) (fs := #[Field.mk "Not" 4 0 false "" "" 0, Field.mk "Atom" 91 1 false "" "" 8]) (fun b : Bool × rf2Atom × Unit => (⟨b.1, b.2.1⟩ : rf3Lit)) (by kernel_rfl) (by kernel_rfl)
  (JR (f:=AV.bool) (ok:=fun _=>True) (n:=1) (off':=1) rfl (by kernel_rfl) rfl (qdK (by kernel_rfl)) (JR (f:=NR) (ok:=wAt) (n:=2) (off':=3) rfl (by kernel_rfl) rfl qaC (YW rfl)))
  (fun b=>rfl) (fun b h=>h.2.1)
theorem qfm:Reads Try.prog 92 (encL 96 3 YL) (fun l=>l.length≤maxLen∧∀ b,b∈l→wAt b.qe) :=
 YU (by kernel_rfl) (by kernel_rfl) (by decide) qgw (fun _=>rfl) (fun _=>rfl)
theorem qfl:Reads Try.prog 94 Yw wRu :=
 Yl (P := Try.prog) (size := 3) (fs := #[Field.mk "Head" 91 0 false "" "" 0, Field.mk "Body" 92 2 false "" "" 32]) (fun b : rf2Atom × List rf3Lit × Unit => (⟨b.1, b.2.1⟩ : rf3Rule)) (by kernel_rfl) (by kernel_rfl)
  (JR (f:=NR) (ok:=wAt) (n:=2) (off':=2) rfl (by kernel_rfl) rfl qaC (JR (f:=encL 96 3 YL) (ok:=fun l=>l.length≤maxLen∧∀ b,b∈l→wAt b.qe) (n:=1) (off':=3) rfl (by kernel_rfl) rfl qfm (YW rfl)))
  (fun b=>rfl) (fun b h=>⟨h.1,h.2.1⟩)
theorem qdL:Reads Try.prog 22 (encL 94 3 Yw) (fun l=>l.length≤maxLen∧∀ r,r∈l→wRu r) :=
 YU (by kernel_rfl) (by kernel_rfl) (by decide) qfl (fun _=>rfl) (fun _=>rfl)
theorem qdM:Reads Try.prog 23 (encL 41 2 qr) (fun l=>l.length≤maxLen∧∀ f,f∈l→wFa f) :=
 YU (by kernel_rfl) (by kernel_rfl) (by decide) qfn (fun _=>rfl) (fun _=>rfl)
theorem VP {α:Type} {l:List α} (h:l.length≤maxLen):lenOk l=true:=Nat.ble_eq_true_of_le (by unfold maxLen at h;omega)
theorem own:ownKnob Try.prog.godebug=none:=by kernel_rfl
theorem mixed:Try.prog.follows .mixedOrders=true:=by kernel_rfl
theorem laid:laidOutB Try.prog=true:=by kernel_rfl
end Go.AM
namespace Go.AM
open Go.Proofs
theorem NJ {l:List Int} (h:wA l):okArgs l:=⟨VP h.1,h.2⟩
theorem qdU {l:List rf3Rule} (h:l.length≤maxLen∧∀ r,r∈l→wRu r):okRules l :=
 ⟨VP h.1,fun r hr=>⟨⟨(h.2 r hr).1.1,NJ (h.2 r hr).1.2⟩,VP (h.2 r hr).2.1,fun b hb=>⟨((h.2 r hr).2.2 b hb).1,NJ ((h.2 r hr).2.2 b hb).2⟩⟩⟩
theorem qdV {l:List apiFact} (h:l.length≤maxLen∧∀ f,f∈l→wFa f):okFacts l :=
 ⟨VP h.1,fun f hf=>⟨(h.2 f hf).1,NJ (h.2 f hf).2⟩⟩
def bigFuel:Nat:=500
theorem big400:400≤bigFuel:=by decide
end Go.AM
namespace Go.AM
open Go.Proofs
end Go.AM
namespace Go.AM
open Go.Proofs
def Xd (v8:(List Bool)) (v9:(List Bool)) (v10:(List Bool)) (v41:(List Bool)):Option ((List Bool)×(List Bool)) :=
 (chk (decide (v10.length=252)) (chk (decide (v41.length=252)) (chk (decide (v10.length=252∧v8.length=252)) (chk (decide (v41.length=252∧v9.length=252)) (chk (decide (v10.length=252)) (chk (decide (v41.length=252)) (some (v10,v41))))))))
def ZY (N2:((List Bool)→Option ((List Bool)×(List Bool)))) (v40:(List Bool)):Option ((List Bool)×(List Bool)) :=
 (N2 v40)
def JH (v10:(List Bool)) (K26:((List Bool)→Option ((List Bool)×(List Bool)))):List Nat→Nat→(List Bool)→Option ((List Bool)×(List Bool))
 | [],k2,v29=>(K26 v29)
 | x2::r2,k2,v29=>(chk (decide ((0:Int)≤(k2:Int)∧(k2:Int)<((252:Nat):Int))) ((v10[Int.toNat (k2:Int) * 1]?).bind fun e33=>(chk (decide ((0:Int)≤(k2:Int)∧(k2:Int)<((252:Nat):Int)∧0<1)) ((v29[(0+Int.toNat (k2:Int) * 1)]?).bind fun e35=>(bif e35 then (chk (decide ((0:Int)≤(k2:Int)∧(k2:Int)<((252:Nat):Int)∧0<1)) (chk (decide ((0+Int.toNat (k2:Int) * 1)<v29.length)) ((ZY (JH v10 K26 r2 (k2+1))) (v29.set (0+Int.toNat (k2:Int) * 1) (!e33))))) else (chk (decide ((0:Int)≤(k2:Int)∧(k2:Int)<((252:Nat):Int)∧0<1)) (chk (decide ((0+Int.toNat (k2:Int) * 1)<v29.length)) ((ZY (JH v10 K26 r2 (k2+1))) (v29.set (0+Int.toNat (k2:Int) * 1) false)))))))))
def JZ (fuel:Nat) (a1:(List rf3Rule)) (w5:(List Bool)):Nat→(List Bool)→(List Bool)→(List Bool)→Option ((List Bool)×(List Bool))
 | 0,_,_,_=>none
 | m1+1,v8,v9,v10=>(chk (decide (w5.length=252)) (chk (decide (v10.length=252)) ((QL fuel a1 w5 v10).bind fun w14=>(chk (decide (w14.length=252∧(List.replicate 252 false).length=252)) (chk (decide (w5.length=252)) (chk (decide (w14.length=252)) ((QL fuel a1 w5 w14).bind fun w19=>(chk (decide (w19.length=252∧(List.replicate 252 false).length=252)) (chk (decide (w19.length=252)) (chk (decide (v10.length=252)) (chk (decide (w19.length=252∧v10.length=252)) (bif (w19 == v10) then (chk (decide (v10.length=252)) (chk (lenOk (List.range (Int.toNat 252))) (JH v10 (Xd v8 v9 v10) (List.range (Int.toNat 252)) 0 w14))) else (chk (decide (w19.length=252)) (chk (decide (w19.length=252∧v10.length=252)) ((JZ fuel a1 w5 m1) v8 v9 w19)))))))))))))))
def Hh (fuel:Nat) (a1:(List rf3Rule)) (a2:(List apiFact)):Option ((List Bool)×(List Bool)) :=
 ((qdI a2).bind fun w5=>(chk (decide (w5.length=252∧(List.replicate 252 false).length=252)) (JZ fuel a1 w5 fuel (List.replicate 252 false) (List.replicate 252 false) (List.replicate 252 false))))
end Go.AM
namespace Go.AM
open Go.Proofs Go.Sort
open Classical
abbrev z6:List Int:=List.replicate 6 0
end Go.AM
namespace Go.AM
open Go.Proofs Go.Sort
open Classical
theorem qdp {f:rufact} (h:okU1 f):groundP (apiF f)∧toF (apiF f)=f:=by
  have h16:=DX h
  have hl:1≤(argsF f).length∧(argsF f).length≤2:=by
    unfold argsF;split <;> simp
  rw[Xt];refine⟨⟨⟨h.r0,h.r5⟩,hl,h16⟩,?_⟩;unfold toF mkF argsF;obtain⟨r,a,b⟩:=f
  by_cases hb:b=0
  · subst hb;rfl
  · simp only
    rw[if_neg hb];rfl
theorem ZC {out:List (rufact×Bool)} (hn:NT out) (ho:∀ g,g∈out.map Prod.fst→okU1 g):Jp out=some (sortF (apis out)):=by
  have hsm:=QS hn.n ho;rw[List.length_map]at hsm;unfold Jp;rw[ZU (by rw[Bool.and_eq_true,NK hn.n,decide_eq_true (by omega)];exact⟨rfl,rfl⟩)]
end Go.AM
namespace Go.AM
open Go.Proofs
end Go.AM
namespace Go.AM
open Go.Proofs
end Go.AM
namespace Go.AM
open Go.Proofs Go.Sort
open Classical
theorem qcZ (a2:List Int) (K:Option Bool):∀ (r:List Int) (k:Nat),k+r.length=a2.length→qT a2 K r k=if r=a2.drop k then K else some false
 | [],k,h=>by
  rw[qT,List.drop_of_length_le (by simp at h;omega),if_pos rfl]
 | x::r,k,h=>by
  rw[List.length_cons]at h
  have hk:k<a2.length:=by omega
  rw[qT,qcZ a2 K r (k+1) (by omega),List.drop_eq_getElem_cons hk]
  have hi:idx a2 (k:Int)=some a2[k]:=by
   unfold idx;rw[if_pos (by omega),Int.toNat_natCast,List.getElem?_eq_getElem hk]
  rw[hi];simp only[Option.bind_some,List.cons.injEq]
  by_cases hx:x=a2[k]
  ·rw[show (x != a2[k])=false by simp[hx],cond_false];simp only[hx,true_and]
  ·rw[show (x != a2[k])=true by simpa using hx,cond_true,if_neg (fun h=>hx h.1)]
theorem qfJ {a b:List Int} (h:lenOk a=true):Qc a b=some (decide (a=b)):=by
 unfold Qc
 by_cases hl:a.length=b.length
 ·rw[show ((a.length:Int) != (b.length:Int))=false by simp[hl],cond_false,ZU h,qcZ b _ a 0 (by omega)];unfold jA;simp only[List.drop_zero]
  by_cases he:a=b
  ·rw[if_pos he,decide_eq_true he]
  ·rw[if_neg he,decide_eq_false he]
 ·rw[show ((a.length:Int) != (b.length:Int))=true by simp;omega,cond_true,decide_eq_false (fun e=>hl (by rw[e]))]
theorem qcL {g:apiFact→Option Bool} {p:apiFact→Bool}:∀ (l:List apiFact) (k:Nat),(∀ x,x∈l→g x=some (p x))→∃ i,qD g qQ l k=some i∧(decide (i ≥ 0)=l.any p)
 | [],k,_=>⟨-1,by rw[qD];rfl,by simp⟩
 | x::l,k,h=>by
  obtain⟨i,h1,h2⟩:=qcL l (k+1) fun y hy=>h y (List.mem_cons_of_mem _ hy)
  rw[qD,h x (List.mem_cons_self ..)];simp only[Option.bind_some]
  cases hp:p x with
  | true=>exact⟨k,rfl,by simp[hp]⟩
  | false=>exact⟨i,by rw[cond_false];exact h1,by rw[h2,List.any_cons,hp,Bool.false_or]⟩
theorem qbW {l:List apiFact} {g:apiFact→Option Bool} {p:apiFact→Bool} (hl:lenOk l=true) (h:∀ x,x∈l→g x=some (p x)):jC l g=some (l.any p):=by
 obtain⟨i,h1,h2⟩:=qcL l 0 h;unfold jC JN;rw[ZU hl,h1];simp only[Option.bind_some];rw[h2]
theorem DQ {a b:apiFact}:a=b↔a.qb=b.qb∧a.qa=b.qa:=by
 obtain⟨r,x⟩:=a;obtain⟨s,y⟩:=b
 simp
theorem qdv {l:List apiFact} {f:apiFact} (hl:lenOk l=true) (hf:lenOk f.qa=true):YG l f=some (decide (f∈l)):=by
 unfold YG;rw[qbW (p:=fun x=>decide (f=x)) hl fun x hx=>?_]
 ·simp only[Option.bind_some]
  congr 1
  rw[Bool.eq_iff_iff,List.any_eq_true,decide_eq_true_eq]
  constructor
  ·rintro⟨x,hx,he⟩
   rw[of_decide_eq_true he];exact hx
  ·intro h;exact⟨f,h,decide_eq_true rfl⟩
 ·unfold Xy
  by_cases h1:f.qb=x.qb
  ·rw[show (f.qb == x.qb)=true by simp[h1],cond_true,qfJ hf];simp only[Option.bind_some,Jv]
   congr 1
   exact decide_eq_decide.2 ⟨fun h=>DQ.2 ⟨h1,h⟩,fun h=>(DQ.1 h).2⟩
  ·rw[show (f.qb == x.qb)=false by simpa using h1,cond_false];unfold Jv;rw[decide_eq_false (fun h=>h1 (DQ.1 h).1)]
theorem qcc {out:List (rufact×Bool)} {f:apiFact}:f∈sortF (apis out)↔∃ g,g∈out.map Prod.fst∧apiF g=f:=by
 have hp:(sortF (apis out)).Perm (apis out):=List.mergeSort_perm ..;rw[hp.mem_iff];unfold apis;rw[List.mem_map]
 constructor
 ·rintro⟨p,hp,rfl⟩;exact⟨p.1,List.mem_map.2 ⟨p,hp,rfl⟩,rfl⟩
 ·rintro⟨g,hg,rfl⟩
  obtain⟨p,hp,rfl⟩:=List.mem_map.1 hg;exact⟨p,hp,rfl⟩
theorem qcs {l:List rf3Rule} (hl:l.length≤10) (h:∀ r,r∈l→okR r):(l.take 12).map cvR=l.map toR:=by
 rw[List.take_of_length_le (by omega)]
 exact List.map_congr_left fun r hr=>qgU (h r hr)
theorem qcV {m:List apiFact} (hm:m.length≤26) (h:∀ f,f∈m→f.qa.length≤9):(m.take 26).map cvF=m:=by
 rw[List.take_of_length_le hm]
 conv=>rhs;rw[← List.map_id m]
 refine List.map_congr_left fun f hf=>?_
 unfold cvF;rw[List.take_of_length_le (h f hf)];rfl
theorem mvalid {fuel:Nat} (hf:4≤fuel) {l:List rf3Rule} (ho:okRules l) (hl:l.length≤10) (h:∀ r,r∈l→okR r) {m:List apiFact} (hm:m.length≤26) (h9:∀ f,f∈m→f.qa.length≤9):Qx fuel (l.map toR) m=some (decide (VR l m)):=by
 have:=Up hf (facts:=m) ho;rw[qcs hl h,qcV hm h9]at this;exact this
theorem Ha {out:List (rufact×Bool)} (h:out.length≤252):lenOk (sortF (apis out))=true:=qG (by rw[XI,List.length_map];omega)
end Go.AM
namespace Go.AM
open Go.Proofs
open Classical
theorem YY {P Q:rufact→Prop}:∀ {body:List ruLit} {v w:List Int},(∀ x,x∈body→x.qo=false→∀ g,P g→g.qh=x.qe.qb→Q g)→InstP P body v w→InstP Q body v w
 | [],v,w,_,hi=>hi
 | x::body,v,w,h,hi=>by
  have h':=fun y (hy:y∈body)=>h y (List.mem_cons_of_mem _ hy)
  rcases hi with ⟨hn,hi⟩ | ⟨hn,g,u,hg,h1,h2,h3,h4⟩
  ·exact .inl ⟨hn,YY h' hi⟩
  ·exact .inr ⟨hn,g,u,h x (List.mem_cons_self ..) hn g hg h1,h1,h2,h3,YY h' h4⟩
def Strat (lev:Int→Nat) (L:List ruRule):Prop:=∀ r,r∈L→∀ x,x∈r.qd→lev x.qe.qb+(if x.qo=true then 1 else 0)≤lev r.qf.qb
theorem Strat.le {lev:Int→Nat} {L:List ruRule} (h:Strat lev L) {r:ruRule} (hr:r∈L) {x:ruLit} (hx:x∈r.qd):lev x.qe.qb≤lev r.qf.qb:=by
 have:=h r hr x hx;omega
theorem Strat.lt {lev:Int→Nat} {L:List ruRule} (h:Strat lev L) {r:ruRule} (hr:r∈L) {x:ruLit} (hx:x∈r.qd) (hn:x.qo=true):lev x.qe.qb<lev r.qf.qb:=by
 have:=h r hr x hx;rw[if_pos hn]at this;omega
def partU (lev:Int→Nat) (k:Nat) (L:List ruRule):List ruRule:=L.filter fun r=>lev r.qf.qb == k
theorem NI {lev:Int→Nat} {k:Nat} {L:List ruRule} {r:ruRule}:r∈partU lev k L↔r∈L∧lev r.qf.qb=k:=by
 unfold partU;rw[List.mem_filter,beq_iff_eq]
def StepsP (lev:Int→Nat) (L:List ruRule):Nat→Nat→(rufact→Prop)→(rufact→Prop)→Prop
 | _,0,X,Y=>X=Y
 | k,n+1,X,Y=>∃ Z,LeastR (partU lev k L) X X Z∧StepsP lev L (k+1) n Z Y
theorem StepsP.spec {lev:Int→Nat} {L:List ruRule} (hs:Strat lev L):∀ (n k:Nat) (X Y:rufact→Prop),StepsP lev L k n X Y→(∀ r,r∈L→lev r.qf.qb<k+n) →
  (∀ g,X g→Y g)∧(∀ g,Y g→lev g.qh<k→X g)∧(∀ r,r∈L→k≤lev r.qf.qb→∀ w,InstP Y r.qd v0 w→FreeP Y w r.qd→Y (groundF w r.qf)) ∧
   ∀ Q:rufact→Prop,(∀ g,X g→Q g)→(∀ r,r∈L→k≤lev r.qf.qb→∀ w,InstP Q r.qd v0 w→FreeP Y w r.qd→Q (groundF w r.qf))→∀ g,Y g→Q g
 | 0,k,X,Y,h,hk=>by
  have h:X=Y:=h;subst h;exact⟨fun _ h=>h,fun _ h _=>h,fun r hr hq=>by have:=hk r hr;omega,fun Q h _ g hg=>h g hg⟩
 | n+1,k,X,Y,⟨Z,hZ,h⟩,hk=>by
  obtain⟨i1,i2,i3,i4⟩:=StepsP.spec hs n (k+1) Z Y h fun r hr=>by have:=hk r hr;omega
  have hZk:∀ g,Z g→X g∨lev g.qh=k:=hZ.least _ (fun g h=>.inl h) fun r hr w _ _=>.inr (NI.1 hr).2
  have hlow:∀ g,Y g→lev g.qh<k→X g:=fun g hg hl=>by
   rcases hZk g (i2 g hg (by omega)) with h | h
   ·exact h
   ·omega
  have hXY:∀ g,X g→Y g:=fun g hg=>i1 g (hZ.sub g hg)
  have hfree:∀ r,r∈L→lev r.qf.qb=k→∀ w,FreeP X w r.qd→FreeP Y w r.qd:=fun r hr hl w hf x hx hn hy=>hf x hx hn (hlow _ hy (by
   have:=hs.lt hr hx hn;show lev x.qe.qb<k
   omega))
  refine⟨hXY,hlow,fun r hr hq w hi hf=>?_,fun Q h1 h2=>?_⟩
  ·by_cases hl:lev r.qf.qb=k
   ·refine i1 _ (hZ.closed r (NI.2 ⟨hr,hl⟩) w (YY (fun x hx hn g hg hrel=>i2 g hg ?_) hi) fun x hx hn hy=>hf x hx hn (hXY _ hy));have:=hs.le hr hx;rw[hrel];omega
   ·exact i3 r hr (by omega) w hi hf
  ·refine i4 Q (hZ.least Q h1 fun r hr w hi hf=>?_) fun r hr hq=>h2 r hr (by omega)
   obtain⟨hr,hl⟩:=NI.1 hr;exact h2 r hr (by omega) w hi (hfree r hr hl w hf)
theorem StepsP.stable {lev:Int→Nat} {L:List ruRule} (hs:Strat lev L) {n:Nat} {X Y:rufact→Prop} (h:StepsP lev L 0 n X Y) (hk:∀ r,r∈L→lev r.qf.qb<n):LeastR L Y X Y:=by
 obtain⟨i1,i2,i3,i4⟩:=StepsP.spec hs n 0 X Y h (by simpa using hk);exact⟨i1,fun r hr w=>i3 r hr (Nat.zero_le _) w,fun Q h1 h2=>i4 Q h1 fun r hr _ w=>h2 r hr w⟩
theorem DZ {lev:Int→Nat} {L:List ruRule} (hs:Strat lev L) {X Y G X2 Y2:rufact→Prop} (hX:LeastR L X G X2) (hY:LeastR L Y G Y2) {k:Nat} (h:∀ g,lev g.qh<k→(X g↔Y g)):∀ g,lev g.qh≤k→(X2 g↔Y2 g):=by
 have key:∀ {X Y X2 Y2:rufact→Prop},LeastR L X G X2→LeastR L Y G Y2→(∀ g,lev g.qh<k→(X g↔Y g))→∀ g,X2 g→lev g.qh≤k→Y2 g:=fun {X Y X2 Y2} hX hY h=>by
  refine hX.least (fun g=>lev g.qh≤k→Y2 g) (fun g hg _=>hY.sub g hg) fun r hr w hi hf hl=>?_
  have hl:lev r.qf.qb≤k:=hl
  have e1:∀ x,x∈r.qd→x.qo=false→∀ g:rufact,(lev g.qh≤k→Y2 g)→g.qh=x.qe.qb→Y2 g:=fun x hx hn g hg hrel=>hg (by
   have:=hs.le hr hx;rw[hrel]
   omega)
  have e2:FreeP Y w r.qd:=fun x hx hn hy=>hf x hx hn ((h _ (by
   have:=hs.lt hr hx hn;show lev x.qe.qb<k
   omega)).2 hy)
  exact hY.closed r hr w (YY e1 hi) e2
 exact fun g hl=>⟨fun hg=>key hX hY h g hg hl,fun hg=>key hY hX (fun g hl=>(h g hl).symm) g hg hl⟩
theorem qfX {lev:Int→Nat} {L:List ruRule} (hs:Strat lev L) {X Y G:rufact→Prop} (hX:LeastR L Y G X) (hY:LeastR L X G Y):∀ g,X g↔Y g:=by
 have key:∀ (k:Nat) g,lev g.qh<k→(X g↔Y g):=fun k=>by
  induction k with
  | zero=>intro g h;omega
  | succ k ih =>
   intro g h;exact (DZ hs hY hX ih g (by omega)).symm
 exact fun g=>key _ g (Nat.lt_succ_self _)
theorem qfY {lev:Int→Nat} {L:List ruRule} (hs:Strat lev L) {X Y G:rufact→Prop} (hX:LeastR L X G X) (hY:LeastR L Y G Y):∀ g,X g↔Y g:=by
 have key:∀ (k:Nat) g,lev g.qh<k→(X g↔Y g):=fun k=>by
  induction k with
  | zero=>intro g h;omega
  | succ k ih =>
   intro g h;exact DZ hs hX hY ih g (by omega)
 exact fun g=>key _ g (Nat.lt_succ_self _)
def levV (v:List Int) (rel:Int):Nat:=(v.getD rel.toNat 0).toNat
theorem qge {v:List Int} {l:List rf3Rule} (hr:relsR l) (hv:∀ i,0≤v.getD i 0) (h:preE (edgesR l) fun i=>v.getD i 0):Strat (levV v) (l.map toR):=by
 intro r hr x hx;obtain⟨q,hq,rfl⟩:=List.mem_map.1 hr;obtain⟨y,hy,rfl⟩:=List.mem_map.1 hx;have h1:=h (edgeOf q.qf.qb y.qe.qb y.qo) (List.mem_flatMap.2 ⟨q,hq,List.mem_map.2 ⟨y,hy,rfl⟩⟩);have h2:=hv q.qf.qb.toNat;have h3:=hv y.qe.qb.toNat;simp only[edgeOf]at h1
 by_cases hn:(toL y).qo=true
 ·have hn':y.qo=true:=hn;rw[if_pos hn];rw[if_pos hn']at h1;show (v.getD y.qe.qb.toNat 0).toNat+1≤(v.getD q.qf.qb.toNat 0).toNat;omega
 ·have hn':¬ y.qo=true:=hn;rw[if_neg hn];rw[if_neg hn']at h1;show (v.getD y.qe.qb.toNat 0).toNat+0≤(v.getD q.qf.qb.toNat 0).toNat;omega
theorem qhq {v:List Int} (hv:∀ i,0≤v.getD i 0) (k:Nat) (l:List rf3Rule):(partS v k l).map toR=partU (levV v) k (l.map toR):=by
 unfold partS partU;rw[List.filter_map]
 congr 1
 refine List.filter_congr fun r _=>?_
 have:=hv r.qf.qb.toNat;unfold inS levV;simp only[Function.comp_def,toR,toA];rw[Bool.eq_iff_iff,beq_iff_eq,beq_iff_eq];omega
abbrev memO (out:List (rufact×Bool)):rufact→Prop:=fun g=>g∈out.map Prod.fst
theorem qaJ {ar:Int→Nat} {fuel:Nat} (hf:300≤fuel) {l:List rf3Rule} (hl:l.length≤12) (hL:∀ r,r∈l→okL ar (toR r)) {v:List Int} (hv:v.length=6) (h0:∀ i,0≤v.getD i 0) {c:Bool}:∀ (L:List Nat) (k:Nat) (out:List (rufact×Bool)),NT out→arW ar (memO out) →
  ∃ out',jc fuel (l.map toR) (v,c) ji L k out=some (out',true)∧NT out'∧arW ar (memO out')∧StepsP (levV v) (l.map toR) k L.length (memO out) (memO out')
 | [],k,out,h1,h2=>⟨out,by rw[jc];rfl,h1,h2,rfl⟩
 | x::L,k,out,h1,h2=>by
  have hrel:∀ r,r∈l→rel6 r.qf.qb:=fun r hr=>XE (hL r hr).head.1
  have hp:(partS v k l).length≤12:=Nat.le_trans (List.length_filter_le ..) hl
  obtain⟨o1,a1,a2,a3,a4⟩:=NV (L:=(partS v k l).map toR) (fun r hr=>by
   obtain⟨q,hq,rfl⟩:=List.mem_map.1 hr
   exact hL q (List.mem_filter.1 hq).1) (by rw[List.length_map];exact hp) h1 h1 h2 (by omega:253≤fuel)
  obtain⟨o2,b1,b2,b3,b4⟩:=qaJ hf hl hL hv h0 (c:=c) L (k+1) o1 a2 a3;refine⟨o2,?_,b2,b3,memO o1,by rw[qhq h0]at a4;exact a4,b4⟩;rw[jc,ZU (qG (by rw[List.length_map];omega)),NG hv k _ l 0 [] hrel (by simp;omega)];unfold Jj Yh;rw[List.nil_append,a1];simp only[Option.bind_some];exact b1
theorem qdR {ar:Int→Nat} {fuel:Nat} (hf:300≤fuel) {l:List rf3Rule} (hl:l.length≤10) (hL:∀ r,r∈l→Go.AM.okL ar (toR r)) {facts:List apiFact} (h2:facts.length≤100) (h3:∀ f,f∈facts→groundP f) (har:∀ f,f∈facts→f.qa.length=ar f.qb) :
  (∃ v out,in6 v 5∧QI fuel (l.map toR)=some (v,true)∧Strat (levV v) (l.map toR)∧Ya fuel (l.map toR) facts=some (out,true)∧NT out∧arW ar (memO out)∧LeastR (l.map toR) (memO out) (fun g=>g∈facts.map toF) (memO out))∨(QI fuel (l.map toR)=some ([],false)∧Ya fuel (l.map toR) facts=some ([],false)):=by
 obtain⟨o0,S0,g1,g2,g3⟩:=DC h2 h3 har
 have hg:∀ g,memO o0 g↔g∈facts.map toF:=fun g=>by
  obtain⟨a1,a2,a3,a4⟩:=NT.empty.add (fr:=facts.map toF)
  have:QT facts=some (addF [] (facts.map toF)):=by
   unfold QT;rw[ZU (qG (by omega)),VV _ facts 0 [] h3 NT.empty (by simp;omega)];rfl
  rw[g1]at this;cases this;show g∈_↔_;rw[a2];simp
 rcases qci (by omega:100≤fuel) hl (by rw[List.length_map];exact hl) (qcv hL) (qgv hL) (qgT l) with ⟨v,hv,hpre,s1,s2⟩ | ⟨s1,s2⟩
 ·left
  have h0:∀ i,0≤v.getD i 0:=fun i=>(hv.2 i).1
  have hst:=qge (qcv hL) h0 hpre;obtain⟨M,m1,m2,m3⟩:=qcE (by omega:10≤fuel) hv.1;obtain⟨i,hi,he⟩:=List.getElem_of_mem m2
  have hM:0≤M∧M≤5:=by
   have:=hv.2 i;rw[List.getD_eq_getElem?_getD,List.getElem?_eq_getElem hi]at this;rw[← he];exact this
  have hn:(List.range (Int.toNat (IntKind.wrap .i64 (M+1)))).length=M.toNat+1:=by
   rw[wrap64 (by omega) (by omega),List.length_range];omega
  obtain⟨o,a1,a2,a3,a4⟩:=qaJ (c:=true) hf (by omega:l.length≤12) hL hv.1 h0 (List.range (Int.toNat (IntKind.wrap .i64 (M+1)))) 0 o0 g3.nt g3.ar
  have hstab:=a4.stable hst (fun r hr=>by
   obtain⟨q,hq,rfl⟩:=List.mem_map.1 hr;have hrr:rel6 q.qf.qb:=XE (hL q hq).head.1;have:=m3 q.qf.qb.toNat (by have:=hrr.1;have:=hrr.2;omega);rw[hn];unfold levV;simp only[toR,toA]
   omega)
  refine⟨v,o,hv,s2,hst,?_,a2,a3,?_⟩
  ·unfold Ya;rw[s2];simp only[Option.bind_some,Bool.not_true,cond_false];rw[g1];simp only[Option.bind_some];rw[m1];simp only[Option.bind_some];rw[ZU (qG (by rw[hn];omega))];exact a1
  ·rw[show (fun g=>g∈facts.map toF)=memO o0 from funext fun g=>propext (hg g).symm];exact hstab
 ·right
  refine⟨s2,?_⟩;unfold Ya;rw[s2];rfl
end Go.AM
