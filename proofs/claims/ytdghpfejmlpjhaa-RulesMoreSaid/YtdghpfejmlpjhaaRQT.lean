/- s -/
import Derived.Test.YtdghpfejmlpjhaaAClose
import Derived.Test.YtdghpfejmlpjhaaRAT
import Derived.Test.YtdghpfejmlpjhaaChecked
import Derived.Test.YtdghpfejmlpjhaaRows
import Derived.ProofKit
import Derived.OpenShut
import Derived.Test.YtdghpfejmlpjhaaRL17
import Derived.Test.YtdghpfejmlpjhaaAWq
import Derived.Test.YtdghpfejmlpjhaaAArr
import Derived.Test.YtdghpfejmlpjhaaASimJ
import Derived.Test.YtdghpfejmlpjhaaRCon3
import Derived.Test.YtdghpfejmlpjhaaRMT
import Derived.Test.YtdghpfejmlpjhaaRM1
set_option linter.unusedVariables false
set_option maxRecDepth 100000
set_option linter.unusedSimpArgs false
namespace Go.AM
open Go.Proofs Go.Proofs.Ytdghpfejmlpjhaa Go.ChangeShapes Go.WideShapes Go.ChangeAt Go.RowKit
abbrev wA (l:List Int):Prop:=l.length≤maxLen∧∀ x,x∈l→wfI .i64 x=true
abbrev wAt (a:rf2Atom):Prop:=wfI .i64 a.qb=true∧wA a.qa
abbrev wFa (f:apiFact):Prop:=wfI .i64 f.qb=true∧wA f.qa
abbrev wRu (r:rf3Rule):Prop:=wAt r.qf∧r.qc.length≤maxLen∧∀ b,b∈r.qc→wAt b.qd
theorem He:Reads Try.prog 3 (AV.int .i64) (fun n=>wfI .i64 n=true):=qdO (P:=Try.prog) (t:=3) (k:=.i64) (by kernel_rfl)
theorem Dt:Reads Try.prog 39 (encL 3 1 (AV.int .i64)) wA :=
 YG (by kernel_rfl) (by kernel_rfl) (by decide) He (fun _=>rfl) (fun _=>rfl)
theorem Du:Reads Try.prog 41 qr wFa :=
 XZ (P := Try.prog) (size := 2) (fs := #[Field.mk "Rel" 3 0 false "" "" 0, Field.mk "Args" 39 1 false "" "" 8]) (fun b : Int × List Int × Unit => (⟨b.1, b.2.1⟩ : apiFact)) (by kernel_rfl) (by kernel_rfl)
  (Qh (f:=AV.int .i64) (ok:=fun n=>wfI .i64 n=true) (n:=1) (off':=1) rfl (by kernel_rfl) rfl He (Qh (f:=encL 3 1 (AV.int .i64)) (ok:=wA) (n:=1) (off':=2) rfl (by kernel_rfl) rfl Dt (YI rfl)))
  (fun b=>rfl) (fun b h=>⟨h.1,h.2.1⟩)
theorem Dv:Reads Try.prog 91 UW wAt :=
 XZ (P := Try.prog) (size := 2) (fs := #[Field.mk "Rel" 3 0 false "" "" 0, Field.mk "Args" 39 1 false "" "" 8]) (fun b : Int × List Int × Unit => (⟨b.1, b.2.1⟩ : rf2Atom)) (by kernel_rfl) (by kernel_rfl)
  (Qh (f:=AV.int .i64) (ok:=fun n=>wfI .i64 n=true) (n:=1) (off':=1) rfl (by kernel_rfl) rfl He (Qh (f:=encL 3 1 (AV.int .i64)) (ok:=wA) (n:=1) (off':=2) rfl (by kernel_rfl) rfl Dt (YI rfl)))
  (fun b=>rfl) (fun b h=>⟨h.1,h.2.1⟩)
theorem qeS:Reads Try.prog 96 Qi (fun b=>wAt b.qd) :=
 XZ (P := Try.prog) (size := 3) (fs := #[Field.mk "Not" 4 0 false "" "" 0, Field.mk "Atom" 91 1 false "" "" 8]) (fun b : Bool × rf2Atom × Unit => (⟨b.1, b.2.1⟩ : rf3Lit)) (by kernel_rfl) (by kernel_rfl)
  (Qh (f:=AV.bool) (ok:=fun _=>True) (n:=1) (off':=1) rfl (by kernel_rfl) rfl (qcz (by kernel_rfl)) (Qh (f:=UW) (ok:=wAt) (n:=2) (off':=3) rfl (by kernel_rfl) rfl Dv (YI rfl)))
  (fun b=>rfl) (fun b h=>h.2.1)
theorem qdQ:Reads Try.prog 92 (encL 96 3 Qi) (fun l=>l.length≤maxLen∧∀ b,b∈l→wAt b.qd) :=
 YG (by kernel_rfl) (by kernel_rfl) (by decide) qeS (fun _=>rfl) (fun _=>rfl)
theorem qdP:Reads Try.prog 94 JT wRu :=
 XZ (P := Try.prog) (size := 3) (fs := #[Field.mk "Head" 91 0 false "" "" 0, Field.mk "Body" 92 2 false "" "" 32]) (fun b : rf2Atom × List rf3Lit × Unit => (⟨b.1, b.2.1⟩ : rf3Rule)) (by kernel_rfl) (by kernel_rfl)
  (Qh (f:=UW) (ok:=wAt) (n:=2) (off':=2) rfl (by kernel_rfl) rfl Dv (Qh (f:=encL 96 3 Qi) (ok:=fun l=>l.length≤maxLen∧∀ b,b∈l→wAt b.qd) (n:=1) (off':=3) rfl (by kernel_rfl) rfl qdQ (YI rfl)))
  (fun b=>rfl) (fun b h=>⟨h.1,h.2.1⟩)
theorem qcA:Reads Try.prog 22 (encL 94 3 JT) (fun l=>l.length≤maxLen∧∀ r,r∈l→wRu r) :=
 YG (by kernel_rfl) (by kernel_rfl) (by decide) qdP (fun _=>rfl) (fun _=>rfl)
theorem qcB:Reads Try.prog 23 (encL 41 2 qr) (fun l=>l.length≤maxLen∧∀ f,f∈l→wFa f) :=
 YG (by kernel_rfl) (by kernel_rfl) (by decide) Du (fun _=>rfl) (fun _=>rfl)
theorem Vq {α:Type} {l:List α} (h:l.length≤maxLen):lenOk l=true:=Nat.ble_eq_true_of_le (by unfold maxLen at h;omega)
theorem own:ownKnob Try.prog.godebug=none:=by kernel_rfl
theorem mixed:Try.prog.follows .mixedOrders=true:=by kernel_rfl
theorem laid:laidOutB Try.prog=true:=by kernel_rfl
end Go.AM
namespace Go.AM
open Go.Proofs
theorem Vl {l:List Int} (h:wA l):okArgs l:=⟨Vq h.1,h.2⟩
theorem qcJ {l:List rf3Rule} (h:l.length≤maxLen∧∀ r,r∈l→wRu r):okRules l :=
 ⟨Vq h.1,fun r hr=>⟨⟨(h.2 r hr).1.1,Vl (h.2 r hr).1.2⟩,Vq (h.2 r hr).2.1,fun b hb=>⟨((h.2 r hr).2.2 b hb).1,Vl ((h.2 r hr).2.2 b hb).2⟩⟩⟩
theorem qcK {l:List apiFact} (h:l.length≤maxLen∧∀ f,f∈l→wFa f):okFacts l :=
 ⟨Vq h.1,fun f hf=>⟨(h.2 f hf).1,Vl (h.2 f hf).2⟩⟩
theorem qdX {f:apiFact} (h:wFa f):okFact f:=⟨h.1,Vl h.2⟩
def bigFuel:Nat:=500
theorem big400:400≤bigFuel:=by decide
end Go.AM
namespace Go.AM
open Go.Proofs
end Go.AM
namespace Go.AM
open Go.Proofs
end Go.AM
namespace Go.AM
open Go.Proofs Go.Sort
open Classical
def plainP (l:List rf3Rule):Prop:=∀ r,r∈l→∀ b,b∈r.qc→b.qp=false
theorem qbw (K:Option Bool):∀ (body:List rf3Lit) (k:Nat),Ju K body k=if ∀ b,b∈body→b.qp=false then K else some false
 | [],k=>by simp[Ju]
 | b::body,k=>by
  rw[Ju,qbw K body (k+1)];cases hb:b.qp <;> simp[hb]
abbrev z6:List Int:=List.replicate 6 0
theorem qeQ {E:List Edge} (h:∀ e,e∈E→e.d=0):rndE E z6=z6:=by
 induction E with
 | nil=>rfl
 | cons e E ih =>
  have h0:∀ i,z6.getD i 0=0:=fun i=>by
   rw[List.getD_eq_getElem?_getD,List.getElem?_replicate]
   split <;> rfl
  have hs:stepE z6 e=z6:=by
   unfold stepE;rw[h0,h0,h e (List.mem_cons_self ..),if_neg (by omega)];exact set8 (h0 e.h)
  show rndE E (stepE z6 e)=z6;rw[hs]
  exact ih fun f hf=>h f (List.mem_cons_of_mem _ hf)
theorem qam {fuel:Nat} (hf:100≤fuel) {l:List rf3Rule} (hl:l.length≤10) (hu:relsU (l.map toR)) (hp:plainP l):Zb fuel (l.map toR)=some (z6,true):=by
 obtain⟨m,rfl⟩:∃ m,fuel=m+1:=⟨fuel - 1,by omega⟩
 have h0:in6 z6 0:=⟨by simp,fun i=>by
  rw[List.getD_eq_getElem?_getD,List.getElem?_replicate]
  split <;> simp⟩
 have hz:rndE (edgesU (l.map toR)) z6=z6:=qeQ fun e he=>by
  rw[qfp]at he;obtain⟨r,hr,he⟩:=List.mem_flatMap.1 he;obtain⟨b,hb,rfl⟩:=List.mem_map.1 he;unfold edgeOf;rw[hp r hr b hb];rfl
 obtain⟨c,h1,h2⟩:=qfV (qK (m+1) 0 (qB (m+1) (l.map toR) m)) (l.map toR) 0 z6 false 0 hu h0 (by omega) (by rw[List.length_map];omega)
 have hc:c=false:=by
  cases c with
  | false=>rfl
  | true =>
   rcases h2.1 rfl with h | h
   ·cases h
   ·exact absurd hz h
 unfold Zb;rw[ZC (by decide),qB,ZC (Jg (by rw[List.length_map];omega))];rw[show (List.replicate (Int.toNat 6) (0:Int))=z6 from rfl,h1,hc,hz];unfold qK;rw[snap6 (by simp)];rfl
theorem Nm {N:rufact→Prop} {l:List rf3Rule} (hp:plainP l) {r:ruRule} (hr:r∈l.map toR) (w:List Int):FreeP N w r.qc:=by
 intro x hx hn;obtain⟨q,hq,rfl⟩:=List.mem_map.1 hr;obtain⟨b,hb,rfl⟩:=List.mem_map.1 hx;have:=hp q hq b hb;replace hn:b.qp=true:=hn;rw[this]at hn;cases hn
theorem qbz {ar:Int→Nat} {fuel:Nat} (hf:300≤fuel) {l:List rf3Rule} (hl:l.length≤10) (hL:∀ r,r∈l→Go.AM.okL ar (toR r)) (hp:plainP l) {facts:List apiFact} (h2:facts.length≤100) (h3:∀ f,f∈facts→groundP f) (har:∀ f,f∈facts→f.qa.length=ar f.qb) :
  ∃ out,Zc fuel (l.map toR) facts=some (out,true)∧NT out∧arW ar (fun g=>g∈out.map Prod.fst)∧∀ N,LeastR (l.map toR) N (fun g=>g∈facts.map toF) (fun g=>g∈out.map Prod.fst):=by
 obtain⟨a1,a2,a3,a4⟩:=NT.empty.add (fr:=facts.map toF)
 have hm:∀ g,g∈(addF [] (facts.map toF)).map Prod.fst↔g∈facts.map toF:=fun g=>by rw[a2];simp
 have hg:ZP facts=some (addF [] (facts.map toF)):=by
  unfold ZP;rw[ZC (Jg (by omega)),DO _ facts 0 [] h3 NT.empty (by simp;omega)];rfl
 have hga:arW ar (fun g=>g∈(addF [] (facts.map toF)).map Prod.fst):=fun g hg=>by
  obtain⟨f,hf,rfl⟩:=List.mem_map.1 ((hm g).1 hg);obtain⟨q1,q2⟩:=qaj (h3 f hf);exact⟨q1,by rw[q2];exact har f hf⟩
 obtain⟨out,c1,c2,c3,c4⟩:=qeo (L:=l.map toR) (fun r hr=>by
  obtain⟨q,hq,rfl⟩:=List.mem_map.1 hr
  exact hL q hq) (by rw[List.length_map];omega) a1 a1 hga (by omega:253≤fuel)
 refine⟨out,?_,c2,c3,fun N=>⟨fun g h=>c4.sub g ((hm g).2 h),fun r hr w hi _=>c4.closed r hr w hi (Nm hp hr w),fun Q q1 q2=>c4.least Q (fun g h=>q1 g ((hm g).1 h)) (fun r hr w hi _=>q2 r hr w hi (Nm hp hr w))⟩⟩
 have hpart:partS z6 0 l=l:=by
  unfold partS;rw[List.filter_eq_self];intro r hr;unfold inS;rw[List.getD_eq_getElem?_getD,List.getElem?_replicate]
  split <;> rfl
 obtain⟨M,m1,m2,m3⟩:=qeZ (by omega:10≤fuel) (l:=z6) (by simp);have hM:M=0:=List.eq_of_mem_replicate m2;subst hM;unfold Zc;rw[qam (by omega) hl (qeR hL) hp];simp only[Option.bind_some,Bool.not_true,cond_false];rw[hg];simp only[Option.bind_some];rw[m1];simp only[Option.bind_some];rw[show List.range (Int.toNat (IntKind.wrap .i64 (0+1)))=[0] from rfl,ZC (by rfl),ju,ZC (Jg (by rw[List.length_map];omega)),UN (by simp) 0 _ l 0 [] (fun r hr=>Zk (hL r hr).head.1) (by simp;omega),hpart];unfold Js XW;rw[List.nil_append,c1];simp only[Option.bind_some];rw[ju];rfl
end Go.AM
namespace Go.AM
open Go.Proofs Go.Sort
open Classical
theorem qce {f:rufact} (h:okU1 f):groundP (apiF f)∧toF (apiF f)=f:=by
  have h16:=HJ h
  have hl:1≤(argsF f).length∧(argsF f).length≤2:=by
    unfold argsF;split <;> simp
  rw[Nc];refine⟨⟨⟨h.r0,h.r5⟩,hl,h16⟩,?_⟩;unfold toF mkF argsF;obtain⟨r,a,b⟩:=f
  by_cases hb:b=0
  · subst hb;rfl
  · simp only
    rw[if_neg hb];rfl
theorem qas {out:List (rufact×Bool)} (hn:NT out) (ho:∀ g,g∈out.map Prod.fst→okU1 g):QL out=some (sortF (apis out)):=by
  have hsm:=YX hn.n ho;rw[List.length_map]at hsm;unfold QL;rw[ZC (by rw[Bool.and_eq_true,DC hn.n,decide_eq_true (by omega)];exact⟨rfl,rfl⟩)]
end Go.AM
namespace Go.AM
open Go.Proofs
end Go.AM
