/- s -/
import Derived.Test.YtdghpfejmlpjhaaAClose
import Derived.Test.YtdghpfejmlpjhaaRAT
import Derived.Test.YtdghpfejmlpjhaaChecked
import Derived.Test.YtdghpfejmlpjhaaRows
import Derived.ProofKit
import Derived.OpenShut
import Derived.Test.YtdghpfejmlpjhaaRL17
import Derived.Test.YtdghpfejmlpjhaaAWq
import Derived.Test.YtdghpfejmlpjhaaASimJ
import Derived.Test.YtdghpfejmlpjhaaRCon3
import Derived.Test.YtdghpfejmlpjhaaRMT
import Derived.Test.YtdghpfejmlpjhaaRM1
import Derived.OwnWalk
set_option linter.unusedVariables false
set_option maxRecDepth 100000
set_option linter.unusedSimpArgs false
namespace Go.AM
open Go.Proofs Go.Proofs.Ytdghpfejmlpjhaa Go.ChangeShapes Go.WideShapes Go.ChangeAt Go.RowKit
abbrev wA (l:List Int):Prop:=l.length≤maxLen∧∀ x,x∈l→wfI .i64 x=true
abbrev wAt (a:rf2Atom):Prop:=wfI .i64 a.qb=true∧wA a.qa
abbrev wFa (f:apiFact):Prop:=wfI .i64 f.qb=true∧wA f.qa
abbrev wRu (r:rf3Rule):Prop:=wAt r.qf∧r.qe.length≤maxLen∧∀ b,b∈r.qe→wAt b.qd
theorem NG:Reads Try.prog 3 (AV.int .i64) (fun n=>wfI .i64 n=true):=qgd (P:=Try.prog) (t:=3) (k:=.i64) (by kernel_rfl)
theorem qbm:Reads Try.prog 39 (encL 3 1 (AV.int .i64)) wA :=
 ZE (by kernel_rfl) (by kernel_rfl) (by decide) NG (fun _=>rfl) (fun _=>rfl)
theorem qbn:Reads Try.prog 41 qr wFa :=
 YU (P := Try.prog) (size := 2) (fs := #[Field.mk "Rel" 3 0 false "" "" 0, Field.mk "Args" 39 1 false "" "" 8]) (fun b : Int × List Int × Unit => (⟨b.1, b.2.1⟩ : apiFact)) (by kernel_rfl) (by kernel_rfl)
  (QE (f:=AV.int .i64) (ok:=fun n=>wfI .i64 n=true) (n:=1) (off':=1) rfl (by kernel_rfl) rfl NG (QE (f:=encL 3 1 (AV.int .i64)) (ok:=wA) (n:=1) (off':=2) rfl (by kernel_rfl) rfl qbm (ZG rfl)))
  (fun b=>rfl) (fun b h=>⟨h.1,h.2.1⟩)
theorem qbo:Reads Try.prog 91 HO wAt :=
 YU (P := Try.prog) (size := 2) (fs := #[Field.mk "Rel" 3 0 false "" "" 0, Field.mk "Args" 39 1 false "" "" 8]) (fun b : Int × List Int × Unit => (⟨b.1, b.2.1⟩ : rf2Atom)) (by kernel_rfl) (by kernel_rfl)
  (QE (f:=AV.int .i64) (ok:=fun n=>wfI .i64 n=true) (n:=1) (off':=1) rfl (by kernel_rfl) rfl NG (QE (f:=encL 3 1 (AV.int .i64)) (ok:=wA) (n:=1) (off':=2) rfl (by kernel_rfl) rfl qbm (ZG rfl)))
  (fun b=>rfl) (fun b h=>⟨h.1,h.2.1⟩)
theorem qhi:Reads Try.prog 96 Xx (fun b=>wAt b.qd) :=
 YU (P := Try.prog) (size := 3) (fs := #[Field.mk "Not" 4 0 false "" "" 0, Field.mk "Atom" 91 1 false "" "" 8]) (fun b : Bool × rf2Atom × Unit => (⟨b.1, b.2.1⟩ : rf3Lit)) (by kernel_rfl) (by kernel_rfl)
  (QE (f:=AV.bool) (ok:=fun _=>True) (n:=1) (off':=1) rfl (by kernel_rfl) rfl (qeD (by kernel_rfl)) (QE (f:=HO) (ok:=wAt) (n:=2) (off':=3) rfl (by kernel_rfl) rfl qbo (ZG rfl)))
  (fun b=>rfl) (fun b h=>h.2.1)
theorem qgf:Reads Try.prog 92 (encL 96 3 Xx) (fun l=>l.length≤maxLen∧∀ b,b∈l→wAt b.qd) :=
 ZE (by kernel_rfl) (by kernel_rfl) (by decide) qhi (fun _=>rfl) (fun _=>rfl)
theorem qge:Reads Try.prog 94 Xl wRu :=
 YU (P := Try.prog) (size := 3) (fs := #[Field.mk "Head" 91 0 false "" "" 0, Field.mk "Body" 92 2 false "" "" 32]) (fun b : rf2Atom × List rf3Lit × Unit => (⟨b.1, b.2.1⟩ : rf3Rule)) (by kernel_rfl) (by kernel_rfl)
  (QE (f:=HO) (ok:=wAt) (n:=2) (off':=2) rfl (by kernel_rfl) rfl qbo (QE (f:=encL 96 3 Xx) (ok:=fun l=>l.length≤maxLen∧∀ b,b∈l→wAt b.qd) (n:=1) (off':=3) rfl (by kernel_rfl) rfl qgf (ZG rfl)))
  (fun b=>rfl) (fun b h=>⟨h.1,h.2.1⟩)
theorem qeE:Reads Try.prog 22 (encL 94 3 Xl) (fun l=>l.length≤maxLen∧∀ r,r∈l→wRu r) :=
 ZE (by kernel_rfl) (by kernel_rfl) (by decide) qge (fun _=>rfl) (fun _=>rfl)
theorem qeF:Reads Try.prog 23 (encL 41 2 qr) (fun l=>l.length≤maxLen∧∀ f,f∈l→wFa f) :=
 ZE (by kernel_rfl) (by kernel_rfl) (by decide) qbn (fun _=>rfl) (fun _=>rfl)
theorem UC {α:Type} {l:List α} (h:l.length≤maxLen):lenOk l=true:=Nat.ble_eq_true_of_le (by unfold maxLen at h;omega)
theorem own:ownKnob Try.prog.godebug=none:=by kernel_rfl
theorem mixed:Try.prog.follows .mixedOrders=true:=by kernel_rfl
theorem laid:laidOutB Try.prog=true:=by kernel_rfl
end Go.AM
namespace Go.AM
open Go.Proofs
theorem Ux {l:List Int} (h:wA l):okArgs l:=⟨UC h.1,h.2⟩
theorem qeM {l:List rf3Rule} (h:l.length≤maxLen∧∀ r,r∈l→wRu r):okRules l :=
 ⟨UC h.1,fun r hr=>⟨⟨(h.2 r hr).1.1,Ux (h.2 r hr).1.2⟩,UC (h.2 r hr).2.1,fun b hb=>⟨((h.2 r hr).2.2 b hb).1,Ux ((h.2 r hr).2.2 b hb).2⟩⟩⟩
theorem qeN {l:List apiFact} (h:l.length≤maxLen∧∀ f,f∈l→wFa f):okFacts l :=
 ⟨UC h.1,fun f hf=>⟨(h.2 f hf).1,Ux (h.2 f hf).2⟩⟩
theorem qgo {f:apiFact} (h:wFa f):okFact f:=⟨h.1,Ux h.2⟩
def bigFuel:Nat:=500
theorem big400:400≤bigFuel:=by decide
end Go.AM
namespace Go.AM
open Go.Proofs
end Go.AM
namespace Go.AM
open Go.Proofs
def UT (fuel:Nat) (a1:(List rf3Rule)) (a4:apiFact) (v16:(List apiFact)):Option Bool :=
 ((qeB v16).bind fun w18=>((YA fuel a1 w18 (List.replicate 252 false)).bind fun w19=>((YN a4.qb a4.qa).bind fun w20=>(chk (decide ((0:Int)≤w20∧w20<((252:Nat):Int))) ((w19[Int.toNat w20 * 1]?).bind fun e22=>(some e22))))))
def Yp (N1:((List apiFact)→Option Bool)) (v15:(List apiFact)):Option Bool :=
 (N1 v15)
def Xh (a3:Int) (K7:((List apiFact)→Option Bool)):List apiFact→Nat→(List apiFact)→Option Bool
 | [],k1,v9=>(K7 v9)
 | x1::r1,k1,v9=>(chk (decide (0≤(k1:Int))) (bif ((iAnd .i64 (iShr .i64 a3 (k1:Int)) 1) == 1) then (chk (capOk 32 ((v9++[x1])).length) ((Yp (Xh a3 K7 r1 (k1+1))) (v9++[x1]))) else ((Yp (Xh a3 K7 r1 (k1+1))) v9)))
def qad (fuel:Nat) (a1:(List rf3Rule)) (a2:(List apiFact)) (a3:Int) (a4:apiFact):Option Bool :=
 (chk (lenOk a2) (Xh a3 (UT fuel a1 a4) a2 0 ([]:(List apiFact))))
end Go.AM
namespace Go.AM
open Go.Proofs Go.Sort
open Classical
def plainP (l:List rf3Rule):Prop:=∀ r,r∈l→∀ b,b∈r.qe→b.qp=false
abbrev z6:List Int:=List.replicate 6 0
theorem qhg {E:List Edge} (h:∀ e,e∈E→e.d=0):rndE E z6=z6:=by
 induction E with
 | nil=>rfl
 | cons e E ih =>
  have h0:∀ i,z6.getD i 0=0:=fun i=>by
   rw[List.getD_eq_getElem?_getD,List.getElem?_replicate]
   split <;> rfl
  have hs:stepE z6 e=z6:=by
   unfold stepE;rw[h0,h0,h e (List.mem_cons_self ..),if_neg (by omega)];exact set8 (h0 e.h)
  show rndE E (stepE z6 e)=z6;rw[hs]
  exact ih fun f hf=>h f (List.mem_cons_of_mem _ hf)
theorem qci {fuel:Nat} (hf:100≤fuel) {l:List rf3Rule} (hl:l.length≤10) (hu:relsU (l.map toR)) (hp:plainP l):Vc fuel (l.map toR)=some (z6,true):=by
 obtain⟨m,rfl⟩:∃ m,fuel=m+1:=⟨fuel - 1,by omega⟩
 have h0:in6 z6 0:=⟨by simp,fun i=>by
  rw[List.getD_eq_getElem?_getD,List.getElem?_replicate]
  split <;> simp⟩
 have hz:rndE (edgesU (l.map toR)) z6=z6:=qhg fun e he=>by
  rw[qhI]at he;obtain⟨r,hr,he⟩:=List.mem_flatMap.1 he;obtain⟨b,hb,rfl⟩:=List.mem_map.1 he;unfold edgeOf;rw[hp r hr b hb];rfl
 obtain⟨c,h1,h2⟩:=qiw (qP (m+1) 0 (qC (m+1) (l.map toR) m)) (l.map toR) 0 z6 false 0 hu h0 (by omega) (by rw[List.length_map];omega)
 have hc:c=false:=by
  cases c with
  | false=>rfl
  | true =>
   rcases h2.1 rfl with h | h
   ·cases h
   ·exact absurd hz h
 unfold Vc;rw[VK (by decide),qC,VK (qM (by rw[List.length_map];omega))];rw[show (List.replicate (Int.toNat 6) (0:Int))=z6 from rfl,h1,hc,hz];unfold qP;rw[snap6 (by simp)];rfl
theorem Di {N:rufact→Prop} {l:List rf3Rule} (hp:plainP l) {r:ruRule} (hr:r∈l.map toR) (w:List Int):FreeP N w r.qe:=by
 intro x hx hn;obtain⟨q,hq,rfl⟩:=List.mem_map.1 hr;obtain⟨b,hb,rfl⟩:=List.mem_map.1 hx;have:=hp q hq b hb;replace hn:b.qp=true:=hn;rw[this]at hn;cases hn
theorem qdy {ar:Int→Nat} {fuel:Nat} (hf:300≤fuel) {l:List rf3Rule} (hl:l.length≤10) (hL:∀ r,r∈l→Go.AM.okL ar (toR r)) (hp:plainP l) {facts:List apiFact} (h2:facts.length≤100) (h3:∀ f,f∈facts→groundP f) (har:∀ f,f∈facts→f.qa.length=ar f.qb) :
  ∃ out,Vd fuel (l.map toR) facts=some (out,true)∧NT out∧arW ar (fun g=>g∈out.map Prod.fst)∧∀ N,LeastR (l.map toR) N (fun g=>g∈facts.map toF) (fun g=>g∈out.map Prod.fst):=by
 obtain⟨a1,a2,a3,a4⟩:=NT.empty.add (fr:=facts.map toF)
 have hm:∀ g,g∈(addF [] (facts.map toF)).map Prod.fst↔g∈facts.map toF:=fun g=>by rw[a2];simp
 have hg:Yl facts=some (addF [] (facts.map toF)):=by
  unfold Yl;rw[VK (qM (by omega)),UF _ facts 0 [] h3 NT.empty (by simp;omega)];rfl
 have hga:arW ar (fun g=>g∈(addF [] (facts.map toF)).map Prod.fst):=fun g hg=>by
  obtain⟨f,hf,rfl⟩:=List.mem_map.1 ((hm g).1 hg);obtain⟨q1,q2⟩:=Vq (h3 f hf);exact⟨q1,by rw[q2];exact har f hf⟩
 obtain⟨out,c1,c2,c3,c4⟩:=qbV (L:=l.map toR) (fun r hr=>by
  obtain⟨q,hq,rfl⟩:=List.mem_map.1 hr
  exact hL q hq) (by rw[List.length_map];omega) a1 a1 hga (by omega:253≤fuel)
 refine⟨out,?_,c2,c3,fun N=>⟨fun g h=>c4.sub g ((hm g).2 h),fun r hr w hi _=>c4.closed r hr w hi (Di hp hr w),fun Q q1 q2=>c4.least Q (fun g h=>q1 g ((hm g).1 h)) (fun r hr w hi _=>q2 r hr w hi (Di hp hr w))⟩⟩
 have hpart:partS z6 0 l=l:=by
  unfold partS;rw[List.filter_eq_self];intro r hr;unfold inS;rw[List.getD_eq_getElem?_getD,List.getElem?_replicate]
  split <;> rfl
 obtain⟨M,m1,m2,m3⟩:=qhq (by omega:10≤fuel) (l:=z6) (by simp);have hM:M=0:=List.eq_of_mem_replicate m2;subst hM;unfold Vd;rw[qci (by omega) hl (qhh hL) hp];simp only[Option.bind_some,Bool.not_true,cond_false];rw[hg];simp only[Option.bind_some];rw[m1];simp only[Option.bind_some];rw[show List.range (Int.toNat (IntKind.wrap .i64 (0+1)))=[0] from rfl,VK (by rfl),jF,VK (qM (by rw[List.length_map];omega)),Hx (by simp) 0 _ l 0 [] (fun r hr=>Vl (hL r hr).head.1) (by simp;omega),hpart];unfold JO QY;rw[List.nil_append,c1];simp only[Option.bind_some];rw[jF];rfl
end Go.AM
namespace Go.AM
open Go.Proofs Go.Sort
open Classical
theorem qeh {f:rufact} (h:okU1 f):groundP (apiF f)∧toF (apiF f)=f:=by
  have h16:=qaJ h
  have hl:1≤(argsF f).length∧(argsF f).length≤2:=by
    unfold argsF;split <;> simp
  rw[UN];refine⟨⟨⟨h.r0,h.r5⟩,hl,h16⟩,?_⟩;unfold toF mkF argsF;obtain⟨r,a,b⟩:=f
  by_cases hb:b=0
  · subst hb;rfl
  · simp only
    rw[if_neg hb];rfl
theorem qco {out:List (rufact×Bool)} (hn:NT out) (ho:∀ g,g∈out.map Prod.fst→okU1 g):Xq out=some (sortF (apis out)):=by
  have hsm:=ZW hn.n ho;rw[List.length_map]at hsm;unfold Xq;rw[VK (by rw[Bool.and_eq_true,qbu hn.n,decide_eq_true (by omega)];exact⟨rfl,rfl⟩)]
end Go.AM
namespace Go.AM
open Go.Proofs
end Go.AM
namespace Go.AM
open Go.Proofs
end Go.AM
namespace Go.AM
open Go.Proofs Go.Sort
open Classical
theorem qdS (a2:List Int) (K:Option Bool):∀ (r:List Int) (k:Nat),k+r.length=a2.length→je a2 K r k=if r=a2.drop k then K else some false
 | [],k,h=>by
  rw[je,List.drop_of_length_le (by simp at h;omega),if_pos rfl]
 | x::r,k,h=>by
  rw[List.length_cons]at h
  have hk:k<a2.length:=by omega
  rw[je,qdS a2 K r (k+1) (by omega),List.drop_eq_getElem_cons hk]
  have hi:idx a2 (k:Int)=some a2[k]:=by
   unfold idx;rw[if_pos (by omega),Int.toNat_natCast,List.getElem?_eq_getElem hk]
  rw[hi];simp only[Option.bind_some,List.cons.injEq]
  by_cases hx:x=a2[k]
  ·rw[show (x != a2[k])=false by simp[hx],cond_false];simp only[hx,true_and]
  ·rw[show (x != a2[k])=true by simpa using hx,cond_true,if_neg (fun h=>hx h.1)]
theorem qgB {a b:List Int} (h:lenOk a=true):QM a b=some (decide (a=b)):=by
 unfold QM
 by_cases hl:a.length=b.length
 ·rw[show ((a.length:Int) != (b.length:Int))=false by simp[hl],cond_false,VK h,qdS b _ a 0 (by omega)];unfold Jb;simp only[List.drop_zero]
  by_cases he:a=b
  ·rw[if_pos he,decide_eq_true he]
  ·rw[if_neg he,decide_eq_false he]
 ·rw[show ((a.length:Int) != (b.length:Int))=true by simp;omega,cond_true,decide_eq_false (fun e=>hl (by rw[e]))]
theorem qdF {g:apiFact→Option Bool} {p:apiFact→Bool}:∀ (l:List apiFact) (k:Nat),(∀ x,x∈l→g x=some (p x))→∃ i,qF g qX l k=some i∧(decide (i ≥ 0)=l.any p)
 | [],k,_=>⟨-1,by rw[qF];rfl,by simp⟩
 | x::l,k,h=>by
  obtain⟨i,h1,h2⟩:=qdF l (k+1) fun y hy=>h y (List.mem_cons_of_mem _ hy)
  rw[qF,h x (List.mem_cons_self ..)];simp only[Option.bind_some]
  cases hp:p x with
  | true=>exact⟨k,rfl,by simp[hp]⟩
  | false=>exact⟨i,by rw[cond_false];exact h1,by rw[h2,List.any_cons,hp,Bool.false_or]⟩
theorem qcN {l:List apiFact} {g:apiFact→Option Bool} {p:apiFact→Bool} (hl:lenOk l=true) (h:∀ x,x∈l→g x=some (p x)):Jd l g=some (l.any p):=by
 obtain⟨i,h1,h2⟩:=qdF l 0 h;unfold Jd Qy;rw[VK hl,h1];simp only[Option.bind_some];rw[h2]
theorem qaA {a b:apiFact}:a=b↔a.qb=b.qb∧a.qa=b.qa:=by
 obtain⟨r,x⟩:=a;obtain⟨s,y⟩:=b
 simp
theorem qen {l:List apiFact} {f:apiFact} (hl:lenOk l=true) (hf:lenOk f.qa=true):Zq l f=some (decide (f∈l)):=by
 unfold Zq;rw[qcN (p:=fun x=>decide (f=x)) hl fun x hx=>?_]
 ·simp only[Option.bind_some]
  congr 1
  rw[Bool.eq_iff_iff,List.any_eq_true,decide_eq_true_eq]
  constructor
  ·rintro⟨x,hx,he⟩
   rw[of_decide_eq_true he];exact hx
  ·intro h;exact⟨f,h,decide_eq_true rfl⟩
 ·unfold Yq
  by_cases h1:f.qb=x.qb
  ·rw[show (f.qb == x.qb)=true by simp[h1],cond_true,qgB hf];simp only[Option.bind_some,JZ]
   congr 1
   exact decide_eq_decide.2 ⟨fun h=>qaA.2 ⟨h1,h⟩,fun h=>(qaA.1 h).2⟩
  ·rw[show (f.qb == x.qb)=false by simpa using h1,cond_false];unfold JZ;rw[decide_eq_false (fun h=>h1 (qaA.1 h).1)]
def cutF (f:apiFact):apiFact:=⟨f.qb,f.qa.take 5⟩
theorem qeS (f:apiFact):Ue f=some (cutF f):=by
 unfold Ue;have h:=DL (l:=f.qa) 5;rw[show ((5:Nat):Int)=5 from rfl]at h;rw[h];simp only[Option.bind_some];rw[HQ (by rw[List.length_take];omega)];rfl
theorem qhS {f:apiFact} (h:groundP f):apiF (toF f)=f:=by
 rw[UN,(Vq h).2];rfl
theorem qfN {out:List (rufact×Bool)} {f:apiFact}:f∈sortF (apis out)↔∃ g,g∈out.map Prod.fst∧apiF g=f:=by
 have hp:(sortF (apis out)).Perm (apis out):=List.mergeSort_perm ..;rw[hp.mem_iff];unfold apis;rw[List.mem_map]
 constructor
 ·rintro⟨p,hp,rfl⟩;exact⟨p.1,List.mem_map.2 ⟨p,hp,rfl⟩,rfl⟩
 ·rintro⟨g,hg,rfl⟩
  obtain⟨p,hp,rfl⟩:=List.mem_map.1 hg;exact⟨p,hp,rfl⟩
theorem qdo {l:List rf3Rule} (hl:l.length≤10) (h:∀ r,r∈l→okR r):(l.take 12).map cvR=l.map toR:=by
 rw[List.take_of_length_le (by omega)]
 exact List.map_congr_left fun r hr=>qhJ (h r hr)
theorem qdN {m:List apiFact} (hm:m.length≤26) (h:∀ f,f∈m→f.qa.length≤9):(m.take 26).map cvF=m:=by
 rw[List.take_of_length_le hm]
 conv=>rhs;rw[← List.map_id m]
 refine List.map_congr_left fun f hf=>?_
 unfold cvF;rw[List.take_of_length_le (h f hf)];rfl
theorem mvalid {fuel:Nat} (hf:4≤fuel) {l:List rf3Rule} (ho:okRules l) (hl:l.length≤10) (h:∀ r,r∈l→okR r) {m:List apiFact} (hm:m.length≤26) (h9:∀ f,f∈m→f.qa.length≤9):XL fuel (l.map toR) m=some (decide (VR l m)):=by
 have:=DJ hf (facts:=m) ho;rw[qdo hl h,qdN hm h9]at this;exact this
theorem qcC {fuel:Nat} (hf:300≤fuel) {l:List rf3Rule} (ho:okRules l) {m:List apiFact} (hv:VR l m) (hp:plainP l):∃ out,YM fuel (l.map toR) m=some (sortF (apis out),0)∧NT out∧(∀ g,g∈out.map Prod.fst→okU1 g)∧out.length≤252∧∀ N,LeastR (l.map toR) N (fun g=>g∈m.map toF) (fun g=>g∈out.map Prod.fst):=by
 obtain⟨out,a1,a2,a3,a4⟩:=qdy (by omega:300≤fuel) hv.1 hv.okL hp (by have:=hv.2.1;omega) hv.2.2.1 hv.facts_ar
 have hoo:∀ g,g∈out.map Prod.fst→okU1 g:=fun g hg=>(a3 g hg).1
 have hsm:=ZW a2.n hoo;rw[List.length_map]at hsm;refine⟨out,?_,a2,hoo,hsm,a4⟩;unfold YM;rw[mvalid (by omega) ho hv.1 hv.2.2.2.1 (by have:=hv.2.1;omega) (fun f hf=>by have:=(hv.2.2.1 f hf).2.1.2;omega),decide_eq_true hv];simp only[Option.bind_some,Bool.not_true,cond_false];rw[a1];simp only[Option.bind_some,Bool.not_true,cond_false];rw[qco a2 hoo];rfl
theorem qdg {out:List (rufact×Bool)} (h:out.length≤252):lenOk (sortF (apis out))=true:=qM (by rw[YZ,List.length_map];omega)
end Go.AM
namespace Go.AM
open Go.Proofs
open Classical
theorem Uu {P Q:rufact→Prop}:∀ {body:List ruLit} {v w:List Int},(∀ x,x∈body→x.qp=false→∀ g,P g→g.qn=x.qd.qb→Q g)→InstP P body v w→InstP Q body v w
 | [],v,w,_,hi=>hi
 | x::body,v,w,h,hi=>by
  have h':=fun y (hy:y∈body)=>h y (List.mem_cons_of_mem _ hy)
  rcases hi with ⟨hn,hi⟩ | ⟨hn,g,u,hg,h1,h2,h3,h4⟩
  ·exact .inl ⟨hn,Uu h' hi⟩
  ·exact .inr ⟨hn,g,u,h x (List.mem_cons_self ..) hn g hg h1,h1,h2,h3,Uu h' h4⟩
def Strat (lev:Int→Nat) (L:List ruRule):Prop:=∀ r,r∈L→∀ x,x∈r.qe→lev x.qd.qb+(if x.qp=true then 1 else 0)≤lev r.qf.qb
theorem Strat.le {lev:Int→Nat} {L:List ruRule} (h:Strat lev L) {r:ruRule} (hr:r∈L) {x:ruLit} (hx:x∈r.qe):lev x.qd.qb≤lev r.qf.qb:=by
 have:=h r hr x hx;omega
theorem Strat.lt {lev:Int→Nat} {L:List ruRule} (h:Strat lev L) {r:ruRule} (hr:r∈L) {x:ruLit} (hx:x∈r.qe) (hn:x.qp=true):lev x.qd.qb<lev r.qf.qb:=by
 have:=h r hr x hx;rw[if_pos hn]at this;omega
def partU (lev:Int→Nat) (k:Nat) (L:List ruRule):List ruRule:=L.filter fun r=>lev r.qf.qb == k
theorem Hz {lev:Int→Nat} {k:Nat} {L:List ruRule} {r:ruRule}:r∈partU lev k L↔r∈L∧lev r.qf.qb=k:=by
 unfold partU;rw[List.mem_filter,beq_iff_eq]
def StepsP (lev:Int→Nat) (L:List ruRule):Nat→Nat→(rufact→Prop)→(rufact→Prop)→Prop
 | _,0,X,Y=>X=Y
 | k,n+1,X,Y=>∃ Z,LeastR (partU lev k L) X X Z∧StepsP lev L (k+1) n Z Y
theorem StepsP.spec {lev:Int→Nat} {L:List ruRule} (hs:Strat lev L):∀ (n k:Nat) (X Y:rufact→Prop),StepsP lev L k n X Y→(∀ r,r∈L→lev r.qf.qb<k+n) →
  (∀ g,X g→Y g)∧(∀ g,Y g→lev g.qn<k→X g)∧(∀ r,r∈L→k≤lev r.qf.qb→∀ w,InstP Y r.qe v0 w→FreeP Y w r.qe→Y (groundF w r.qf)) ∧
   ∀ Q:rufact→Prop,(∀ g,X g→Q g)→(∀ r,r∈L→k≤lev r.qf.qb→∀ w,InstP Q r.qe v0 w→FreeP Y w r.qe→Q (groundF w r.qf))→∀ g,Y g→Q g
 | 0,k,X,Y,h,hk=>by
  have h:X=Y:=h;subst h;exact⟨fun _ h=>h,fun _ h _=>h,fun r hr hq=>by have:=hk r hr;omega,fun Q h _ g hg=>h g hg⟩
 | n+1,k,X,Y,⟨Z,hZ,h⟩,hk=>by
  obtain⟨i1,i2,i3,i4⟩:=StepsP.spec hs n (k+1) Z Y h fun r hr=>by have:=hk r hr;omega
  have hZk:∀ g,Z g→X g∨lev g.qn=k:=hZ.least _ (fun g h=>.inl h) fun r hr w _ _=>.inr (Hz.1 hr).2
  have hlow:∀ g,Y g→lev g.qn<k→X g:=fun g hg hl=>by
   rcases hZk g (i2 g hg (by omega)) with h | h
   ·exact h
   ·omega
  have hXY:∀ g,X g→Y g:=fun g hg=>i1 g (hZ.sub g hg)
  have hfree:∀ r,r∈L→lev r.qf.qb=k→∀ w,FreeP X w r.qe→FreeP Y w r.qe:=fun r hr hl w hf x hx hn hy=>hf x hx hn (hlow _ hy (by
   have:=hs.lt hr hx hn;show lev x.qd.qb<k
   omega))
  refine⟨hXY,hlow,fun r hr hq w hi hf=>?_,fun Q h1 h2=>?_⟩
  ·by_cases hl:lev r.qf.qb=k
   ·refine i1 _ (hZ.closed r (Hz.2 ⟨hr,hl⟩) w (Uu (fun x hx hn g hg hrel=>i2 g hg ?_) hi) fun x hx hn hy=>hf x hx hn (hXY _ hy));have:=hs.le hr hx;rw[hrel];omega
   ·exact i3 r hr (by omega) w hi hf
  ·refine i4 Q (hZ.least Q h1 fun r hr w hi hf=>?_) fun r hr hq=>h2 r hr (by omega)
   obtain⟨hr,hl⟩:=Hz.1 hr;exact h2 r hr (by omega) w hi (hfree r hr hl w hf)
theorem StepsP.stable {lev:Int→Nat} {L:List ruRule} (hs:Strat lev L) {n:Nat} {X Y:rufact→Prop} (h:StepsP lev L 0 n X Y) (hk:∀ r,r∈L→lev r.qf.qb<n):LeastR L Y X Y:=by
 obtain⟨i1,i2,i3,i4⟩:=StepsP.spec hs n 0 X Y h (by simpa using hk);exact⟨i1,fun r hr w=>i3 r hr (Nat.zero_le _) w,fun Q h1 h2=>i4 Q h1 fun r hr _ w=>h2 r hr w⟩
end Go.AM
namespace Go.Proofs
open Go.RowKit Go.AM
open Go.ChangeMaps (setBlock)
end Go.Proofs
namespace Go.AM
open Go.Proofs
end Go.AM
namespace Go.AM
open Go.Proofs
end Go.AM
