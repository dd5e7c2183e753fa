/- s -/
import Derived.Test.YtdghpfejmlpjhaaRL12
set_option maxRecDepth 100000
set_option linter.unusedVariables false
set_option linter.unusedSimpArgs false
namespace Go.AM
open Go.Proofs
open Classical
def cntB:List Bool→Nat
 | []=>0
 | b::S=>(if b=true then 1 else 0)+cntB S
theorem qeW:∀ (S:List Bool),cntB S≤S.length
 | []=>by simp[cntB]
 | b::S=>by
  have:=qeW S;unfold cntB;rw[List.length_cons]
  split <;> omega
theorem qdb:∀ {S:List Bool} {n:Nat},n<S.length→S.getD n false=false→cntB (S.set n true)=cntB S+1
 | [],n,h,_=>by simp at h
 | b::S,0,h,hb=>by
  have hb:b=false:=hb;subst hb;show cntB (true::S)=cntB (false::S)+1
  simp[cntB];omega
 | b::S,n+1,h,hb=>by
  have:=qdb (S:=S) (n:=n) (by simpa using h) (by simpa using hb);show cntB (b::S.set n true)=cntB (b::S)+1;unfold cntB;omega
theorem qgL {S:List Bool} {n:Nat} (hn:n<S.length) (m:Nat):(S.set n true).getD m false=if m=n then true else S.getD m false:=by
 simp only[List.getD_eq_getElem?_getD]
 by_cases h:m=n
 ·subst h;rw[List.getElem?_set_self hn,if_pos rfl];rfl
 ·rw[List.getElem?_set_ne (fun q=>h q.symm),if_neg h]
theorem qcn {S:List Bool} (hS:S.length=252) {g:rufact} (hg:okU1 g) (h:rufact):setB (S.set (codeF g) true) h↔setB S h∨h=g:=by
 have hlt:=YN hg;unfold setB;rw[qgL (by omega)]
 constructor
 ·rintro⟨h1,h2⟩
  split at h2
  ·rename_i he;exact .inr (qbj h1 hg he)
  ·exact .inl ⟨h1,h2⟩
 ·rintro (⟨h1,h2⟩ | rfl)
  ·refine⟨h1,?_⟩
   split
   ·rfl
   ·exact h2
  ·exact⟨hg,by rw[if_pos rfl]⟩
theorem HU {ar:Int→Nat} {r:rf3Rule} (hr:okL ar (toR r)) {N:List Bool} (hN:N.length=252) (K:List Bool→Bool→Option (List Bool)):∀ (ws:List (List Int)) (k:Nat) (S:List Bool) (ch:Bool),S.length=252→(∀ w,w∈ws→V8 w∧∀ a,a∈atomsU (toR r)→bnd w a.qa) →
  ∃ S' ch',jV r N K ws k S ch=K S' ch'∧S'.length=252∧(∀ g,setB S' g↔setB S g∨∃ w,w∈ws∧FreeP (setB N) w (toR r).qd∧g=groundF w (toR r).qf)∧cntB S≤cntB S'∧(ch'=true→ch=true∨cntB S<cntB S')∧(ch'=false→ch=false∧S'=S)
 | [],k,S,ch,hS,_=>⟨S,ch,by rw[jV],hS,fun g=>by simp,Nat.le_refl _,.inl,fun h=>⟨h,rfl⟩⟩
 | w::ws,k,S,ch,hS,hw=>by
  obtain⟨w1,w2⟩:=hw w (List.mem_cons_self ..)
  have hw':∀ u,u∈ws→V8 u∧∀ a,a∈atomsU (toR r)→bnd u a.qa:=fun u hu=>hw u (List.mem_cons_of_mem _ hu)
  have hh:=hr.head;have hgo:=(ZO w1 hh.1 (w2 _ (List.mem_cons_self ..))).1;have hlt:=YN hgo
  have hbl:r.qd.length≤3:=by have:=hr.1.1;simpa[toR] using this
  have hgv:Zr r.qf w=some (codeF (groundF w (toR r).qf):Int):=qaU w1 hh.1 (w2 _ (List.mem_cons_self ..))
  have hfr:=qgM w1 hN hbl fun x hx hn=>⟨(hr.body (toL x) (List.mem_map.2 ⟨x,hx,rfl⟩)).1,w2 (toL x).qe (List.mem_cons_of_mem _ (List.mem_map.2 ⟨toL x,List.mem_map.2 ⟨x,hx,rfl⟩,rfl⟩))⟩
  have hgd:S[0+Int.toNat (codeF (groundF w (toR r).qf):Int) * 1]? = some (S.getD (codeF (groundF w (toR r).qf)) false):=by
   rw[Nat.zero_add,Nat.mul_one,Int.toNat_natCast,List.getD_eq_getElem?_getD,List.getElem?_eq_getElem (by omega)];rfl
  have hck:decide ((0:Int)≤(codeF (groundF w (toR r).qf):Int)∧(codeF (groundF w (toR r).qf):Int)<((252:Nat):Int)∧0<1)=true:=decide_eq_true ⟨by omega,by omega,by omega⟩;rw[jV,ZU (decide_eq_true w1.1),ZU (decide_eq_true ⟨w1.1,by simp⟩),ZU (decide_eq_true w1.1),hgv];simp only[Option.bind_some];rw[ZU (decide_eq_true w1.1),ZU (decide_eq_true hN),hfr];simp only[Option.bind_some];unfold QA QB
  by_cases hq:FreeP (setB N) w (toR r).qd
  ·rw[decide_eq_true hq,cond_true,ZU hck,hgd];simp only[Option.bind_some]
   cases hs:S.getD (codeF (groundF w (toR r).qf)) false with
   | true =>
    rw[Bool.not_true,cond_false];obtain⟨S',ch',e1,e2,e3,e4,e5,e6⟩:=HU hr hN K ws (k+1) S ch hS hw';refine⟨S',ch',e1,e2,fun g=>?_,e4,e5,e6⟩;rw[e3]
    constructor
    ·rintro (h | ⟨u,hu,h⟩)
     ·exact .inl h
     ·exact .inr ⟨u,List.mem_cons_of_mem _ hu,h⟩
    ·rintro (h | ⟨u,hu,h,h2⟩)
     ·exact .inl h
     ·rcases List.mem_cons.1 hu with rfl | hu
      ·exact .inl ⟨by rw[h2];exact hgo,by rw[h2];exact hs⟩
      ·exact .inr ⟨u,hu,h,h2⟩
   | false =>
    rw[Bool.not_false,cond_true,ZU hck,ZU (decide_eq_true (by omega)),Nat.zero_add,Nat.mul_one,Int.toNat_natCast];have hc:=qdb (S:=S) (by omega) hs;obtain⟨S',ch',e1,e2,e3,e4,e5,e6⟩:=HU hr hN K ws (k+1) (S.set (codeF (groundF w (toR r).qf)) true) true (by rw[List.length_set,hS]) hw';refine⟨S',ch',e1,e2,fun g=>?_,by omega,fun _=>.inr (by omega),fun h=>absurd (e6 h).1 (by simp)⟩;rw[e3,qcn hS hgo]
    constructor
    ·rintro ((h | h) | ⟨u,hu,h⟩)
     ·exact .inl h
     ·exact .inr ⟨w,List.mem_cons_self ..,hq,h⟩
     ·exact .inr ⟨u,List.mem_cons_of_mem _ hu,h⟩
    ·rintro (h | ⟨u,hu,h,h2⟩)
     ·exact .inl (.inl h)
     ·rcases List.mem_cons.1 hu with rfl | hu
      ·exact .inl (.inr h2)
      ·exact .inr ⟨u,hu,h,h2⟩
  ·rw[decide_eq_false hq,cond_false,cond_false];obtain⟨S',ch',e1,e2,e3,e4,e5,e6⟩:=HU hr hN K ws (k+1) S ch hS hw';refine⟨S',ch',e1,e2,fun g=>?_,e4,e5,e6⟩;rw[e3]
   constructor
   ·rintro (h | ⟨u,hu,h⟩)
    ·exact .inl h
    ·exact .inr ⟨u,List.mem_cons_of_mem _ hu,h⟩
   ·rintro (h | ⟨u,hu,h,h2⟩)
    ·exact .inl h
    ·rcases List.mem_cons.1 hu with rfl | hu
     ·exact absurd h hq
     ·exact .inr ⟨u,hu,h,h2⟩
theorem qez (S:List Bool):okW (setB S):=fun g h=>h.1
theorem qeU {ar:Int→Nat} {fuel:Nat} (hf:5≤fuel) {N:List Bool} (hN:N.length=252) (N1:List Bool→Bool→Option (List Bool)):∀ (L:List rf3Rule) (k:Nat) (S:List Bool) (ch:Bool),(∀ r,r∈L→okL ar (toR r))→S.length=252→arW ar (setB S) →
  ∃ S' ch',jX fuel N N1 L k S ch=N1 S' ch'∧S'.length=252∧arW ar (setB S')∧(∀ g,setB S g→setB S' g)∧cntB S≤cntB S'∧(ch'=true→ch=true∨cntB S<cntB S')∧(ch'=false→ch=false∧S'=S∧ClosedR (L.map toR) (setB N) (setB S))∧(∀ Q:rufact→Prop,(∀ g,setB S g→Q g)→ClosedR (L.map toR) (setB N) Q→∀ g,setB S' g→Q g)
 | [],k,S,ch,_,hS,har=>⟨S,ch,by rw[jX],hS,har,fun g h=>h,Nat.le_refl _,.inl,fun h=>⟨h,rfl,fun r hr=>by simp at hr⟩,fun Q h _=>h⟩
 | r::L,k,S,ch,hL,hS,har=>by
  have hr:=hL r (List.mem_cons_self ..)
  have hbl:r.qd.length≤3:=by have:=hr.1.1;simpa[toR] using this
  have hiv:=Zf (r:=r) hbl (fun x hx=>by
   have:=(hr.body (toL x) (List.mem_map.2 ⟨x,hx,rfl⟩)).1
   exact⟨Xs this,this.2.1.2⟩) hS r.qd.length fuel 0 v0 (by omega) (by omega) (by simp)
  rw[List.drop_zero]at hiv;replace hiv:JV fuel r S 0 (List.replicate 8 0)=some (instR S (r.qd.map toL) v0):=hiv
  have hmem:∀ w,w∈instR S (r.qd.map toL) v0↔InstP (setB S) (toR r).qd v0 w:=fun w=>VS _ _ _
  have hlen:(instR S (r.qd.map toL) v0).length≤16003008:=by
   have h1:=VT S (r.qd.map toL) v0;rw[List.length_map]at h1;have h2:252 ^ r.qd.length≤252 ^ 3:=Nat.pow_le_pow_right (by omega) hbl
   have:252 ^ 3=16003008:=by decide
   omega
  rw[jX,ZU (decide_eq_true hS),hiv];simp only[Option.bind_some];rw[ZU (qG (by omega))]
  obtain⟨S1,c1,e1,e2,e3,e4,e5,e6⟩:=HU hr hN (QC (jX fuel N N1 L (k+1))) (instR S (r.qd.map toL) v0) 0 S ch hS fun w hw=>hr.inst (qez S) ((hmem w).1 hw)
  rw[e1];unfold QC
  have har1:arW ar (setB S1):=fun g hg=>by
   rcases (e3 g).1 hg with h | ⟨w,hw,_,rfl⟩
   ·exact har g h
   ·exact hr.ground (qez S) ((hmem w).1 hw)
  obtain⟨S2,c2,g1,g2,g3,g4,g5,g6,g7,g8⟩:=qeU hf hN N1 L (k+1) S1 c1 (fun q hq=>hL q (List.mem_cons_of_mem _ hq)) e2 har1;refine⟨S2,c2,g1,g2,g3,fun g h=>g4 g ((e3 g).2 (.inl h)),by omega,fun h=>?_,fun h=>?_,fun Q h1 h2=>?_⟩
  ·rcases g6 h with h | h
   ·rcases e5 h with h | h
    ·exact .inl h
    ·exact .inr (by omega)
   ·exact .inr (by omega)
  ·obtain⟨a1,a2,a3⟩:=g7 h;obtain⟨b1,b2⟩:=e6 a1;subst b2;refine⟨b1,a2,fun q hq w hw hfr=>?_⟩;rw[List.map_cons]at hq
   rcases List.mem_cons.1 hq with rfl | hq
   ·exact (e3 _).2 (.inr ⟨w,(hmem w).2 hw,hfr,rfl⟩)
   ·exact a3 q hq w hw hfr
  ·refine g8 Q (fun g hg=>?_) (fun q hq=>h2 q (by rw[List.map_cons];exact List.mem_cons_of_mem _ hq))
   rcases (e3 g).1 hg with h | ⟨w,hw,hfr,rfl⟩
   ·exact h1 g h
   ·exact h2 (toR r) (by rw[List.map_cons];exact List.mem_cons_self ..) w (ZT h1 ((hmem w).1 hw)) hfr
theorem qeV {ar:Int→Nat} {fuel:Nat} (hf:5≤fuel) {L:List rf3Rule} (hl:L.length≤12) (hL:∀ r,r∈L→okL ar (toR r)) {N:List Bool} (hN:N.length=252) {G:rufact→Prop} (K:List Bool→Option (List Bool)):∀ (n m:Nat) (S:List Bool),S.length=252→arW ar (setB S)→253≤cntB S+n→n+1≤m→(∀ g,G g→setB S g)→(∀ Q:rufact→Prop,(∀ g,G g→Q g)→ClosedR (L.map toR) (setB N) Q→∀ g,setB S g→Q g) →
  ∃ S',jY fuel L N K m S true=K S'∧S'.length=252∧arW ar (setB S')∧LeastR (L.map toR) (setB N) G (setB S')
 | 0,m,S,hS,har,hn,hm,hG,hQ=>by have:=qeW S;omega
 | n+1,0,S,hS,har,hn,hm,hG,hQ=>by omega
 | n+1,m+1,S,hS,har,hn,hm,hG,hQ=>by
  obtain⟨S2,c2,g1,g2,g3,g4,g5,g6,g7,g8⟩:=qeU hf hN (jY fuel L N K m) L 0 S false hL hS har;rw[jY,cond_true,ZU (qG (by omega)),g1]
  cases c2 with
  | true =>
   rcases g6 rfl with h | h
   ·cases h
   ·exact qeV hf hl hL hN K n m S2 g2 g3 (by omega) (by omega) (fun g hg=>g4 g (hG g hg)) (fun Q h1 h2=>g8 Q (hQ Q h1 h2) h2)
  | false =>
   obtain⟨_,rfl,h3⟩:=g7 rfl
   match m,hm with
   | m+1,_ =>
    rw[jY,cond_false];exact⟨S2,rfl,g2,g3,hG,h3,hQ⟩
theorem qaD {ar:Int→Nat} {fuel:Nat} (hf:300≤fuel) {L:List rf3Rule} (hl:L.length≤12) (hL:∀ r,r∈L→okL ar (toR r)) {S N:List Bool} (hS:S.length=252) (hN:N.length=252) (har:arW ar (setB S)) :
  ∃ S',QL fuel L S N=some S'∧S'.length=252∧arW ar (setB S')∧LeastR (L.map toR) (setB N) (setB S) (setB S'):=by
 obtain⟨S',e1,e2,e3,e4⟩:=qeV (by omega:5≤fuel) hl hL hN (G:=setB S) QR 253 fuel S hS har (by omega) (by omega) (fun g h=>h) (fun Q h _=>h);refine⟨S',?_,e2,e3,e4⟩;unfold QL;rw[ZU (by cases S <;> simp_all),ZU (by cases N <;> simp_all),e1];unfold QR;rw[ZU (decide_eq_true e2),ZU (decide_eq_true ⟨e2,by simp⟩),ZU (decide_eq_true e2)]
end Go.AM
namespace Go.AM
open Go.Proofs
open Classical
structure StR (ar:Int→Nat) (out:List (rufact×Bool)) (S:List Bool):Prop where
 nt:NT out
 ar:arW ar (fun g=>g∈out.map Prod.fst)
 len:S.length=252
 same:∀ g,g∈out.map Prod.fst↔setB S g
theorem StR.arB {ar:Int→Nat} {out:List (rufact×Bool)} {S:List Bool} (h:StR ar out S):arW ar (setB S):=fun g hg=>h.ar g ((h.same g).2 hg)
def inS (v:List Int) (k:Nat) (r:rf3Rule):Bool:=v.getD r.qf.qb.toNat 0 == (k:Int)
def partS (v:List Int) (k:Nat) (l:List rf3Rule):List rf3Rule:=l.filter (inS v k)
theorem idx6 {v:List Int} (hv:v.length=6) {n:Int} (h:rel6 n):idx v n=some (v.getD n.toNat 0):=by
 have:=h.1;have:=h.2;unfold idx;rw[if_pos h.1,List.getD_eq_getElem?_getD,List.getElem?_eq_getElem (by omega)];rfl
theorem NG {v:List Int} (hv:v.length=6) {b:Bool} (k1:Nat) (K:List ruRule→Option (List (rufact×Bool)×Bool)):∀ (l:List rf3Rule) (k:Nat) (acc:List ruRule),(∀ r,r∈l→rel6 r.qf.qb)→acc.length+l.length≤1000→jE k1 (v,b) K (l.map toR) k acc=K (acc++(partS v k1 l).map toR)
 | [],k,acc,_,_=>by rw[List.map_nil,jE];simp[partS]
 | r::l,k,acc,h,hl=>by
  have hr:=h r (List.mem_cons_self ..)
  have h':∀ q,q∈l→rel6 q.qf.qb:=fun q hq=>h q (List.mem_cons_of_mem _ hq)
  rw[List.length_cons]at hl;rw[List.map_cons,jE];show (idx v r.qf.qb).bind _=_;rw[idx6 hv hr];simp only[Option.bind_some];unfold QJ partS;rw[List.filter_cons]
  cases hq:inS v k1 r with
  | true =>
   have hq':(v.getD r.qf.qb.toNat 0 == (k1:Int))=true:=hq;rw[hq',cond_true,ZU (JS (by omega) (by simp;omega)),NG hv k1 K l (k+1) _ h' (by simp;omega)]
   simp[partS]
  | false =>
   have hq':(v.getD r.qf.qb.toNat 0 == (k1:Int))=false:=hq;rw[hq',cond_false,NG hv k1 K l (k+1) _ h' (by omega)]
   simp[partS]
def toF (f:apiFact):rufact:=mkF f.qb f.qa
theorem qbu {f:apiFact} (h:groundP f):okU1 (toF f)∧argsF (toF f)=f.qa:=qgB h.1 h.2.1 h.2.2
theorem qhv {f:apiFact} (h:groundP f):Vg f=some (toF f):=by
 have e:f=apiF (toF f):=by rw[Xt,(qbu h).2];rfl
 calc Vg f=Vg (apiF (toF f)):=by rw[← e]
  _=some (toF f):=qhu
theorem VV (K:List (rufact×Bool)→Option (List (rufact×Bool))):∀ (l:List apiFact) (k:Nat) (acc:List (rufact×Bool)),(∀ f,f∈l→groundP f)→NT acc→acc.length+l.length≤1000→JA K l k acc=K (addF acc (l.map toF))
 | [],k,acc,_,_,_=>by rw[JA];rfl
 | f::l,k,acc,h,hn,hl=>by
  have hf:=h f (List.mem_cons_self ..);rw[List.length_cons]at hl;have hw:=(qbu hf).1.wf;unfold wfF at hw;obtain⟨m1,m2,m3,m4⟩:=hn.mset (toF f)
  have hlen:(mset qn (toF f) true acc).length≤acc.length+1:=by
   by_cases hm:toF f∈acc.map Prod.fst
   ·have:∀ {l:List (rufact×Bool)},toF f∈l.map Prod.fst→(mset qn (toF f) true l).length=l.length:=by
     intro l
     induction l with
     | nil=>intro h;simp at h
     | cons p r ih =>
      intro h;unfold mset
      cases hq:qn p.1 (toF f) with
      | true=>rfl
      | false =>
       rw[cond_false,List.length_cons,List.length_cons,ih];rw[List.map_cons]at h
       rcases List.mem_cons.1 h with h | h
       ·exact absurd h.symm (VQ.1 hq)
       ·exact h
    rw[this hm];omega
   ·rw[m4 hm];omega
  rw[JA,qhv hf];simp only[Option.bind_some];rw[ZU hw,ZU (by rw[Nat.blt_eq];omega),VV K l (k+1) _ (fun g hg=>h g (List.mem_cons_of_mem _ hg)) m1 (by omega)];rfl
theorem qgr (K:List Bool→Option (List Bool)):∀ (l:List apiFact) (k:Nat) (S:List Bool),(∀ f,f∈l→groundP f)→S.length=252→∃ S',Zt K l k S=K S'∧S'.length=252∧∀ g,setB S' g↔setB S g∨g∈l.map toF
 | [],k,S,_,hS=>⟨S,by rw[Zt],hS,fun g=>by simp⟩
 | f::l,k,S,h,hS=>by
  have hf:=h f (List.mem_cons_self ..);obtain⟨h1,h2⟩:=qbu hf;have hlt:=YN h1;obtain⟨S',e1,e2,e3⟩:=qgr K l (k+1) (S.set (codeF (toF f)) true) (fun g hg=>h g (List.mem_cons_of_mem _ hg)) (by rw[List.length_set,hS]);refine⟨S',?_,e2,fun g=>?_⟩
  ·have hc:=qda h1;rw[h2]at hc;replace hc:Zs f.qb f.qa=_:=hc;rw[Zt,hc];simp only[Option.bind_some];rw[ZU (decide_eq_true ⟨by omega,by omega,by omega⟩),ZU (decide_eq_true (by omega)),Nat.zero_add,Nat.mul_one,Int.toNat_natCast];exact e1
  ·rw[e3,qcn hS h1,List.map_cons,List.mem_cons]
   constructor
   ·rintro ((h | h) | h)
    ·exact .inl h
    ·exact .inr (.inl h)
    ·exact .inr (.inr h)
   ·rintro (h | h | h)
    ·exact .inl (.inl h)
    ·exact .inl (.inr h)
    ·exact .inr h
theorem DC {ar:Int→Nat} {l:List apiFact} (hl:l.length≤100) (h:∀ f,f∈l→groundP f) (har:∀ f,f∈l→f.qa.length=ar f.qb):∃ out S,QT l=some out∧qdI l=some S∧StR ar out S:=by
 obtain⟨S,e1,e2,e3⟩:=qgr NH l 0 (List.replicate 252 false) h (by simp);obtain⟨a1,a2,a3,a4⟩:=NT.empty.add (fr:=l.map toF)
 have hm:∀ g,g∈(addF [] (l.map toF)).map Prod.fst↔g∈l.map toF:=fun g=>by rw[a2];simp
 have h0:∀ g,¬ setB (List.replicate 252 false) g:=fun g hg=>by
  have:=hg.2;rw[List.getD_eq_getElem?_getD,List.getElem?_replicate]at this
  split at this <;> simp at this
 refine⟨addF [] (l.map toF),S,?_,?_,a1,fun g hg=>?_,e2,fun g=>?_⟩
 ·unfold QT;rw[ZU (qG (by omega)),VV _ l 0 [] h NT.empty (by simp;omega)];rfl
 ·unfold qdI;rw[ZU (qG (by omega)),e1];unfold NH;rw[ZU (decide_eq_true e2),ZU (decide_eq_true ⟨e2,by simp⟩),ZU (decide_eq_true e2)]
 ·obtain⟨f,hf,rfl⟩:=List.mem_map.1 ((hm g).1 hg);obtain⟨h1,h2⟩:=qbu (h f hf);exact⟨h1,by rw[h2];exact har f hf⟩
 ·rw[hm,e3];exact⟨.inr,fun q=>q.resolve_left (h0 g)⟩
end Go.AM
namespace Go.AM
open Go.Proofs
open Classical
def arOf (S:List jU) (rel:Int):Nat:=match S.find? fun s=>s.f_0 == rel with
 | some s=>s.f_1.toNat
 | none=>1
theorem qdn {S:List jU} (hS:conP S) {s:jU} (hs:s∈S):arOf S s.f_0=s.f_1.toNat:=by
 unfold arOf
 cases hf:S.find? fun t=>t.f_0 == s.f_0 with
 | none =>
  have:=List.find?_eq_none.1 hf s hs
  simp at this
 | some t =>
  have h1:=List.mem_of_find?_eq_some hf
  have h2:t.f_0=s.f_0:=by simpa using List.find?_some hf
  show t.f_1.toNat=s.f_1.toNat;rw[hS t h1 s hs h2]
abbrev szVR (l:List rf3Rule) (facts:List apiFact):List jU:=facts.map szF++l.flatMap sizesR
abbrev arVR (l:List rf3Rule) (facts:List apiFact):Int→Nat:=arOf (szVR l facts)
theorem VR.facts_ar {l:List rf3Rule} {facts:List apiFact} (h:VR l facts):∀ f,f∈facts→f.qa.length=arVR l facts f.qb:=fun f hf=>by
 have:=qdn h.2.2.2.2 (s:=szF f) (List.mem_append_left _ (List.mem_map.2 ⟨f,hf,rfl⟩));show _=arOf _ (szF f).f_0;rw[this];rfl
theorem VR.okL {l:List rf3Rule} {facts:List apiFact} (h:VR l facts):∀ r,r∈l→okL (arVR l facts) (toR r):=fun r hr=>by
 have h1:=h.2.2.2.1 r hr
 have h2:okU (toR r):=by rw[← qgU h1];exact (qeI r).2 h1
 refine⟨h2,fun a ha=>?_⟩
 have key:∀ t:rf2Atom,szA t∈sizesR r→t.qa.length=arVR l facts t.qb:=fun t ht=>by
  have:=qdn h.2.2.2.2 (s:=szA t) (List.mem_append_right _ (List.mem_flatMap.2 ⟨r,hr,ht⟩));show _=arOf _ (szA t).f_0;rw[this];rfl
 rcases List.mem_cons.1 ha with rfl | ha
 ·exact key r.qf (List.mem_cons_self ..)
 ·obtain⟨x,hx,rfl⟩:=List.mem_map.1 ha;obtain⟨y,hy,rfl⟩:=List.mem_map.1 hx;exact key y.qe (List.mem_cons_of_mem _ (List.mem_map.2 ⟨y,hy,rfl⟩))
theorem qcv {ar:Int→Nat} {l:List rf3Rule} (h:∀ r,r∈l→Go.AM.okL ar (toR r)):relsR l:=fun r hr=>by
 have h1:=h r hr;refine⟨XE h1.head.1,by have:=h1.1.1;simpa[toR] using this,fun b hb=>XE (h1.body (toL b) (List.mem_map.2 ⟨b,hb,rfl⟩)).1⟩
theorem qgv {ar:Int→Nat} {l:List rf3Rule} (h:∀ r,r∈l→Go.AM.okL ar (toR r)):relsU (l.map toR):=fun q hq=>by
 obtain⟨r,hr,rfl⟩:=List.mem_map.1 hq;have h1:=h r hr;exact⟨XE h1.head.1,h1.1.1,fun b hb=>XE (h1.body b hb).1⟩
theorem qgT (l:List rf3Rule):edgesU (l.map toR)=edgesR l:=by
 unfold edgesU edgesR;rw[List.flatMap_map];simp only[toR,List.map_map,Function.comp_def,toL,toA]
end Go.AM
