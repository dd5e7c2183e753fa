/- s -/
import Derived.Test.YtdghpfejmlpjhaaRL11
set_option maxRecDepth 100000
set_option linter.unusedVariables false
set_option linter.unusedSimpArgs false
namespace Go.AM
open Go.Proofs
open Classical
abbrev v0:List Int:=List.replicate 8 0
theorem V8_0:V8 v0:=⟨by simp,fun i=>by
 rw[List.getD_eq_getElem?_getD,List.getElem?_replicate]
 split <;> simp⟩
def ClosedR (L:List ruRule) (N X:rufact→Prop):Prop:=∀ r,r∈L→∀ w,InstP X r.qe v0 w→FreeP N w r.qe→X (groundF w r.qf)
structure LeastR (L:List ruRule) (N G X:rufact→Prop):Prop where
 sub:∀ g,G g→X g
 closed:ClosedR L N X
 least:∀ Q:rufact→Prop,(∀ g,G g→Q g)→ClosedR L N Q→∀ g,X g→Q g
theorem LeastR.same {L:List ruRule} {N N' G G' X X':rufact→Prop} (h:LeastR L N G X) (h':LeastR L N' G' X') (hN:∀ g,N g↔N' g) (hG:∀ g,G g↔G' g):∀ g,X g↔X' g:=by
 obtain rfl:N=N':=funext fun g=>propext (hN g)
 obtain rfl:G=G':=funext fun g=>propext (hG g)
 exact fun g=>⟨h.least X' h'.sub h'.closed g,h'.least X h.sub h.closed g⟩
def okL (ar:Int→Nat) (r:ruRule):Prop:=okU r∧∀ a,a∈atomsU r→a.qa.length=ar a.qb
theorem okL.body {ar:Int→Nat} {r:ruRule} (h:okL ar r):∀ x,x∈r.qe→fitP x.qd.qb x.qd.qa∧x.qd.qa.length=ar x.qd.qb:=fun x hx =>
 have hm:x.qd∈atomsU r:=List.mem_cons_of_mem _ (List.mem_map.2 ⟨x,hx,rfl⟩)
 ⟨h.1.2.2 _ hm,h.2 _ hm⟩
theorem okL.head {ar:Int→Nat} {r:ruRule} (h:okL ar r):fitP r.qf.qb r.qf.qa∧r.qf.qa.length=ar r.qf.qb :=
 ⟨h.1.2.2 _ (List.mem_cons_self ..),h.2 _ (List.mem_cons_self ..)⟩
theorem okL.inst {ar:Int→Nat} {r:ruRule} (h:okL ar r) {P:rufact→Prop} (hP:okW P) {w:List Int} (hi:InstP P r.qe v0 w):V8 w∧∀ a,a∈atomsU r→bnd w a.qa:=by
 obtain⟨a,b,c⟩:=Nv hP hi V8_0 fun x hx=>Yi (h.body x hx).1
 refine⟨a,fun t ht x hx h0=>?_⟩;obtain⟨y,y1,y2,y3⟩:=h.1.2.1 t ht x hx h0;exact c y y1 y2 x y3 h0
theorem okL.ground {ar:Int→Nat} {r:ruRule} (h:okL ar r) {P:rufact→Prop} (hP:okW P) {w:List Int} (hi:InstP P r.qe v0 w):okU1 (groundF w r.qf)∧(argsF (groundF w r.qf)).length=ar (groundF w r.qf).qn:=by
 obtain⟨a,b⟩:=h.inst hP hi;obtain⟨c,d,e⟩:=VD a h.head.1 (b _ (List.mem_cons_self ..));refine⟨c,?_⟩;rw[d,e];unfold groundA;rw[List.length_map,h.head.2]
theorem arW.ok {ar:Int→Nat} {P:rufact→Prop} (h:arW ar P):okW P:=fun g hg=>(h g hg).1
theorem ZW {fs:List rufact} (hn:fs.Nodup) (ho:∀ g,g∈fs→okU1 g):fs.length≤252:=by
 have:=pig 252 (fs.map codeF) (by
  rw[List.nodup_iff_pairwise_ne,List.pairwise_map];refine List.Pairwise.imp_of_mem ?_ hn;intro a b ha hb hne h
  exact hne (qbW (ho a ha) (ho b hb) h)) (fun x hx=>by
   obtain⟨g,hg,rfl⟩:=List.mem_map.1 hx
   exact Zw (ho g hg))
 simpa using this
theorem qaq {ar:Int→Nat} {no out:List (rufact×Bool)} (hno:NT no) (hout:NT out) (har:arW ar fun g=>g∈out.map Prod.fst):∀ (L:List ruRule) (acc:List rufact),(∀ r,r∈L→okL ar r)→acc.length+16003008 * L.length≤900000000 →
  ∃ fr,freshL no out L acc=some fr∧∀ f,f∈fr↔f∈acc∨(f ∉ out.map Prod.fst∧∃ r,r∈L∧∃ w,InstP (fun g=>g∈out.map Prod.fst) r.qe v0 w∧FreeP (fun g=>g∈no.map Prod.fst) w r.qe∧f=groundF w r.qf)
 | [],acc,_,_=>⟨acc,rfl,fun f=>by simp⟩
 | r::L,acc,hr,hb=>by
  have h1:=hr r (List.mem_cons_self ..);rw[List.length_cons]at hb
  have hfs:=ZW hout.n fun g hg=>(har g hg).1
  obtain⟨d,d1,d2,d3⟩:=qdc (bl:=byRelL out) hno (by simpa using hfs) har (fun rel=>HV rel out) (all:=r.qe) (fun x hx=>(h1.body x hx).1) r.qe v0 h1.body V8_0
  have hd:d.length≤16003008:=by
   have:252 ^ r.qe.length≤252 ^ 3:=Nat.pow_le_pow_right (by omega) h1.1.1
   have e:252 ^ 3=16003008:=by decide
   omega
  have hg:∀ w,w∈d→qU w r.qf=some (groundF w r.qf)∧wfF (groundF w r.qf)=true:=fun w hw=>by
   obtain⟨a,_⟩:=h1.inst har.ok ((d3 w).1 hw).1;exact⟨Dh a.1 (Yi h1.head.1) h1.head.1.2.1.2,qbF a h1.head.1⟩
  have hh:headOk r.qf d=true:=by
   unfold headOk;rw[List.all_eq_true];intro w hw;obtain⟨a,b⟩:=hg w hw;rw[a];exact b
  have hlen:=Nm out r.qf d;obtain⟨fr,f1,f2⟩:=qaq hno hout har L (acc++headsP out r.qf d) (fun q hq=>hr q (List.mem_cons_of_mem _ hq)) (by rw[List.length_append];omega);refine⟨fr,?_,fun f=>?_⟩
  ·unfold freshL;rw[VK (decide_eq_true (by have:=h1.1.1;omega)),d1];simp only[Option.bind_some];rw[VK (by rw[hh,decide_eq_true (by omega)];rfl)];exact f1
  ·rw[f2,List.mem_append]
   have hm:f∈headsP out r.qf d↔f ∉ out.map Prod.fst∧∃ w,InstP (fun g=>g∈out.map Prod.fst) r.qe v0 w∧FreeP (fun g=>g∈no.map Prod.fst) w r.qe∧f=groundF w r.qf:=by
    unfold headsP;rw[List.mem_filterMap]
    constructor
    ·rintro⟨w,hw,he⟩
     rw[(hg w hw).1]at he;simp only[Option.bind_some]at he
     split at he
     ·cases he
     ·rename_i hq;cases he;exact⟨fun hm=>hq ((NT.mget hout.t _).2 hm),w,((d3 w).1 hw).1,((d3 w).1 hw).2,rfl⟩
    ·rintro⟨hn,w,h2,h3,rfl⟩
     have hw:=(d3 w).2 ⟨h2,h3⟩;refine⟨w,hw,?_⟩;rw[(hg w hw).1];simp only[Option.bind_some];rw[if_neg (fun q=>hn ((NT.mget hout.t _).1 q))]
   rw[hm]
   constructor
   ·rintro ((h | ⟨hn,w,hw⟩) | ⟨hn,q,hq,hw⟩)
    ·exact .inl h
    ·exact .inr ⟨hn,r,List.mem_cons_self ..,w,hw⟩
    ·exact .inr ⟨hn,q,List.mem_cons_of_mem _ hq,hw⟩
   ·rintro (h | ⟨hn,q,hq,w,hw⟩)
    ·exact .inl (.inl h)
    ·rcases List.mem_cons.1 hq with rfl | hq
     ·exact .inl (.inr ⟨hn,w,hw⟩)
     ·exact .inr ⟨hn,q,hq,w,hw⟩
theorem qbU {ar:Int→Nat} {L:List ruRule} (hL:∀ r,r∈L→okL ar r) (hl:L.length≤12) {no:List (rufact×Bool)} (hno:NT no) {G:rufact→Prop}:∀ (n fuel:Nat) (out:List (rufact×Bool)),NT out→arW ar (fun g=>g∈out.map Prod.fst)→253≤out.length+n→n≤fuel→(∀ g,G g→g∈out.map Prod.fst)→(∀ Q:rufact→Prop,(∀ g,G g→Q g)→ClosedR L (fun g=>g∈no.map Prod.fst) Q→∀ g,g∈out.map Prod.fst→Q g) →
  ∃ res,consR L no fuel out=some res∧NT res∧arW ar (fun g=>g∈res.map Prod.fst)∧LeastR L (fun g=>g∈no.map Prod.fst) G (fun g=>g∈res.map Prod.fst)
 | 0,fuel,out,hout,har,hn,hf,hG,hQ=>by
  have:=ZW hout.n fun g hg=>(har g hg).1
  rw[List.length_map]at this;omega
 | n+1,0,out,hout,har,hn,hf,hG,hQ=>by omega
 | n+1,fuel+1,out,hout,har,hn,hf,hG,hQ=>by
  have hsm:=ZW hout.n fun g hg=>(har g hg).1
  rw[List.length_map]at hsm;obtain⟨fr,f1,f2⟩:=qaq hno hout har L [] hL (by simp;omega);unfold consR;rw[VK (decide_eq_true (by omega)),f1];simp only[Option.bind_some]
  cases fr with
  | nil =>
   refine⟨out,rfl,hout,har,hG,fun r hr w h1 h2=>?_,hQ⟩
   refine Classical.byContradiction fun hq=>?_
   have:=(f2 (groundF w r.qf)).2 (.inr ⟨hq,r,hr,w,h1,h2,rfl⟩)
   simp at this
  | cons f fr =>
   obtain⟨a1,a2,a3,a4⟩:=hout.add (fr:=f::fr)
   have hmem:∀ g,g∈f::fr→g ∉ out.map Prod.fst∧∃ r,r∈L∧∃ w,InstP (fun g=>g∈out.map Prod.fst) r.qe v0 w∧FreeP (fun g=>g∈no.map Prod.fst) w r.qe∧g=groundF w r.qf:=fun g hg=>by
    rcases (f2 g).1 hg with h | h
    ·simp at h
    ·exact h
   have hgrow:=a4 f (List.mem_cons_self ..) (hmem f (List.mem_cons_self ..)).1
   exact qbU hL hl hno n fuel (addF out (f::fr)) a1 (fun g hg=>by
    rcases (a2 g).1 hg with h | h
    ·obtain⟨_,r,hr,w,h1,h2,rfl⟩:=hmem g h;exact (hL r hr).ground har.ok h1
    ·exact har g h) (by omega) (by omega) (fun g hg=>(a2 g).2 (.inr (hG g hg))) (fun Q h1 h2 g hg=>by
    rcases (a2 g).1 hg with h | h
    ·obtain⟨_,r,hr,w,q1,q2,rfl⟩:=hmem g h;exact h2 r hr w (VJ (hQ Q h1 h2) q1) q2
    ·exact hQ Q h1 h2 g h)
theorem okU1.wf {f:rufact} (h:okU1 f):wfF f=true:=by
 have:=h.r0;have:=h.r5;have:=h.a1;have:=h.a6;have:=h.b0;have:=h.b6;unfold wfF;rw[VP (by omega) (by omega),VP (by omega) (by omega),VP (by omega) (by omega)];rfl
theorem qbV {ar:Int→Nat} {L:List ruRule} (hL:∀ r,r∈L→okL ar r) (hl:L.length≤12) {gv no:List (rufact×Bool)} (hgv:NT gv) (hno:NT no) (har:arW ar (fun g=>g∈gv.map Prod.fst)) {fuel:Nat} (hf:253≤fuel) :
  ∃ res,consP fuel L gv no=some res∧NT res∧arW ar (fun g=>g∈res.map Prod.fst)∧LeastR L (fun g=>g∈no.map Prod.fst) (fun g=>g∈gv.map Prod.fst) (fun g=>g∈res.map Prod.fst):=by
 have hsm:=ZW hgv.n fun g hg=>(har g hg).1
 rw[List.length_map]at hsm;obtain⟨a1,a2,a3,a4⟩:=NT.empty.add (fr:=gv.map Prod.fst)
 have hm:∀ g,g∈(addF [] (gv.map Prod.fst)).map Prod.fst↔g∈gv.map Prod.fst:=fun g=>by rw[a2];simp
 unfold consP
 rw[VK (by
  rw[Bool.and_eq_true,List.all_eq_true,decide_eq_true_eq]
  exact⟨fun p hp=>(har p.1 (List.mem_map.2 ⟨p,hp,rfl⟩)).1.wf,by omega,by omega⟩)]
 exact qbU hL hl hno 253 fuel _ a1 (fun g hg=>har g ((hm g).1 hg)) (by omega) hf (fun g hg=>(hm g).2 hg) (fun Q h1 h2 g hg=>h1 g ((hm g).1 hg))
end Go.AM
namespace Go.AM
open Go.Proofs
open Classical
def cntB:List Bool→Nat
 | []=>0
 | b::S=>(if b=true then 1 else 0)+cntB S
theorem qfM:∀ (S:List Bool),cntB S≤S.length
 | []=>by simp[cntB]
 | b::S=>by
  have:=qfM S;unfold cntB;rw[List.length_cons]
  split <;> omega
theorem qdU:∀ {S:List Bool} {n:Nat},n<S.length→S.getD n false=false→cntB (S.set n true)=cntB S+1
 | [],n,h,_=>by simp at h
 | b::S,0,h,hb=>by
  have hb:b=false:=hb;subst hb;show cntB (true::S)=cntB (false::S)+1
  simp[cntB];omega
 | b::S,n+1,h,hb=>by
  have:=qdU (S:=S) (n:=n) (by simpa using h) (by simpa using hb);show cntB (b::S.set n true)=cntB (b::S)+1;unfold cntB;omega
theorem qhB {S:List Bool} {n:Nat} (hn:n<S.length) (m:Nat):(S.set n true).getD m false=if m=n then true else S.getD m false:=by
 simp only[List.getD_eq_getElem?_getD]
 by_cases h:m=n
 ·subst h;rw[List.getElem?_set_self hn,if_pos rfl];rfl
 ·rw[List.getElem?_set_ne (fun q=>h q.symm),if_neg h]
theorem qdk {S:List Bool} (hS:S.length=252) {g:rufact} (hg:okU1 g) (h:rufact):setB (S.set (codeF g) true) h↔setB S h∨h=g:=by
 have hlt:=Zw hg;unfold setB;rw[qhB (by omega)]
 constructor
 ·rintro⟨h1,h2⟩
  split at h2
  ·rename_i he;exact .inr (qbW h1 hg he)
  ·exact .inl ⟨h1,h2⟩
 ·rintro (⟨h1,h2⟩ | rfl)
  ·refine⟨h1,?_⟩
   split
   ·rfl
   ·exact h2
  ·exact⟨hg,by rw[if_pos rfl]⟩
theorem DG {ar:Int→Nat} {r:rf3Rule} (hr:okL ar (toR r)) {N:List Bool} (hN:N.length=252) (K:List Bool→Bool→Option (List Bool)):∀ (ws:List (List Int)) (k:Nat) (S:List Bool) (ch:Bool),S.length=252→(∀ w,w∈ws→V8 w∧∀ a,a∈atomsU (toR r)→bnd w a.qa) →
  ∃ S' ch',Jz r N K ws k S ch=K S' ch'∧S'.length=252∧(∀ g,setB S' g↔setB S g∨∃ w,w∈ws∧FreeP (setB N) w (toR r).qe∧g=groundF w (toR r).qf)∧cntB S≤cntB S'∧(ch'=true→ch=true∨cntB S<cntB S')∧(ch'=false→ch=false∧S'=S)
 | [],k,S,ch,hS,_=>⟨S,ch,by rw[Jz],hS,fun g=>by simp,Nat.le_refl _,.inl,fun h=>⟨h,rfl⟩⟩
 | w::ws,k,S,ch,hS,hw=>by
  obtain⟨w1,w2⟩:=hw w (List.mem_cons_self ..)
  have hw':∀ u,u∈ws→V8 u∧∀ a,a∈atomsU (toR r)→bnd u a.qa:=fun u hu=>hw u (List.mem_cons_of_mem _ hu)
  have hh:=hr.head;have hgo:=(VD w1 hh.1 (w2 _ (List.mem_cons_self ..))).1;have hlt:=Zw hgo
  have hbl:r.qe.length≤3:=by have:=hr.1.1;simpa[toR] using this
  have hgv:Ve r.qf w=some (codeF (groundF w (toR r).qf):Int):=qbH w1 hh.1 (w2 _ (List.mem_cons_self ..))
  have hfr:=qhC w1 hN hbl fun x hx hn=>⟨(hr.body (toL x) (List.mem_map.2 ⟨x,hx,rfl⟩)).1,w2 (toL x).qd (List.mem_cons_of_mem _ (List.mem_map.2 ⟨toL x,List.mem_map.2 ⟨x,hx,rfl⟩,rfl⟩))⟩
  have hgd:S[0+Int.toNat (codeF (groundF w (toR r).qf):Int) * 1]? = some (S.getD (codeF (groundF w (toR r).qf)) false):=by
   rw[Nat.zero_add,Nat.mul_one,Int.toNat_natCast,List.getD_eq_getElem?_getD,List.getElem?_eq_getElem (by omega)];rfl
  have hck:decide ((0:Int)≤(codeF (groundF w (toR r).qf):Int)∧(codeF (groundF w (toR r).qf):Int)<((252:Nat):Int)∧0<1)=true:=decide_eq_true ⟨by omega,by omega,by omega⟩;rw[Jz,VK (decide_eq_true w1.1),VK (decide_eq_true ⟨w1.1,by simp⟩),VK (decide_eq_true w1.1),hgv];simp only[Option.bind_some];rw[VK (decide_eq_true w1.1),VK (decide_eq_true hN),hfr];simp only[Option.bind_some];unfold Xt Xu
  by_cases hq:FreeP (setB N) w (toR r).qe
  ·rw[decide_eq_true hq,cond_true,VK hck,hgd];simp only[Option.bind_some]
   cases hs:S.getD (codeF (groundF w (toR r).qf)) false with
   | true =>
    rw[Bool.not_true,cond_false];obtain⟨S',ch',e1,e2,e3,e4,e5,e6⟩:=DG hr hN K ws (k+1) S ch hS hw';refine⟨S',ch',e1,e2,fun g=>?_,e4,e5,e6⟩;rw[e3]
    constructor
    ·rintro (h | ⟨u,hu,h⟩)
     ·exact .inl h
     ·exact .inr ⟨u,List.mem_cons_of_mem _ hu,h⟩
    ·rintro (h | ⟨u,hu,h,h2⟩)
     ·exact .inl h
     ·rcases List.mem_cons.1 hu with rfl | hu
      ·exact .inl ⟨by rw[h2];exact hgo,by rw[h2];exact hs⟩
      ·exact .inr ⟨u,hu,h,h2⟩
   | false =>
    rw[Bool.not_false,cond_true,VK hck,VK (decide_eq_true (by omega)),Nat.zero_add,Nat.mul_one,Int.toNat_natCast];have hc:=qdU (S:=S) (by omega) hs;obtain⟨S',ch',e1,e2,e3,e4,e5,e6⟩:=DG hr hN K ws (k+1) (S.set (codeF (groundF w (toR r).qf)) true) true (by rw[List.length_set,hS]) hw';refine⟨S',ch',e1,e2,fun g=>?_,by omega,fun _=>.inr (by omega),fun h=>absurd (e6 h).1 (by simp)⟩;rw[e3,qdk hS hgo]
    constructor
    ·rintro ((h | h) | ⟨u,hu,h⟩)
     ·exact .inl h
     ·exact .inr ⟨w,List.mem_cons_self ..,hq,h⟩
     ·exact .inr ⟨u,List.mem_cons_of_mem _ hu,h⟩
    ·rintro (h | ⟨u,hu,h,h2⟩)
     ·exact .inl (.inl h)
     ·rcases List.mem_cons.1 hu with rfl | hu
      ·exact .inl (.inr h2)
      ·exact .inr ⟨u,hu,h,h2⟩
  ·rw[decide_eq_false hq,cond_false,cond_false];obtain⟨S',ch',e1,e2,e3,e4,e5,e6⟩:=DG hr hN K ws (k+1) S ch hS hw';refine⟨S',ch',e1,e2,fun g=>?_,e4,e5,e6⟩;rw[e3]
   constructor
   ·rintro (h | ⟨u,hu,h⟩)
    ·exact .inl h
    ·exact .inr ⟨u,List.mem_cons_of_mem _ hu,h⟩
   ·rintro (h | ⟨u,hu,h,h2⟩)
    ·exact .inl h
    ·rcases List.mem_cons.1 hu with rfl | hu
     ·exact absurd h hq
     ·exact .inr ⟨u,hu,h,h2⟩
theorem qft (S:List Bool):okW (setB S):=fun g h=>h.1
theorem qfK {ar:Int→Nat} {fuel:Nat} (hf:5≤fuel) {N:List Bool} (hN:N.length=252) (N1:List Bool→Bool→Option (List Bool)):∀ (L:List rf3Rule) (k:Nat) (S:List Bool) (ch:Bool),(∀ r,r∈L→okL ar (toR r))→S.length=252→arW ar (setB S) →
  ∃ S' ch',JA fuel N N1 L k S ch=N1 S' ch'∧S'.length=252∧arW ar (setB S')∧(∀ g,setB S g→setB S' g)∧cntB S≤cntB S'∧(ch'=true→ch=true∨cntB S<cntB S')∧(ch'=false→ch=false∧S'=S∧ClosedR (L.map toR) (setB N) (setB S))∧(∀ Q:rufact→Prop,(∀ g,setB S g→Q g)→ClosedR (L.map toR) (setB N) Q→∀ g,setB S' g→Q g)
 | [],k,S,ch,_,hS,har=>⟨S,ch,by rw[JA],hS,har,fun g h=>h,Nat.le_refl _,.inl,fun h=>⟨h,rfl,fun r hr=>by simp at hr⟩,fun Q h _=>h⟩
 | r::L,k,S,ch,hL,hS,har=>by
  have hr:=hL r (List.mem_cons_self ..)
  have hbl:r.qe.length≤3:=by have:=hr.1.1;simpa[toR] using this
  have hiv:=ZQ (r:=r) hbl (fun x hx=>by
   have:=(hr.body (toL x) (List.mem_map.2 ⟨x,hx,rfl⟩)).1
   exact⟨Yi this,this.2.1.2⟩) hS r.qe.length fuel 0 v0 (by omega) (by omega) (by simp)
  rw[List.drop_zero]at hiv;replace hiv:QH fuel r S 0 (List.replicate 8 0)=some (instR S (r.qe.map toL) v0):=hiv
  have hmem:∀ w,w∈instR S (r.qe.map toL) v0↔InstP (setB S) (toR r).qe v0 w:=fun w=>UD _ _ _
  have hlen:(instR S (r.qe.map toL) v0).length≤16003008:=by
   have h1:=UE S (r.qe.map toL) v0;rw[List.length_map]at h1;have h2:252 ^ r.qe.length≤252 ^ 3:=Nat.pow_le_pow_right (by omega) hbl
   have:252 ^ 3=16003008:=by decide
   omega
  rw[JA,VK (decide_eq_true hS),hiv];simp only[Option.bind_some];rw[VK (qM (by omega))]
  obtain⟨S1,c1,e1,e2,e3,e4,e5,e6⟩:=DG hr hN (Xv (JA fuel N N1 L (k+1))) (instR S (r.qe.map toL) v0) 0 S ch hS fun w hw=>hr.inst (qft S) ((hmem w).1 hw)
  rw[e1];unfold Xv
  have har1:arW ar (setB S1):=fun g hg=>by
   rcases (e3 g).1 hg with h | ⟨w,hw,_,rfl⟩
   ·exact har g h
   ·exact hr.ground (qft S) ((hmem w).1 hw)
  obtain⟨S2,c2,g1,g2,g3,g4,g5,g6,g7,g8⟩:=qfK hf hN N1 L (k+1) S1 c1 (fun q hq=>hL q (List.mem_cons_of_mem _ hq)) e2 har1;refine⟨S2,c2,g1,g2,g3,fun g h=>g4 g ((e3 g).2 (.inl h)),by omega,fun h=>?_,fun h=>?_,fun Q h1 h2=>?_⟩
  ·rcases g6 h with h | h
   ·rcases e5 h with h | h
    ·exact .inl h
    ·exact .inr (by omega)
   ·exact .inr (by omega)
  ·obtain⟨a1,a2,a3⟩:=g7 h;obtain⟨b1,b2⟩:=e6 a1;subst b2;refine⟨b1,a2,fun q hq w hw hfr=>?_⟩;rw[List.map_cons]at hq
   rcases List.mem_cons.1 hq with rfl | hq
   ·exact (e3 _).2 (.inr ⟨w,(hmem w).2 hw,hfr,rfl⟩)
   ·exact a3 q hq w hw hfr
  ·refine g8 Q (fun g hg=>?_) (fun q hq=>h2 q (by rw[List.map_cons];exact List.mem_cons_of_mem _ hq))
   rcases (e3 g).1 hg with h | ⟨w,hw,hfr,rfl⟩
   ·exact h1 g h
   ·exact h2 (toR r) (by rw[List.map_cons];exact List.mem_cons_self ..) w (VJ h1 ((hmem w).1 hw)) hfr
theorem qfL {ar:Int→Nat} {fuel:Nat} (hf:5≤fuel) {L:List rf3Rule} (hl:L.length≤12) (hL:∀ r,r∈L→okL ar (toR r)) {N:List Bool} (hN:N.length=252) {G:rufact→Prop} (K:List Bool→Option (List Bool)):∀ (n m:Nat) (S:List Bool),S.length=252→arW ar (setB S)→253≤cntB S+n→n+1≤m→(∀ g,G g→setB S g)→(∀ Q:rufact→Prop,(∀ g,G g→Q g)→ClosedR (L.map toR) (setB N) Q→∀ g,setB S g→Q g) →
  ∃ S',JB fuel L N K m S true=K S'∧S'.length=252∧arW ar (setB S')∧LeastR (L.map toR) (setB N) G (setB S')
 | 0,m,S,hS,har,hn,hm,hG,hQ=>by have:=qfM S;omega
 | n+1,0,S,hS,har,hn,hm,hG,hQ=>by omega
 | n+1,m+1,S,hS,har,hn,hm,hG,hQ=>by
  obtain⟨S2,c2,g1,g2,g3,g4,g5,g6,g7,g8⟩:=qfK hf hN (JB fuel L N K m) L 0 S false hL hS har;rw[JB,cond_true,VK (qM (by omega)),g1]
  cases c2 with
  | true =>
   rcases g6 rfl with h | h
   ·cases h
   ·exact qfL hf hl hL hN K n m S2 g2 g3 (by omega) (by omega) (fun g hg=>g4 g (hG g hg)) (fun Q h1 h2=>g8 Q (hQ Q h1 h2) h2)
  | false =>
   obtain⟨_,rfl,h3⟩:=g7 rfl
   match m,hm with
   | m+1,_ =>
    rw[JB,cond_false];exact⟨S2,rfl,g2,g3,hG,h3,hQ⟩
theorem qgg {ar:Int→Nat} {fuel:Nat} (hf:300≤fuel) {L:List rf3Rule} (hl:L.length≤12) (hL:∀ r,r∈L→okL ar (toR r)) {S N:List Bool} (hS:S.length=252) (hN:N.length=252) (har:arW ar (setB S)) :
  ∃ S',YA fuel L S N=some S'∧S'.length=252∧arW ar (setB S')∧LeastR (L.map toR) (setB N) (setB S) (setB S'):=by
 obtain⟨S',e1,e2,e3,e4⟩:=qfL (by omega:5≤fuel) hl hL hN (G:=setB S) XK 253 fuel S hS har (by omega) (by omega) (fun g h=>h) (fun Q h _=>h);refine⟨S',?_,e2,e3,e4⟩;unfold YA;rw[VK (by cases S <;> simp_all),VK (by cases N <;> simp_all),e1];unfold XK;rw[VK (decide_eq_true e2),VK (decide_eq_true ⟨e2,by simp⟩),VK (decide_eq_true e2)]
end Go.AM
