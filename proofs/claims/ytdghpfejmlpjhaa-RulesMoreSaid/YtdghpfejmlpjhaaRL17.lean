/- s -/
import Derived.Test.YtdghpfejmlpjhaaRL11
set_option maxRecDepth 100000
set_option linter.unusedVariables false
set_option linter.unusedSimpArgs false
namespace Go.AM
open Go.Proofs
open Classical
abbrev v0:List Int:=List.replicate 8 0
theorem V8_0:V8 v0:=⟨by simp,fun i=>by
 rw[List.getD_eq_getElem?_getD,List.getElem?_replicate]
 split <;> simp⟩
def ClosedR (L:List ruRule) (N X:rufact→Prop):Prop:=∀ r,r∈L→∀ w,InstP X r.qc v0 w→FreeP N w r.qc→X (groundF w r.qf)
structure LeastR (L:List ruRule) (N G X:rufact→Prop):Prop where
 sub:∀ g,G g→X g
 closed:ClosedR L N X
 least:∀ Q:rufact→Prop,(∀ g,G g→Q g)→ClosedR L N Q→∀ g,X g→Q g
theorem LeastR.same {L:List ruRule} {N N' G G' X X':rufact→Prop} (h:LeastR L N G X) (h':LeastR L N' G' X') (hN:∀ g,N g↔N' g) (hG:∀ g,G g↔G' g):∀ g,X g↔X' g:=by
 obtain rfl:N=N':=funext fun g=>propext (hN g)
 obtain rfl:G=G':=funext fun g=>propext (hG g)
 exact fun g=>⟨h.least X' h'.sub h'.closed g,h'.least X h.sub h.closed g⟩
def okL (ar:Int→Nat) (r:ruRule):Prop:=okU r∧∀ a,a∈atomsU r→a.qa.length=ar a.qb
theorem okL.body {ar:Int→Nat} {r:ruRule} (h:okL ar r):∀ x,x∈r.qc→fitP x.qd.qb x.qd.qa∧x.qd.qa.length=ar x.qd.qb:=fun x hx =>
 have hm:x.qd∈atomsU r:=List.mem_cons_of_mem _ (List.mem_map.2 ⟨x,hx,rfl⟩)
 ⟨h.1.2.2 _ hm,h.2 _ hm⟩
theorem okL.head {ar:Int→Nat} {r:ruRule} (h:okL ar r):fitP r.qf.qb r.qf.qa∧r.qf.qa.length=ar r.qf.qb :=
 ⟨h.1.2.2 _ (List.mem_cons_self ..),h.2 _ (List.mem_cons_self ..)⟩
theorem okL.inst {ar:Int→Nat} {r:ruRule} (h:okL ar r) {P:rufact→Prop} (hP:okW P) {w:List Int} (hi:InstP P r.qc v0 w):V8 w∧∀ a,a∈atomsU r→bnd w a.qa:=by
 obtain⟨a,b,c⟩:=VY hP hi V8_0 fun x hx=>Yl (h.body x hx).1
 refine⟨a,fun t ht x hx h0=>?_⟩;obtain⟨y,y1,y2,y3⟩:=h.1.2.1 t ht x hx h0;exact c y y1 y2 x y3 h0
theorem okL.ground {ar:Int→Nat} {r:ruRule} (h:okL ar r) {P:rufact→Prop} (hP:okW P) {w:List Int} (hi:InstP P r.qc v0 w):okU1 (groundF w r.qf)∧(argsF (groundF w r.qf)).length=ar (groundF w r.qf).qo:=by
 obtain⟨a,b⟩:=h.inst hP hi;obtain⟨c,d,e⟩:=qcV a h.head.1 (b _ (List.mem_cons_self ..));refine⟨c,?_⟩;rw[d,e];unfold groundA;rw[List.length_map,h.head.2]
theorem arW.ok {ar:Int→Nat} {P:rufact→Prop} (h:arW ar P):okW P:=fun g hg=>(h g hg).1
theorem YX {fs:List rufact} (hn:fs.Nodup) (ho:∀ g,g∈fs→okU1 g):fs.length≤252:=by
 have:=pig 252 (fs.map codeF) (by
  rw[List.nodup_iff_pairwise_ne,List.pairwise_map];refine List.Pairwise.imp_of_mem ?_ hn;intro a b ha hb hne h
  exact hne (qep (ho a ha) (ho b hb) h)) (fun x hx=>by
   obtain⟨g,hg,rfl⟩:=List.mem_map.1 hx
   exact qfu (ho g hg))
 simpa using this
theorem Hp {ar:Int→Nat} {no out:List (rufact×Bool)} (hno:NT no) (hout:NT out) (har:arW ar fun g=>g∈out.map Prod.fst):∀ (L:List ruRule) (acc:List rufact),(∀ r,r∈L→okL ar r)→acc.length+16003008 * L.length≤900000000 →
  ∃ fr,freshL no out L acc=some fr∧∀ f,f∈fr↔f∈acc∨(f ∉ out.map Prod.fst∧∃ r,r∈L∧∃ w,InstP (fun g=>g∈out.map Prod.fst) r.qc v0 w∧FreeP (fun g=>g∈no.map Prod.fst) w r.qc∧f=groundF w r.qf)
 | [],acc,_,_=>⟨acc,rfl,fun f=>by simp⟩
 | r::L,acc,hr,hb=>by
  have h1:=hr r (List.mem_cons_self ..);rw[List.length_cons]at hb
  have hfs:=YX hout.n fun g hg=>(har g hg).1
  obtain⟨d,d1,d2,d3⟩:=qbe (bl:=byRelL out) hno (by simpa using hfs) har (fun rel=>Na rel out) (all:=r.qc) (fun x hx=>(h1.body x hx).1) r.qc v0 h1.body V8_0
  have hd:d.length≤16003008:=by
   have:252 ^ r.qc.length≤252 ^ 3:=Nat.pow_le_pow_right (by omega) h1.1.1
   have e:252 ^ 3=16003008:=by decide
   omega
  have hg:∀ w,w∈d→qO w r.qf=some (groundF w r.qf)∧wfF (groundF w r.qf)=true:=fun w hw=>by
   obtain⟨a,_⟩:=h1.inst har.ok ((d3 w).1 hw).1;exact⟨Nl a.1 (Yl h1.head.1) h1.head.1.2.1.2,DM a h1.head.1⟩
  have hh:headOk r.qf d=true:=by
   unfold headOk;rw[List.all_eq_true];intro w hw;obtain⟨a,b⟩:=hg w hw;rw[a];exact b
  have hlen:=VO out r.qf d;obtain⟨fr,f1,f2⟩:=Hp hno hout har L (acc++headsP out r.qf d) (fun q hq=>hr q (List.mem_cons_of_mem _ hq)) (by rw[List.length_append];omega);refine⟨fr,?_,fun f=>?_⟩
  ·unfold freshL;rw[ZC (decide_eq_true (by have:=h1.1.1;omega)),d1];simp only[Option.bind_some];rw[ZC (by rw[hh,decide_eq_true (by omega)];rfl)];exact f1
  ·rw[f2,List.mem_append]
   have hm:f∈headsP out r.qf d↔f ∉ out.map Prod.fst∧∃ w,InstP (fun g=>g∈out.map Prod.fst) r.qc v0 w∧FreeP (fun g=>g∈no.map Prod.fst) w r.qc∧f=groundF w r.qf:=by
    unfold headsP;rw[List.mem_filterMap]
    constructor
    ·rintro⟨w,hw,he⟩
     rw[(hg w hw).1]at he;simp only[Option.bind_some]at he
     split at he
     ·cases he
     ·rename_i hq;cases he;exact⟨fun hm=>hq ((NT.mget hout.t _).2 hm),w,((d3 w).1 hw).1,((d3 w).1 hw).2,rfl⟩
    ·rintro⟨hn,w,h2,h3,rfl⟩
     have hw:=(d3 w).2 ⟨h2,h3⟩;refine⟨w,hw,?_⟩;rw[(hg w hw).1];simp only[Option.bind_some];rw[if_neg (fun q=>hn ((NT.mget hout.t _).1 q))]
   rw[hm]
   constructor
   ·rintro ((h | ⟨hn,w,hw⟩) | ⟨hn,q,hq,hw⟩)
    ·exact .inl h
    ·exact .inr ⟨hn,r,List.mem_cons_self ..,w,hw⟩
    ·exact .inr ⟨hn,q,List.mem_cons_of_mem _ hq,hw⟩
   ·rintro (h | ⟨hn,q,hq,w,hw⟩)
    ·exact .inl (.inl h)
    ·rcases List.mem_cons.1 hq with rfl | hq
     ·exact .inl (.inr ⟨hn,w,hw⟩)
     ·exact .inr ⟨hn,q,hq,w,hw⟩
theorem DZ {ar:Int→Nat} {L:List ruRule} (hL:∀ r,r∈L→okL ar r) (hl:L.length≤12) {no:List (rufact×Bool)} (hno:NT no) {G:rufact→Prop}:∀ (n fuel:Nat) (out:List (rufact×Bool)),NT out→arW ar (fun g=>g∈out.map Prod.fst)→253≤out.length+n→n≤fuel→(∀ g,G g→g∈out.map Prod.fst)→(∀ Q:rufact→Prop,(∀ g,G g→Q g)→ClosedR L (fun g=>g∈no.map Prod.fst) Q→∀ g,g∈out.map Prod.fst→Q g) →
  ∃ res,consR L no fuel out=some res∧NT res∧arW ar (fun g=>g∈res.map Prod.fst)∧LeastR L (fun g=>g∈no.map Prod.fst) G (fun g=>g∈res.map Prod.fst)
 | 0,fuel,out,hout,har,hn,hf,hG,hQ=>by
  have:=YX hout.n fun g hg=>(har g hg).1
  rw[List.length_map]at this;omega
 | n+1,0,out,hout,har,hn,hf,hG,hQ=>by omega
 | n+1,fuel+1,out,hout,har,hn,hf,hG,hQ=>by
  have hsm:=YX hout.n fun g hg=>(har g hg).1
  rw[List.length_map]at hsm;obtain⟨fr,f1,f2⟩:=Hp hno hout har L [] hL (by simp;omega);unfold consR;rw[ZC (decide_eq_true (by omega)),f1];simp only[Option.bind_some]
  cases fr with
  | nil =>
   refine⟨out,rfl,hout,har,hG,fun r hr w h1 h2=>?_,hQ⟩
   refine Classical.byContradiction fun hq=>?_
   have:=(f2 (groundF w r.qf)).2 (.inr ⟨hq,r,hr,w,h1,h2,rfl⟩)
   simp at this
  | cons f fr =>
   obtain⟨a1,a2,a3,a4⟩:=hout.add (fr:=f::fr)
   have hmem:∀ g,g∈f::fr→g ∉ out.map Prod.fst∧∃ r,r∈L∧∃ w,InstP (fun g=>g∈out.map Prod.fst) r.qc v0 w∧FreeP (fun g=>g∈no.map Prod.fst) w r.qc∧g=groundF w r.qf:=fun g hg=>by
    rcases (f2 g).1 hg with h | h
    ·simp at h
    ·exact h
   have hgrow:=a4 f (List.mem_cons_self ..) (hmem f (List.mem_cons_self ..)).1
   exact DZ hL hl hno n fuel (addF out (f::fr)) a1 (fun g hg=>by
    rcases (a2 g).1 hg with h | h
    ·obtain⟨_,r,hr,w,h1,h2,rfl⟩:=hmem g h;exact (hL r hr).ground har.ok h1
    ·exact har g h) (by omega) (by omega) (fun g hg=>(a2 g).2 (.inr (hG g hg))) (fun Q h1 h2 g hg=>by
    rcases (a2 g).1 hg with h | h
    ·obtain⟨_,r,hr,w,q1,q2,rfl⟩:=hmem g h;exact h2 r hr w (VZ (hQ Q h1 h2) q1) q2
    ·exact hQ Q h1 h2 g h)
theorem okU1.wf {f:rufact} (h:okU1 f):wfF f=true:=by
 have:=h.r0;have:=h.r5;have:=h.a1;have:=h.a6;have:=h.b0;have:=h.b6;unfold wfF;rw[ZG (by omega) (by omega),ZG (by omega) (by omega),ZG (by omega) (by omega)];rfl
theorem qeo {ar:Int→Nat} {L:List ruRule} (hL:∀ r,r∈L→okL ar r) (hl:L.length≤12) {gv no:List (rufact×Bool)} (hgv:NT gv) (hno:NT no) (har:arW ar (fun g=>g∈gv.map Prod.fst)) {fuel:Nat} (hf:253≤fuel) :
  ∃ res,consP fuel L gv no=some res∧NT res∧arW ar (fun g=>g∈res.map Prod.fst)∧LeastR L (fun g=>g∈no.map Prod.fst) (fun g=>g∈gv.map Prod.fst) (fun g=>g∈res.map Prod.fst):=by
 have hsm:=YX hgv.n fun g hg=>(har g hg).1
 rw[List.length_map]at hsm;obtain⟨a1,a2,a3,a4⟩:=NT.empty.add (fr:=gv.map Prod.fst)
 have hm:∀ g,g∈(addF [] (gv.map Prod.fst)).map Prod.fst↔g∈gv.map Prod.fst:=fun g=>by rw[a2];simp
 unfold consP
 rw[ZC (by
  rw[Bool.and_eq_true,List.all_eq_true,decide_eq_true_eq]
  exact⟨fun p hp=>(har p.1 (List.mem_map.2 ⟨p,hp,rfl⟩)).1.wf,by omega,by omega⟩)]
 exact DZ hL hl hno 253 fuel _ a1 (fun g hg=>har g ((hm g).1 hg)) (by omega) hf (fun g hg=>(hm g).2 hg) (fun Q h1 h2 g hg=>h1 g ((hm g).1 hg))
end Go.AM
namespace Go.AM
open Go.Proofs
open Classical
end Go.AM
namespace Go.AM
open Go.Proofs
open Classical
structure StR (ar:Int→Nat) (out:List (rufact×Bool)) (S:List Bool):Prop where
 nt:NT out
 ar:arW ar (fun g=>g∈out.map Prod.fst)
 len:S.length=252
 same:∀ g,g∈out.map Prod.fst↔setB S g
def inS (v:List Int) (k:Nat) (r:rf3Rule):Bool:=v.getD r.qf.qb.toNat 0 == (k:Int)
def partS (v:List Int) (k:Nat) (l:List rf3Rule):List rf3Rule:=l.filter (inS v k)
theorem idx6 {v:List Int} (hv:v.length=6) {n:Int} (h:rel6 n):idx v n=some (v.getD n.toNat 0):=by
 have:=h.1;have:=h.2;unfold idx;rw[if_pos h.1,List.getD_eq_getElem?_getD,List.getElem?_eq_getElem (by omega)];rfl
theorem UN {v:List Int} (hv:v.length=6) {b:Bool} (k1:Nat) (K:List ruRule→Option (List (rufact×Bool)×Bool)):∀ (l:List rf3Rule) (k:Nat) (acc:List ruRule),(∀ r,r∈l→rel6 r.qf.qb)→acc.length+l.length≤1000→jP k1 (v,b) K (l.map toR) k acc=K (acc++(partS v k1 l).map toR)
 | [],k,acc,_,_=>by rw[List.map_nil,jP];simp[partS]
 | r::l,k,acc,h,hl=>by
  have hr:=h r (List.mem_cons_self ..)
  have h':∀ q,q∈l→rel6 q.qf.qb:=fun q hq=>h q (List.mem_cons_of_mem _ hq)
  rw[List.length_cons]at hl;rw[List.map_cons,jP];show (idx v r.qf.qb).bind _=_;rw[idx6 hv hr];simp only[Option.bind_some];unfold QR partS;rw[List.filter_cons]
  cases hq:inS v k1 r with
  | true =>
   have hq':(v.getD r.qf.qb.toNat 0 == (k1:Int))=true:=hq;rw[hq',cond_true,ZC (Xc (by omega) (by simp;omega)),UN hv k1 K l (k+1) _ h' (by simp;omega)]
   simp[partS]
  | false =>
   have hq':(v.getD r.qf.qb.toNat 0 == (k1:Int))=false:=hq;rw[hq',cond_false,UN hv k1 K l (k+1) _ h' (by omega)]
   simp[partS]
def toF (f:apiFact):rufact:=mkF f.qb f.qa
theorem qaj {f:apiFact} (h:groundP f):okU1 (toF f)∧argsF (toF f)=f.qa:=qeX h.1 h.2.1 h.2.2
theorem qfN {f:apiFact} (h:groundP f):ZO f=some (toF f):=by
 have e:f=apiF (toF f):=by rw[Nc,(qaj h).2];rfl
 calc ZO f=ZO (apiF (toF f)):=by rw[← e]
  _=some (toF f):=qfM
theorem DO (K:List (rufact×Bool)→Option (List (rufact×Bool))):∀ (l:List apiFact) (k:Nat) (acc:List (rufact×Bool)),(∀ f,f∈l→groundP f)→NT acc→acc.length+l.length≤1000→JL K l k acc=K (addF acc (l.map toF))
 | [],k,acc,_,_,_=>by rw[JL];rfl
 | f::l,k,acc,h,hn,hl=>by
  have hf:=h f (List.mem_cons_self ..);rw[List.length_cons]at hl;have hw:=(qaj hf).1.wf;unfold wfF at hw;obtain⟨m1,m2,m3,m4⟩:=hn.mset (toF f)
  have hlen:(mset qq (toF f) true acc).length≤acc.length+1:=by
   by_cases hm:toF f∈acc.map Prod.fst
   ·have:∀ {l:List (rufact×Bool)},toF f∈l.map Prod.fst→(mset qq (toF f) true l).length=l.length:=by
     intro l
     induction l with
     | nil=>intro h;simp at h
     | cons p r ih =>
      intro h;unfold mset
      cases hq:qq p.1 (toF f) with
      | true=>rfl
      | false =>
       rw[cond_false,List.length_cons,List.length_cons,ih];rw[List.map_cons]at h
       rcases List.mem_cons.1 h with h | h
       ·exact absurd h.symm (UT.1 hq)
       ·exact h
    rw[this hm];omega
   ·rw[m4 hm];omega
  rw[JL,qfN hf];simp only[Option.bind_some];rw[ZC hw,ZC (by rw[Nat.blt_eq];omega),DO K l (k+1) _ (fun g hg=>h g (List.mem_cons_of_mem _ hg)) m1 (by omega)];rfl
end Go.AM
namespace Go.AM
open Go.Proofs
open Classical
def arOf (S:List qi) (rel:Int):Nat:=match S.find? fun s=>s.f_0 == rel with
 | some s=>s.f_1.toNat
 | none=>1
theorem qcd {S:List qi} (hS:conP S) {s:qi} (hs:s∈S):arOf S s.f_0=s.f_1.toNat:=by
 unfold arOf
 cases hf:S.find? fun t=>t.f_0 == s.f_0 with
 | none =>
  have:=List.find?_eq_none.1 hf s hs
  simp at this
 | some t =>
  have h1:=List.mem_of_find?_eq_some hf
  have h2:t.f_0=s.f_0:=by simpa using List.find?_some hf
  show t.f_1.toNat=s.f_1.toNat;rw[hS t h1 s hs h2]
abbrev szVR (l:List rf3Rule) (facts:List apiFact):List qi:=facts.map szF++l.flatMap sizesR
abbrev arVR (l:List rf3Rule) (facts:List apiFact):Int→Nat:=arOf (szVR l facts)
theorem VR.facts_ar {l:List rf3Rule} {facts:List apiFact} (h:VR l facts):∀ f,f∈facts→f.qa.length=arVR l facts f.qb:=fun f hf=>by
 have:=qcd h.2.2.2.2 (s:=szF f) (List.mem_append_left _ (List.mem_map.2 ⟨f,hf,rfl⟩));show _=arOf _ (szF f).f_0;rw[this];rfl
theorem VR.okL {l:List rf3Rule} {facts:List apiFact} (h:VR l facts):∀ r,r∈l→okL (arVR l facts) (toR r):=fun r hr=>by
 have h1:=h.2.2.2.1 r hr
 have h2:okU (toR r):=by rw[← qfq h1];exact (qdu r).2 h1
 refine⟨h2,fun a ha=>?_⟩
 have key:∀ t:rf2Atom,szA t∈sizesR r→t.qa.length=arVR l facts t.qb:=fun t ht=>by
  have:=qcd h.2.2.2.2 (s:=szA t) (List.mem_append_right _ (List.mem_flatMap.2 ⟨r,hr,ht⟩));show _=arOf _ (szA t).f_0;rw[this];rfl
 rcases List.mem_cons.1 ha with rfl | ha
 ·exact key r.qf (List.mem_cons_self ..)
 ·obtain⟨x,hx,rfl⟩:=List.mem_map.1 ha;obtain⟨y,hy,rfl⟩:=List.mem_map.1 hx;exact key y.qd (List.mem_cons_of_mem _ (List.mem_map.2 ⟨y,hy,rfl⟩))
theorem qeR {ar:Int→Nat} {l:List rf3Rule} (h:∀ r,r∈l→Go.AM.okL ar (toR r)):relsU (l.map toR):=fun q hq=>by
 obtain⟨r,hr,rfl⟩:=List.mem_map.1 hq;have h1:=h r hr;exact⟨Zk h1.head.1,h1.1.1,fun b hb=>Zk (h1.body b hb).1⟩
theorem qfp (l:List rf3Rule):edgesU (l.map toR)=edgesR l:=by
 unfold edgesU edgesR;rw[List.flatMap_map];simp only[toR,List.map_map,Function.comp_def,toL,toA]
end Go.AM
namespace Go.AM
open Go.Proofs Go.Sort
open Classical
def keyOf (n:Nat):List Int:=(decF n).qo::argsF (decF n)
theorem qdK {f:apiFact} (h:f.qa.length≤1000):Xk f f=some true:=by
 have key:∀ (r:List Int) (k:Nat),(∃ p:List Int,p.length=k∧f.qa=p++r)→qW f.qa jK r k=some true:=by
  intro r
  induction r with
  | nil=>intro k _;rw[qW];rfl
  | cons x r ih =>
   rintro k ⟨p,hp,h2⟩
   have hi:idx f.qa (k:Int)=some x:=by
    unfold idx;rw[if_pos (by omega),Int.toNat_natCast,h2,List.getElem?_append_right (by omega),hp,Nat.sub_self];rfl
   rw[qW,hi];simp only[Option.bind_some,bne_self_eq_false,cond_false];exact ih (k+1) ⟨p++[x],by simp[hp],by rw[h2];simp⟩
 unfold Xk Qn;rw[beq_self_eq_true,cond_true,bne_self_eq_false,cond_false,ZC (Jg (by omega)),key f.qa 0 ⟨[],rfl,rfl⟩];rfl
theorem qeN {l:List apiFact} (hl:l.length≤1000) (h:∀ f,f∈l→f.qa.length≤1000):ZW l l=some true:=by
 have key:∀ (r:List apiFact) (k:Nat),(∃ p:List apiFact,p.length=k∧l=p++r)→qG l (fun y0 y1=>Xk y0 y1) qT r k=some true:=by
  intro r
  induction r with
  | nil=>intro k _;rw[qG];rfl
  | cons x r ih =>
   rintro k ⟨p,hp,h2⟩
   have hi:idx l (k:Int)=some x:=by
    unfold idx;rw[if_pos (by omega),Int.toNat_natCast,h2,List.getElem?_append_right (by omega),hp,Nat.sub_self];rfl
   rw[qG,hi];simp only[Option.bind_some];rw[qdK (h x (by rw[h2];simp))];simp only[Option.bind_some,Bool.not_true,cond_false];exact ih (k+1) ⟨p++[x],by simp[hp],by rw[h2];simp⟩
 unfold ZW Qb;rw[bne_self_eq_false,cond_false,ZC (Jg (by omega)),key l 0 ⟨[],rfl,rfl⟩];rfl
end Go.AM
namespace Go.AM
open Go.Proofs Go.Sort
open Classical
abbrev awR:List ruRule:=[(ruRule.mk (qj.mk 1 [0]) [(ruLit.mk false (qj.mk 0 [0]))])]
abbrev awF:List apiFact:=[(apiFact.mk 0 [3])]
theorem qbY (n:Nat):Xt (n+30) awR awF=some true:=by rfl
theorem qbZ (n:Nat):Zc (n+30) awR awF=some ([(⟨0,3,0⟩,true),(⟨1,3,0⟩,true)],true):=by rfl
theorem qdf:sortF (apis [((⟨0,3,0⟩:rufact),true),(⟨1,3,0⟩,true)])=[⟨0,[3]⟩,⟨1,[3]⟩]:=by
 show sortF [⟨0,[3]⟩,⟨1,[3]⟩]=_;unfold sortF;refine List.mergeSort_of_pairwise ?_;simp only[List.pairwise_cons,List.mem_cons,List.not_mem_nil,or_false,forall_eq,false_implies,implies_true,List.Pairwise.nil,and_true,Bool.not_eq_true'];rw[ltFf]
 decide
theorem qdg:QL [((⟨0,3,0⟩:rufact),true),(⟨1,3,0⟩,true)]=some [⟨0,[3]⟩,⟨1,[3]⟩]:=by
 unfold QL;rw[ZC (by rfl),qdf]
theorem qew (n:Nat):XG (n+30)=some true:=by
 unfold XG QX;rw[qbY];simp only[Option.bind_some,Bool.not_true,cond_false];rw[qbZ];simp only[Option.bind_some,Bool.not_true,cond_false];rw[qdg];simp only[Option.bind_some];rw[show ((0:Int) == 0)=true from rfl,cond_true,qeN (by simp) (by simp)];rfl
end Go.AM
