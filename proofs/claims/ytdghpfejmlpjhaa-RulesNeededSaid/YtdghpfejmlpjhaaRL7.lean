/- s -/
import Derived.Test.YtdghpfejmlpjhaaRL4
set_option maxRecDepth 100000
set_option linter.unusedVariables false
set_option linter.unusedSimpArgs false
namespace Go.AM
open Go.Proofs
open Classical
theorem UO {rel:Int} {args:List Int}:fitP rel (args.take 5)↔fitP rel args∧args.take 5=args:=by
 constructor
 ·intro h
  have h1:args.length≤5:=by
   have:=h.2.1.2;rw[List.length_take]at this;omega
  have e:args.take 5=args:=List.take_of_length_le h1;rw[e]at h;exact⟨h,e⟩
 ·rintro⟨h,e⟩
  rw[e];exact h
theorem VD {rel:Int} {args:List Int} (h:fitP rel args):args.take 5=args:=List.take_of_length_le (by have:=h.2.1.2;omega)
theorem qcf {f:apiFact}:groundP (cvF f)↔groundP f:=by
 unfold groundP cvF
 constructor
 ·intro h
  have h1:f.qa.length≤9:=by
   have:=h.2.1.2;simp only[List.length_take]at this;omega
  rw[List.take_of_length_le h1]at h;exact h
 ·intro h;rw[List.take_of_length_le (by have:=h.2.1.2;omega)];exact h
theorem qgf {f:apiFact} (h:groundP f):cvF f=f:=by
 unfold cvF;rw[List.take_of_length_le (by have:=h.2.1.2;omega)]
theorem YF {a:rf2Atom} (h:fitP a.qb a.qa):(cvA a).qa=a.qa:=VD h
theorem qec (r:rf3Rule):okU (cvR r)↔okR r:=by
 have hb:((cvR r).qd.length≤3↔r.qd.length≤3):=by simp[cvR];omega
 have hbody:r.qd.length≤3→(cvR r).qd=r.qd.map cvL:=fun h=>by unfold cvR;simp only;rw[List.take_of_length_le (by omega)]
 have hatoms:r.qd.length≤3→((∀ a,a∈atomsU (cvR r)→fitP a.qb a.qa)↔(fitP r.qc.qb r.qc.qa∧∀ b,b∈r.qd→fitP b.qe.qb b.qe.qa)):=fun h=>by
  unfold atomsU;rw[hbody h]
  constructor
  ·intro h2;refine⟨(UO.1 (h2 _ (List.mem_cons_self ..))).1,fun b hb=>?_⟩;exact (UO.1 (h2 (cvA b.qe) (List.mem_cons_of_mem _ (List.mem_map.2 ⟨cvL b,List.mem_map.2 ⟨b,hb,rfl⟩,rfl⟩)))).1
  ·rintro⟨h2,h3⟩ a ha
   rcases List.mem_cons.1 ha with rfl | ha
   ·exact UO.2 ⟨h2,VD h2⟩
   ·obtain⟨y,hy,rfl⟩:=List.mem_map.1 ha;obtain⟨b,hb,rfl⟩:=List.mem_map.1 hy;exact UO.2 ⟨h3 b hb,VD (h3 b hb)⟩
 have hsafe:r.qd.length≤3→(fitP r.qc.qb r.qc.qa∧∀ b,b∈r.qd→fitP b.qe.qb b.qe.qa)→(safeU (cvR r)↔safeR r):=fun h h2=>by
  have hbd:∀ v:Int,(∃ b,b∈(cvR r).qd∧b.qn=false∧v∈b.qe.qa)↔∃ b,b∈r.qd∧b.qn=false∧v∈b.qe.qa:=fun v=>by
   rw[hbody h]
   constructor
   ·rintro⟨y,hy,q1,q2⟩
    obtain⟨b,hb,rfl⟩:=List.mem_map.1 hy;have q2':v∈(cvA b.qe).qa:=q2;rw[YF (h2.2 b hb)]at q2';exact⟨b,hb,q1,q2'⟩
   ·rintro⟨b,hb,q1,q2⟩
    refine⟨cvL b,List.mem_map.2 ⟨b,hb,rfl⟩,q1,?_⟩;show v∈(cvA b.qe).qa;rw[YF (h2.2 b hb)];exact q2
  unfold safeU safeR
  constructor
  ·intro hu i hi
   constructor
   ·rintro (h3 | ⟨b,hb,h3⟩)
    ·exact (hbd i).1 (hu (cvA r.qc) (List.mem_cons_self ..) i (by rw[YF h2.1];exact h3) (by omega))
    ·refine (hbd i).1 (hu (cvA b.qe) (List.mem_cons_of_mem _ ?_) i (by rw[YF (h2.2 b hb)];exact h3) (by omega));rw[hbody h];exact List.mem_map.2 ⟨cvL b,List.mem_map.2 ⟨b,hb,rfl⟩,rfl⟩
   ·rintro⟨b,hb,_,h3⟩
    exact .inr ⟨b,hb,h3⟩
  ·intro hr a ha v hv h0;rw[hbd]
   rcases List.mem_cons.1 ha with rfl | ha
   ·have hv':v∈r.qc.qa:=by rw[← YF h2.1];exact hv
    have h7:=(h2.1.2.2 v hv').2
    have e:((v.toNat:Nat):Int)=v:=by omega
    have:=(hr v.toNat (by omega)).1 (.inl (by rw[e];exact hv'))
    rwa [e]at this
   ·rw[hbody h]at ha;obtain⟨y,hy,rfl⟩:=List.mem_map.1 ha;obtain⟨b,hb,rfl⟩:=List.mem_map.1 hy
    have hv':v∈b.qe.qa:=by
     have hv2:v∈(cvA b.qe).qa:=hv
     rwa [YF (h2.2 b hb)]at hv2
    have h7:=((h2.2 b hb).2.2 v hv').2
    have e:((v.toNat:Nat):Int)=v:=by omega
    have:=(hr v.toNat (by omega)).1 (.inr ⟨b,hb,by rw[e];exact hv'⟩)
    rwa [e]at this
 constructor
 ·rintro⟨q1,q2,q3⟩
  have h3:=hb.1 q1;have h4:=(hatoms h3).1 q3;exact⟨h4.1,h3,h4.2,(hsafe h3 h4).1 q2⟩
 ·rintro⟨q1,q2,q3,q4⟩
  exact⟨hb.2 q2,(hsafe q2 ⟨q1,q3⟩).2 q4,(hatoms q2).2 ⟨q1,q3⟩⟩
theorem qbz {r:rf3Rule} (h:okR r):sizesU (cvR r)=sizesR r:=by
 unfold sizesU sizesR atomsU
 have hb:(cvR r).qd=r.qd.map cvL:=by unfold cvR;simp only;rw[List.take_of_length_le (by have:=h.2.1;omega)]
 rw[hb,List.map_cons,List.map_map,List.map_map]
 have e:∀ a:rf2Atom,fitP a.qb a.qa→szU (cvA a)=szA a:=fun a ha=>by unfold szU szA;rw[YF ha];rfl
 have h1:szU (cvR r).qc=szA r.qc:=e _ h.1;rw[h1]
 congr 1
 refine List.map_congr_left fun b hb=>?_
 exact e b.qe (h.2.2.1 b hb)
theorem qhg (l:List rf3Rule) (facts:List apiFact):VU ((l.take 12).map cvR) ((facts.take 26).map cvF)↔VR l facts:=by
 have key:l.length≤10→facts.length≤20→(VU (l.map cvR) (facts.map cvF)↔VR l facts):=by
  intro h1 h2
  have hok:(∀ r,r∈l.map cvR→okU r)↔∀ r,r∈l→okR r:=by
   simp only[List.mem_map,forall_exists_index,and_imp,forall_apply_eq_imp_iff₂,qec]
  have hgr:(∀ f,f∈facts.map cvF→groundP f)↔∀ f,f∈facts→groundP f:=by
   simp only[List.mem_map,forall_exists_index,and_imp,forall_apply_eq_imp_iff₂,qcf]
  unfold VU VR;rw[hok,hgr,List.length_map,List.length_map]
  constructor
  ·rintro⟨_,_,h3,h4,h5⟩
   refine⟨h1,h2,h3,h4,?_⟩
   have e1:(facts.map cvF).map szF=facts.map szF:=by rw[List.map_map];exact List.map_congr_left fun f hf=>by simp[qgf (h3 f hf)]
   have e2:(l.map cvR).flatMap sizesU=l.flatMap sizesR:=by
    rw[List.flatMap_map];rw[List.flatMap_def,List.flatMap_def]
    congr 1
    exact List.map_congr_left fun r hr=>qbz (h4 r hr)
   rw[e1,e2]at h5;exact h5
  ·rintro⟨_,_,h3,h4,h5⟩
   refine⟨h1,h2,h3,h4,?_⟩
   have e1:(facts.map cvF).map szF=facts.map szF:=by rw[List.map_map];exact List.map_congr_left fun f hf=>by simp[qgf (h3 f hf)]
   have e2:(l.map cvR).flatMap sizesU=l.flatMap sizesR:=by
    rw[List.flatMap_map];rw[List.flatMap_def,List.flatMap_def]
    congr 1
    exact List.map_congr_left fun r hr=>qbz (h4 r hr)
   rw[e1,e2];exact h5
 by_cases h1:l.length≤10
 ·by_cases h2:facts.length≤20
  ·rw[List.take_of_length_le (by omega),List.take_of_length_le (by omega)];exact key h1 h2
  ·constructor
   ·intro h;have:=h.2.1;simp at this;omega
   ·intro h;exact absurd h.2.1 h2
 ·constructor
  ·intro h;have:=h.1;simp at this;omega
  ·intro h;exact absurd h.1 h1
theorem qet {l:List rf3Rule} (hl:okRules l):∀ r,r∈(l.take 12).map cvR→smallU r:=by
 intro r hr;obtain⟨q,hq,rfl⟩:=List.mem_map.1 hr;obtain⟨h1,h2,h3⟩:=hl.2 q (List.mem_of_mem_take hq);refine⟨by simp[cvR];omega,fun a ha=>?_⟩
 rcases List.mem_cons.1 ha with rfl | ha
 ·exact⟨by simp[cvR,cvA];omega,fun y hy=>h1.2.2 y (List.mem_of_mem_take hy)⟩
 ·obtain⟨y,hy,rfl⟩:=List.mem_map.1 ha;obtain⟨b,hb,rfl⟩:=List.mem_map.1 hy;exact⟨by simp[cvL,cvA];omega,fun y hy=>(h3 b (List.mem_of_mem_take hb)).2.2 y (List.mem_of_mem_take hy)⟩
theorem Zu {fuel:Nat} (hf:4≤fuel) {l:List rf3Rule} {facts:List apiFact} (hl:okRules l):Qo fuel ((l.take 12).map cvR) ((facts.take 26).map cvF)=some (decide (VR l facts)):=by
 rw[qdd hf (by simp;omega) (by simp;omega) (qet hl)]
 congr 1
 rw[decide_eq_decide];exact qhg l facts
end Go.AM
namespace Go.AM
open Go.Proofs
open Classical
structure Edge where
 h:Nat
 b:Nat
 d:Int
def Edge.ok (e:Edge):Prop:=e.h<6∧e.b<6∧0≤e.d∧e.d≤1
def stepE (v:List Int) (e:Edge):List Int:=v.set e.h (if v.getD e.b 0+e.d > v.getD e.h 0 then v.getD e.b 0+e.d else v.getD e.h 0)
def rndE (E:List Edge) (v:List Int):List Int:=E.foldl stepE v
def iterE (E:List Edge) (v:List Int):Nat→List Int
 | 0=>v
 | n+1=>iterE E (rndE E v) n
theorem QJ (v:List Int) (e:Edge):(stepE v e).length=v.length:=by simp[stepE]
theorem ZX (E:List Edge):∀ v,(rndE E v).length=v.length:=by
 induction E with
 | nil=>intro v;rfl
 | cons e E ih=>intro v;rw[show rndE (e::E) v=rndE E (stepE v e) from rfl,ih,QJ]
theorem Za {v:List Int} (hv:v.length=6) {e:Edge} (he:e.ok) (i:Nat):(stepE v e).getD i 0=if i=e.h then (if v.getD e.b 0+e.d > v.getD e.h 0 then v.getD e.b 0+e.d else v.getD e.h 0) else v.getD i 0:=by
 unfold stepE;simp only[List.getD_eq_getElem?_getD]
 by_cases hi:i=e.h
 ·subst hi;rw[List.getElem?_set_self (by rw[hv];exact he.1),if_pos rfl];rfl
 ·rw[List.getElem?_set_ne (fun h=>hi h.symm),if_neg hi]
theorem VB {v w:List Int} (hv:v.length=6) (hw:w.length=6) (h:∀ i,i<6→v.getD i 0=w.getD i 0):v=w:=by
 refine List.ext_getElem (by rw[hv,hw]) fun i h1 h2=>?_
 have:=h i (by omega);rw[List.getD_eq_getElem?_getD,List.getD_eq_getElem?_getD,List.getElem?_eq_getElem h1,List.getElem?_eq_getElem h2]at this;exact this
theorem Hp {v:List Int} (hv:v.length=6) {e:Edge} (he:e.ok) (i:Nat):v.getD i 0≤(stepE v e).getD i 0:=by
 rw[Za hv he]
 split
 ·rename_i h;subst h;split <;> omega
 ·omega
theorem Vy {E:List Edge} (hE:∀ e,e∈E→e.ok):∀ {v:List Int},v.length=6→∀ i,v.getD i 0≤(rndE E v).getD i 0:=by
 induction E with
 | nil=>intro v hv i;exact Int.le_refl _
 | cons e E ih =>
  intro v hv i;have h1:=Hp hv (hE e (List.mem_cons_self ..)) i;have h2:=ih (fun f hf=>hE f (List.mem_cons_of_mem _ hf)) (v:=stepE v e) (by rw[QJ,hv]) i;exact Int.le_trans h1 h2
theorem Hv {E:List Edge} (hE:∀ e,e∈E→e.ok):∀ {v:List Int} {B:Int},v.length=6→0≤B→(∀ i,0≤v.getD i 0∧v.getD i 0≤B)→∀ i,0≤(rndE E v).getD i 0∧(rndE E v).getD i 0≤B+E.length:=by
 induction E with
 | nil=>intro v B hv hB h i;simpa[rndE] using h i
 | cons e E ih =>
  intro v B hv hB h i;have he:=hE e (List.mem_cons_self ..)
  have h1:∀ i,0≤(stepE v e).getD i 0∧(stepE v e).getD i 0≤B+1:=fun i=>by
   rw[Za hv he];have a:=h e.b;have b:=h e.h;have c:=h i;have:=he.2.2
   split
   ·split <;> omega
   ·omega
  have:=ih (fun f hf=>hE f (List.mem_cons_of_mem _ hf)) (v:=stepE v e) (by rw[QJ,hv]) (by omega) h1 i;rw[List.length_cons];show 0≤(rndE E (stepE v e)).getD i 0∧(rndE E (stepE v e)).getD i 0≤_;omega
def preE (E:List Edge) (p:Nat→Int):Prop:=∀ e,e∈E→p e.b+e.d≤p e.h
theorem qfG {E:List Edge} (hE:∀ e,e∈E→e.ok) {p:Nat→Int}:preE E p→∀ {v:List Int},v.length=6→(∀ i,v.getD i 0≤p i)→∀ i,(rndE E v).getD i 0≤p i:=by
 induction E with
 | nil=>intro _ v _ h i;exact h i
 | cons e E ih =>
  intro hp v hv h i;have he:=hE e (List.mem_cons_self ..);refine ih (fun f hf=>hE f (List.mem_cons_of_mem _ hf)) (fun f hf=>hp f (List.mem_cons_of_mem _ hf)) (v:=stepE v e) (by rw[QJ,hv]) (fun j=>?_) i;rw[Za hv he];have a:=h e.b;have b:=h e.h;have c:=hp e (List.mem_cons_self ..)
  split
  ·rename_i hj;subst hj;split <;> omega
  ·exact h j
theorem qfH {E:List Edge} (hE:∀ e,e∈E→e.ok):∀ {v:List Int},v.length=6→rndE E v=v→preE E (fun i=>v.getD i 0):=by
 induction E with
 | nil=>intro v _ _ e he;simp at he
 | cons e E ih =>
  intro v hv h;have he:=hE e (List.mem_cons_self ..)
  have hE':∀ f,f∈E→f.ok:=fun f hf=>hE f (List.mem_cons_of_mem _ hf)
  have h1:rndE E (stepE v e)=v:=h
  have hs:stepE v e=v:=by
   refine VB (by rw[QJ,hv]) hv fun i _=>?_
   have a:=Hp hv he i;have b:=Vy hE' (v:=stepE v e) (by rw[QJ,hv]) i;rw[h1]at b;omega
  rw[hs]at h1;intro f hf
  rcases List.mem_cons.1 hf with rfl | hf
  ·have:(stepE v f).getD f.h 0=v.getD f.h 0:=by rw[hs]
   show v.getD f.b 0+f.d≤v.getD f.h 0;rw[Za hv he,if_pos rfl]at this
   split at this <;> omega
  ·exact ih hE' hv h1 f hf
def sum6 (v:List Int):Int:=v.getD 0 0+v.getD 1 0+v.getD 2 0+v.getD 3 0+v.getD 4 0+v.getD 5 0
theorem qfF {E:List Edge} (hE:∀ e,e∈E→e.ok) {v:List Int} (hv:v.length=6) (hne:rndE E v≠v):sum6 v+1≤sum6 (rndE E v):=by
 have h:=Vy hE hv
 have:∃ i,i<6∧v.getD i 0≠(rndE E v).getD i 0:=by
  refine Classical.byContradiction fun hn=>hne (VB (by rw[ZX,hv]) hv fun i hi=>?_)
  refine Classical.byContradiction fun h2=>hn ⟨i,hi,fun e=>h2 e.symm⟩
 obtain⟨i,hi,hni⟩:=this;have a0:=h 0;have a1:=h 1;have a2:=h 2;have a3:=h 3;have a4:=h 4;have a5:=h 5;unfold sum6
 match i,hi with
 | 0,_ | 1,_ | 2,_ | 3,_ | 4,_ | 5,_=>omega
theorem pig:∀ (n:Nat) (l:List Nat),l.Nodup→(∀ x,x∈l→x<n)→l.length≤n
 | 0,l,_,h=>by
  cases l with
  | nil=>simp
  | cons a l=>exact absurd (h a (List.mem_cons_self ..)) (by omega)
 | n+1,l,hn,h=>by
  have:=pig n (l.erase n) (hn.erase n) (fun x hx=>by
   have h1:=(hn.mem_erase_iff).1 hx;have h2:=h x h1.2;have:=h1.1
   omega)
  rw[List.length_erase]at this
  split at this <;> omega
theorem qhd {E:List Edge} {v:List Int} (hv:v.length=6) (h0:∀ i,0≤v.getD i 0) (hpre:preE E (fun i=>v.getD i 0)) (hleast:∀ p:Nat→Int,(∀ i,0≤p i)→preE E p→∀ i,v.getD i 0≤p i) (hE:∀ e,e∈E→e.ok):∀ i,v.getD i 0≤5:=by
 intro j
 refine Classical.byContradiction fun hj=>?_
 have hj:6≤v.getD j 0:=by omega
 have hj6:j<6:=by
  refine Classical.byContradiction fun h=>?_
  rw[List.getD_eq_getElem?_getD,List.getElem?_eq_none (by omega)]at hj
  simp at hj
 have:∃ m:Int,0≤m∧m≤5∧∀ i,i<6→v.getD i 0≠m:=by
  refine Classical.byContradiction fun hn=>?_
  have hall:∀ m:Nat,m<6→∃ i,i<6∧v.getD i 0=(m:Int):=fun m hm=>by
   refine Classical.byContradiction fun h2=>hn ⟨m,by omega,by omega,fun i hi e=>h2 ⟨i,hi,e⟩⟩
  have hall7:∀ m:Nat,m<7→∃ i,i<6∧(if v.getD i 0≤5 then v.getD i 0 else 6)=(m:Int):=fun m hm=>by
   by_cases h6:m<6
   ·obtain⟨i,hi,he⟩:=hall m h6;exact⟨i,hi,by rw[if_pos (by omega)];exact he⟩
   ·exact⟨j,hj6,by rw[if_neg (by omega)];omega⟩
  obtain⟨i0,q0,p0⟩:=hall7 0 (by omega);obtain⟨i1,q1,p1⟩:=hall7 1 (by omega);obtain⟨i2,q2,p2⟩:=hall7 2 (by omega);obtain⟨i3,q3,p3⟩:=hall7 3 (by omega);obtain⟨i4,q4,p4⟩:=hall7 4 (by omega);obtain⟨i5,q5,p5⟩:=hall7 5 (by omega);obtain⟨i6,q6,p6⟩:=hall7 6 (by omega)
  have ne:∀ {a b:Nat} {x y:Nat},(if v.getD a 0≤5 then v.getD a 0 else 6)=(x:Int)→(if v.getD b 0≤5 then v.getD b 0 else 6)=(y:Int)→x≠y→a≠b:=fun h1 h2 h3 e=>by subst e;rw[h1]at h2;omega
  have:=pig 6 [i0,i1,i2,i3,i4,i5,i6] (by
   simp only[List.nodup_cons,List.mem_cons,List.not_mem_nil,or_false,not_or,List.nodup_nil,and_true,not_false_eq_true]
   exact⟨⟨ne p0 p1 (by omega),ne p0 p2 (by omega),ne p0 p3 (by omega),ne p0 p4 (by omega),ne p0 p5 (by omega),ne p0 p6 (by omega)⟩,⟨ne p1 p2 (by omega),ne p1 p3 (by omega),ne p1 p4 (by omega),ne p1 p5 (by omega),ne p1 p6 (by omega)⟩,⟨ne p2 p3 (by omega),ne p2 p4 (by omega),ne p2 p5 (by omega),ne p2 p6 (by omega)⟩,⟨ne p3 p4 (by omega),ne p3 p5 (by omega),ne p3 p6 (by omega)⟩,⟨ne p4 p5 (by omega),ne p4 p6 (by omega)⟩,ne p5 p6 (by omega)⟩) (fun x hx=>by
   simp only[List.mem_cons,List.not_mem_nil,or_false]at hx
   rcases hx with rfl | rfl | rfl | rfl | rfl | rfl | rfl <;> assumption)
  simp at this
 obtain⟨m,m0,m5,hm⟩:=this
 have hp:=hleast (fun i=>if v.getD i 0 > m then v.getD i 0 - 1 else v.getD i 0) (fun i=>by have:=h0 i;show 0≤(if v.getD i 0 > m then v.getD i 0 - 1 else v.getD i 0);split <;> omega) (fun e he=>by
  have h1:=hpre e he;have h2:=hm e.h (hE e he).1;have h3:=hm e.b (hE e he).2.1;have h4:=(hE e he).2.2;replace h1:v.getD e.b 0+e.d≤v.getD e.h 0:=h1;show (if v.getD e.b 0 > m then v.getD e.b 0 - 1 else v.getD e.b 0)+e.d≤(if v.getD e.h 0 > m then v.getD e.h 0 - 1 else v.getD e.h 0)
  split <;> split <;> omega) j
 replace hp:v.getD j 0≤(if v.getD j 0 > m then v.getD j 0 - 1 else v.getD j 0):=hp;rw[if_pos (by omega)]at hp;omega
end Go.AM
namespace Go.AM
open Go.Proofs
open Classical
def edgeOf (h b:Int) (n:Bool):Edge:=⟨h.toNat,b.toNat,if n then 1 else 0⟩
def edgesU (l:List ruRule):List Edge:=l.flatMap fun r=>r.qd.map fun b=>edgeOf r.qc.qb b.qe.qb b.qn
def edgesR (l:List rf3Rule):List Edge:=l.flatMap fun r=>r.qd.map fun b=>edgeOf r.qc.qb b.qe.qb b.qn
def rel6 (n:Int):Prop:=0≤n∧n≤5
def in6 (v:List Int) (B:Int):Prop:=v.length=6∧∀ i,0≤v.getD i 0∧v.getD i 0≤B
theorem XQ {h b:Int} {n:Bool} (h1:rel6 h) (h2:rel6 b):(edgeOf h b n).ok:=by
 have:=h1.1;have:=h1.2;have:=h2.1;have:=h2.2
 refine⟨?_,?_,?_,?_⟩ <;> unfold edgeOf <;> dsimp only <;> first | omega | (split <;> omega)
theorem get6 {v:List Int} {B:Int} (hv:in6 v B) {n:Int} (h:rel6 n):v[0+Int.toNat n]? = some (v.getD n.toNat 0):=by
 have:=h.1;have:=h.2;rw[Nat.zero_add,List.getD_eq_getElem?_getD,List.getElem?_eq_getElem (by rw[hv.1];omega)];rfl
theorem upd6 {v:List Int} {B:Int} (hv:in6 v B) {n:Int} (h:rel6 n) (x:Int):upd v (0+Int.toNat n) x=some (v.set n.toNat x):=by
 have:=h.1;have:=h.2;unfold upd;rw[Nat.zero_add,if_pos (by rw[hv.1];omega)]
theorem set6 {v:List Int} {B:Int} (hv:in6 v B) {n:Nat}:v.set n (v.getD n 0)=v:=by
 refine List.ext_getElem (by simp) fun i h1 h2=>?_
 rw[List.getElem_set]
 split
 ·rename_i h;subst h;rw[List.getD_eq_getElem?_getD,List.getElem?_eq_getElem h2];rfl
 ·rfl
theorem qcd {v:List Int} {B:Int} (hv:in6 v B) (hB:0≤B) {e:Edge} (he:e.ok):in6 (stepE v e) (B+1):=by
 refine⟨by rw[QJ,hv.1],fun i=>?_⟩;have:=Hv (E:=[e]) (fun f hf=>by simp at hf;subst hf;exact he) hv.1 hB hv.2 i
 simpa[rndE] using this
theorem qft {E:List Edge} (hE:∀ e,e∈E→e.ok) {e:Edge} (he:e.ok) {v:List Int} (hv:v.length=6):rndE (e::E) v=v↔stepE v e=v∧rndE E v=v:=by
 have e1:rndE (e::E) v=rndE E (stepE v e):=rfl
 constructor
 ·intro h
  have hs:stepE v e=v:=by
   refine VB (by rw[QJ,hv]) hv fun i _=>?_
   have a:=Hp hv he i;have b:=Vy hE (v:=stepE v e) (by rw[QJ,hv]) i;rw[← e1,h]at b;omega
  refine⟨hs,?_⟩;rw[e1,hs]at h;exact h
 ·rintro⟨h1,h2⟩
  rw[e1,h1,h2]
theorem Uc (E F:List Edge) (v:List Int):rndE (E++F) v=rndE F (rndE E v):=List.foldl_append ..
theorem Hu {E F:List Edge} (hE:∀ e,e∈E→e.ok) (hF:∀ e,e∈F→e.ok) {v:List Int} (hv:v.length=6):rndE (E++F) v=v↔rndE E v=v∧rndE F v=v:=by
 rw[Uc]
 constructor
 ·intro h
  have hs:rndE E v=v:=by
   refine VB (by rw[ZX,hv]) hv fun i _=>?_
   have a:=Vy hE hv i;have b:=Vy hF (v:=rndE E v) (by rw[ZX,hv]) i;rw[h]at b;omega
  refine⟨hs,?_⟩;rw[hs]at h;exact h
 ·rintro⟨h1,h2⟩
  rw[h1,h2]
theorem relDec {n:Int} (h:rel6 n):decide ((0:Int)≤n∧n<(((Int.toNat 6):Nat):Int))=true:=by
 have:=h.1;have:=h.2;refine decide_eq_true ⟨by omega,?_⟩;rw[show (((Int.toNat 6):Nat):Int)=6 from rfl];omega
theorem qfC (x2:ruRule) (hx:rel6 x2.qc.qb) (K:List Int→Bool→Option (List Int×Bool)):∀ (body:List ruLit) (k:Nat) (v:List Int) (ch:Bool) (B:Int),(∀ b,b∈body→rel6 b.qe.qb)→in6 v B→0≤B→B+body.length≤1000000 →
  ∃ c,jd x2 K body k v ch=K (rndE (body.map fun b=>edgeOf x2.qc.qb b.qe.qb b.qn) v) c∧(c=true↔ch=true∨rndE (body.map fun b=>edgeOf x2.qc.qb b.qe.qb b.qn) v≠v)
 | [],k,v,ch,B,_,_,_,_=>⟨ch,by rw[jd];rfl,by simp[rndE]⟩
 | b::body,k,v,ch,B,hb,hv,hB,hl=>by
  have hbb:=hb b (List.mem_cons_self ..)
  have hb':∀ c,c∈body→rel6 c.qe.qb:=fun c hc=>hb c (List.mem_cons_of_mem _ hc)
  rw[List.length_cons]at hl;have he:=XQ (n:=b.qn) hx hbb
  have hE:∀ e,e∈body.map (fun b=>edgeOf x2.qc.qb b.qe.qb b.qn)→e.ok:=fun e h=>by
   obtain⟨c,hc,rfl⟩:=List.mem_map.1 h;exact XQ hx (hb' c hc)
  have hs:=qcd hv hB he
  have key:∀ w:Int,w=v.getD b.qe.qb.toNat 0+(edgeOf x2.qc.qb b.qe.qb b.qn).d→∃ c,Qb x2 v ch (Jr (jd x2 K body (k+1))) w=K (rndE ((b::body).map fun b=>edgeOf x2.qc.qb b.qe.qb b.qn) v) c∧(c=true↔ch=true∨rndE ((b::body).map fun b=>edgeOf x2.qc.qb b.qe.qb b.qn) v≠v):=fun w hw=>by
   unfold Qb Jr;rw[ZJ (relDec hx),get6 hv hx];simp only[Option.bind_some];rw[List.map_cons]
   by_cases hgt:w > v.getD x2.qc.qb.toNat 0
   ·rw[decide_eq_true hgt,cond_true,ZJ (relDec hx),upd6 hv hx];simp only[Option.bind_some]
    have es:v.set x2.qc.qb.toNat w=stepE v (edgeOf x2.qc.qb b.qe.qb b.qn):=by
     show _=v.set x2.qc.qb.toNat (if v.getD b.qe.qb.toNat 0+_ > v.getD x2.qc.qb.toNat 0 then _ else _);rw[if_pos (by rw[← hw];exact hgt),hw];rfl
    rw[es];obtain⟨c,h1,h2⟩:=qfC x2 hx K body (k+1) (stepE v (edgeOf x2.qc.qb b.qe.qb b.qn)) true (B+1) hb' hs (by omega) (by omega);refine⟨c,h1,?_⟩;have hc:c=true:=h2.2 (.inl rfl);refine⟨fun _=>.inr fun hf=>?_,fun _=>hc⟩;have hf:=((qft hE he hv.1).1 hf).1;have:=congrArg (fun z=>z.getD x2.qc.qb.toNat 0) hf;replace this:(stepE v (edgeOf x2.qc.qb b.qe.qb b.qn)).getD x2.qc.qb.toNat 0=v.getD x2.qc.qb.toNat 0:=this;rw[Za hv.1 he,if_pos (show x2.qc.qb.toNat=(edgeOf x2.qc.qb b.qe.qb b.qn).h from rfl)]at this;replace this:(if v.getD b.qe.qb.toNat 0+(edgeOf x2.qc.qb b.qe.qb b.qn).d > v.getD x2.qc.qb.toNat 0 then v.getD b.qe.qb.toNat 0+(edgeOf x2.qc.qb b.qe.qb b.qn).d else v.getD x2.qc.qb.toNat 0)=v.getD x2.qc.qb.toNat 0:=this;rw[← hw,if_pos hgt]at this;omega
   ·rw[decide_eq_false hgt,cond_false]
    have es:stepE v (edgeOf x2.qc.qb b.qe.qb b.qn)=v:=by
     show v.set x2.qc.qb.toNat (if v.getD b.qe.qb.toNat 0+_ > v.getD x2.qc.qb.toNat 0 then _ else _)=v;rw[if_neg (by rw[← hw];exact hgt)];exact set6 hv
    obtain⟨c,h1,h2⟩:=qfC x2 hx K body (k+1) v ch B hb' hv hB (by omega);refine⟨c,?_,?_⟩
    ·rw[h1];show _=K (rndE _ (stepE v _)) c;rw[es]
    ·rw[h2];show _↔ch=true∨rndE _ (stepE v _)≠v;rw[es]
  rw[jd,ZJ (relDec hbb),get6 hv hbb];simp only[Option.bind_some];have hg:=hv.2 b.qe.qb.toNat
  cases hn:b.qn with
  | true =>
   rw[cond_true]
   have hw:IntKind.wrap .i64 (v.getD b.qe.qb.toNat 0+1)=v.getD b.qe.qb.toNat 0+(edgeOf x2.qc.qb b.qe.qb b.qn).d:=by
    rw[wrap64 (by omega) (by omega),hn];rfl
   have:=key _ hw;rw[List.map_cons,hn]at this;rw[List.map_cons,hn];exact this
  | false =>
   rw[cond_false]
   have hw:v.getD b.qe.qb.toNat 0=v.getD b.qe.qb.toNat 0+(edgeOf x2.qc.qb b.qe.qb b.qn).d:=by
    rw[hn];show _=_+(0:Int);omega
   have:=key _ hw;rw[List.map_cons,hn]at this;rw[List.map_cons,hn];exact this
theorem qgW (x2:rf3Rule) (hx:rel6 x2.qc.qb) (K:List Int→Option (List Int×Int)):∀ (body:List rf3Lit) (k:Nat) (v:List Int) (B:Int),(∀ b,b∈body→rel6 b.qe.qb)→in6 v B→0≤B→B+body.length≤1000000 →
  Qc x2 K body k v=K (rndE (body.map fun b=>edgeOf x2.qc.qb b.qe.qb b.qn) v)
 | [],k,v,B,_,_,_,_=>by rw[Qc];rfl
 | b::body,k,v,B,hb,hv,hB,hl=>by
  have hbb:=hb b (List.mem_cons_self ..)
  have hb':∀ c,c∈body→rel6 c.qe.qb:=fun c hc=>hb c (List.mem_cons_of_mem _ hc)
  rw[List.length_cons]at hl;have he:=XQ (n:=b.qn) hx hbb;have hs:=qcd hv hB he
  have key:∀ w:Int,w=v.getD b.qe.qb.toNat 0+(edgeOf x2.qc.qb b.qe.qb b.qn).d→XA x2 v (Qc x2 K body (k+1)) w=K (rndE ((b::body).map fun b=>edgeOf x2.qc.qb b.qe.qb b.qn) v):=fun w hw=>by
   unfold XA;rw[ZJ (relDec hx),get6 hv hx];simp only[Option.bind_some];rw[ZJ (relDec hx),upd6 hv hx];simp only[Option.bind_some];rw[hw];exact qgW x2 hx K body (k+1) (stepE v (edgeOf x2.qc.qb b.qe.qb b.qn)) (B+1) hb' hs (by omega) (by omega)
  rw[Qc,ZJ (relDec hbb),get6 hv hbb];simp only[Option.bind_some];have hg:=hv.2 b.qe.qb.toNat
  cases hn:b.qn with
  | true =>
   rw[cond_true]
   have hw:IntKind.wrap .i64 (v.getD b.qe.qb.toNat 0+1)=v.getD b.qe.qb.toNat 0+(edgeOf x2.qc.qb b.qe.qb b.qn).d:=by
    rw[wrap64 (by omega) (by omega),hn];rfl
   exact key _ hw
  | false =>
   rw[cond_false]
   have hw:v.getD b.qe.qb.toNat 0=v.getD b.qe.qb.toNat 0+(edgeOf x2.qc.qb b.qe.qb b.qn).d:=by
    rw[hn];show _=_+(0:Int);omega
   exact key _ hw
def relsU (l:List ruRule):Prop:=∀ r,r∈l→rel6 r.qc.qb∧r.qd.length≤3∧∀ b,b∈r.qd→rel6 b.qe.qb
def relsR (l:List rf3Rule):Prop:=∀ r,r∈l→rel6 r.qc.qb∧r.qd.length≤3∧∀ b,b∈r.qd→rel6 b.qe.qb
theorem qau {l:List ruRule} (h:relsU l):∀ e,e∈edgesU l→e.ok:=fun e he=>by
 obtain⟨r,hr,he⟩:=List.mem_flatMap.1 he;obtain⟨b,hb,rfl⟩:=List.mem_map.1 he;exact XQ (h r hr).1 ((h r hr).2.2 b hb)
theorem Nz {l:List rf3Rule} (h:relsR l):∀ e,e∈edgesR l→e.ok:=fun e he=>by
 obtain⟨r,hr,he⟩:=List.mem_flatMap.1 he;obtain⟨b,hb,rfl⟩:=List.mem_map.1 he;exact XQ (h r hr).1 ((h r hr).2.2 b hb)
theorem qdC {l:List ruRule} (h:relsU l):(edgesU l).length≤3 * l.length:=by
 induction l with
 | nil=>simp[edgesU]
 | cons r l ih =>
  have:=ih fun q hq=>h q (List.mem_cons_of_mem _ hq)
  have h1:=(h r (List.mem_cons_self ..)).2.1;have e:edgesU (r::l)=(r.qd.map fun b=>edgeOf r.qc.qb b.qe.qb b.qn)++edgesU l:=rfl;rw[e,List.length_append,List.length_map,List.length_cons];omega
theorem qdD {l:List rf3Rule} (h:relsR l):(edgesR l).length≤3 * l.length:=by
 induction l with
 | nil=>simp[edgesR]
 | cons r l ih =>
  have:=ih fun q hq=>h q (List.mem_cons_of_mem _ hq)
  have h1:=(h r (List.mem_cons_self ..)).2.1;have e:edgesR (r::l)=(r.qd.map fun b=>edgeOf r.qc.qb b.qe.qb b.qn)++edgesR l:=rfl;rw[e,List.length_append,List.length_map,List.length_cons];omega
theorem Hk {E:List Edge} (hE:∀ e,e∈E→e.ok) {v:List Int} {B:Int} (hv:in6 v B) (hB:0≤B):in6 (rndE E v) (B+E.length) :=
 ⟨by rw[ZX,hv.1],Hv hE hv.1 hB hv.2⟩
theorem qgS (K:List Int→Bool→Option (List Int×Bool)):∀ (l:List ruRule) (k:Nat) (v:List Int) (ch:Bool) (B:Int),relsU l→in6 v B→0≤B→B+3 * l.length≤1000000 →
  ∃ c,qK K l k v ch=K (rndE (edgesU l) v) c∧(c=true↔ch=true∨rndE (edgesU l) v≠v)
 | [],k,v,ch,B,_,_,_,_=>⟨ch,by rw[qK];rfl,by simp[rndE,edgesU]⟩
 | r::l,k,v,ch,B,hr,hv,hB,hl=>by
  have h1:=hr r (List.mem_cons_self ..)
  have hr':relsU l:=fun q hq=>hr q (List.mem_cons_of_mem _ hq)
  rw[List.length_cons]at hl;rw[qK,ZJ (qN (by have:=h1.2.1;omega))]
  have hE:∀ e,e∈r.qd.map (fun b=>edgeOf r.qc.qb b.qe.qb b.qn)→e.ok:=fun e h=>by
   obtain⟨c,hc,rfl⟩:=List.mem_map.1 h;exact XQ h1.1 (h1.2.2 c hc)
  obtain⟨c,e1,e2⟩:=qfC r h1.1 (jn (qK K l (k+1))) r.qd 0 v ch B h1.2.2 hv hB (by have:=h1.2.1;omega);rw[e1];unfold jn;have hs:=Hk hE hv hB;rw[List.length_map]at hs;obtain⟨d,e3,e4⟩:=qgS K l (k+1) _ c _ hr' hs (by omega) (by have:=h1.2.1;omega);have e:edgesU (r::l)=(r.qd.map fun b=>edgeOf r.qc.qb b.qe.qb b.qn)++edgesU l:=rfl;refine⟨d,by rw[e3,e,Uc],?_⟩;rw[e4,e2,e,show (rndE ((r.qd.map fun b=>edgeOf r.qc.qb b.qe.qb b.qn)++edgesU l) v≠v↔¬ (_∧_)) from not_congr (Hu hE (qau hr') hv.1)]
  by_cases hf:rndE (r.qd.map fun b=>edgeOf r.qc.qb b.qe.qb b.qn) v=v
  ·rw[hf]
   simp
  ·simp[hf]
theorem qgX (K:List Int→Option (List Int×Int)):∀ (l:List rf3Rule) (k:Nat) (v:List Int) (B:Int),relsR l→in6 v B→0≤B→B+3 * l.length≤1000000 →
  QZ K l k v=K (rndE (edgesR l) v)
 | [],k,v,B,_,_,_,_=>by rw[QZ];rfl
 | r::l,k,v,B,hr,hv,hB,hl=>by
  have h1:=hr r (List.mem_cons_self ..)
  have hr':relsR l:=fun q hq=>hr q (List.mem_cons_of_mem _ hq)
  rw[List.length_cons]at hl
  have hE:∀ e,e∈r.qd.map (fun b=>edgeOf r.qc.qb b.qe.qb b.qn)→e.ok:=fun e h=>by
   obtain⟨c,hc,rfl⟩:=List.mem_map.1 h;exact XQ h1.1 (h1.2.2 c hc)
  have hs:=Hk hE hv hB;rw[List.length_map]at hs;rw[QZ,ZJ (qN (by have:=h1.2.1;omega)),qgW r h1.1 _ r.qd 0 v B h1.2.2 hv hB (by have:=h1.2.1;omega)];unfold ZZ;rw[qgX K l (k+1) _ _ hr' hs (by omega) (by have:=h1.2.1;omega),← Uc];rfl
theorem YA (E:List Edge):∀ (n:Nat) (v:List Int),iterE E v (n+1)=rndE E (iterE E v n)
 | 0,v=>rfl
 | n+1,v=>by
  show iterE E (rndE E v) (n+1)=_;rw[YA E n];rfl
theorem qgY (l:List rf3Rule) (K:List Int→Option (List Int×Int)) (hl:l.length≤10) (hr:relsR l):∀ (L:List Nat) (k:Nat) (v:List Int) (B:Int),in6 v B→0≤B→B+30 * L.length≤1000 * 1000 - 30 →
  Xa l K L k v=K (iterE (edgesR l) v L.length)
 | [],k,v,B,_,_,_=>by rw[Xa];rfl
 | x::L,k,v,B,hv,hB,hb=>by
  rw[List.length_cons]at hb;have hs:=Hk (Nz hr) hv hB;have hlen:=qdD hr;rw[Xa,ZJ (qN (by omega)),qgX _ l 0 v B hr hv hB (by omega)];unfold VS;rw[qgY l K hl hr L (k+1) _ _ hs (by omega) (by omega)];rfl
end Go.AM
