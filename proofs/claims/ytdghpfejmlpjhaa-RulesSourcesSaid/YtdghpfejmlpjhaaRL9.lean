/- s -/
import Derived.Test.YtdghpfejmlpjhaaRL4
set_option maxRecDepth 100000
set_option linter.unusedVariables false
set_option linter.unusedSimpArgs false
namespace Go.AM
open Go.Proofs
open Classical
theorem Hb {rel:Int} {args:List Int}:fitP rel (args.take 5)↔fitP rel args∧args.take 5=args:=by
 constructor
 ·intro h
  have h1:args.length≤5:=by
   have:=h.2.1.2;rw[List.length_take]at this;omega
  have e:args.take 5=args:=List.take_of_length_le h1;rw[e]at h;exact⟨h,e⟩
 ·rintro⟨h,e⟩
  rw[e];exact h
theorem UL {rel:Int} {args:List Int} (h:fitP rel args):args.take 5=args:=List.take_of_length_le (by have:=h.2.1.2;omega)
theorem qdt {f:apiFact}:groundP (cvF f)↔groundP f:=by
 unfold groundP cvF
 constructor
 ·intro h
  have h1:f.qa.length≤9:=by
   have:=h.2.1.2;simp only[List.length_take]at this;omega
  rw[List.take_of_length_le h1]at h;exact h
 ·intro h;rw[List.take_of_length_le (by have:=h.2.1.2;omega)];exact h
theorem qhi {f:apiFact} (h:groundP f):cvF f=f:=by
 unfold cvF;rw[List.take_of_length_le (by have:=h.2.1.2;omega)]
theorem ZD {a:rf2Atom} (h:fitP a.qb a.qa):(cvA a).qa=a.qa:=UL h
theorem qfj (r:rf3Rule):okU (cvR r)↔okR r:=by
 have hb:((cvR r).qc.length≤3↔r.qc.length≤3):=by simp[cvR];omega
 have hbody:r.qc.length≤3→(cvR r).qc=r.qc.map cvL:=fun h=>by unfold cvR;simp only;rw[List.take_of_length_le (by omega)]
 have hatoms:r.qc.length≤3→((∀ a,a∈atomsU (cvR r)→fitP a.qb a.qa)↔(fitP r.qf.qb r.qf.qa∧∀ b,b∈r.qc→fitP b.qd.qb b.qd.qa)):=fun h=>by
  unfold atomsU;rw[hbody h]
  constructor
  ·intro h2;refine⟨(Hb.1 (h2 _ (List.mem_cons_self ..))).1,fun b hb=>?_⟩;exact (Hb.1 (h2 (cvA b.qd) (List.mem_cons_of_mem _ (List.mem_map.2 ⟨cvL b,List.mem_map.2 ⟨b,hb,rfl⟩,rfl⟩)))).1
  ·rintro⟨h2,h3⟩ a ha
   rcases List.mem_cons.1 ha with rfl | ha
   ·exact Hb.2 ⟨h2,UL h2⟩
   ·obtain⟨y,hy,rfl⟩:=List.mem_map.1 ha;obtain⟨b,hb,rfl⟩:=List.mem_map.1 hy;exact Hb.2 ⟨h3 b hb,UL (h3 b hb)⟩
 have hsafe:r.qc.length≤3→(fitP r.qf.qb r.qf.qa∧∀ b,b∈r.qc→fitP b.qd.qb b.qd.qa)→(safeU (cvR r)↔safeR r):=fun h h2=>by
  have hbd:∀ v:Int,(∃ b,b∈(cvR r).qc∧b.qr=false∧v∈b.qd.qa)↔∃ b,b∈r.qc∧b.qr=false∧v∈b.qd.qa:=fun v=>by
   rw[hbody h]
   constructor
   ·rintro⟨y,hy,q1,q2⟩
    obtain⟨b,hb,rfl⟩:=List.mem_map.1 hy;have q2':v∈(cvA b.qd).qa:=q2;rw[ZD (h2.2 b hb)]at q2';exact⟨b,hb,q1,q2'⟩
   ·rintro⟨b,hb,q1,q2⟩
    refine⟨cvL b,List.mem_map.2 ⟨b,hb,rfl⟩,q1,?_⟩;show v∈(cvA b.qd).qa;rw[ZD (h2.2 b hb)];exact q2
  unfold safeU safeR
  constructor
  ·intro hu i hi
   constructor
   ·rintro (h3 | ⟨b,hb,h3⟩)
    ·exact (hbd i).1 (hu (cvA r.qf) (List.mem_cons_self ..) i (by rw[ZD h2.1];exact h3) (by omega))
    ·refine (hbd i).1 (hu (cvA b.qd) (List.mem_cons_of_mem _ ?_) i (by rw[ZD (h2.2 b hb)];exact h3) (by omega));rw[hbody h];exact List.mem_map.2 ⟨cvL b,List.mem_map.2 ⟨b,hb,rfl⟩,rfl⟩
   ·rintro⟨b,hb,_,h3⟩
    exact .inr ⟨b,hb,h3⟩
  ·intro hr a ha v hv h0;rw[hbd]
   rcases List.mem_cons.1 ha with rfl | ha
   ·have hv':v∈r.qf.qa:=by rw[← ZD h2.1];exact hv
    have h7:=(h2.1.2.2 v hv').2
    have e:((v.toNat:Nat):Int)=v:=by omega
    have:=(hr v.toNat (by omega)).1 (.inl (by rw[e];exact hv'))
    rwa [e]at this
   ·rw[hbody h]at ha;obtain⟨y,hy,rfl⟩:=List.mem_map.1 ha;obtain⟨b,hb,rfl⟩:=List.mem_map.1 hy
    have hv':v∈b.qd.qa:=by
     have hv2:v∈(cvA b.qd).qa:=hv
     rwa [ZD (h2.2 b hb)]at hv2
    have h7:=((h2.2 b hb).2.2 v hv').2
    have e:((v.toNat:Nat):Int)=v:=by omega
    have:=(hr v.toNat (by omega)).1 (.inr ⟨b,hb,by rw[e];exact hv'⟩)
    rwa [e]at this
 constructor
 ·rintro⟨q1,q2,q3⟩
  have h3:=hb.1 q1;have h4:=(hatoms h3).1 q3;exact⟨h4.1,h3,h4.2,(hsafe h3 h4).1 q2⟩
 ·rintro⟨q1,q2,q3,q4⟩
  exact⟨hb.2 q2,(hsafe q2 ⟨q1,q3⟩).2 q4,(hatoms q2).2 ⟨q1,q3⟩⟩
theorem qcU {r:rf3Rule} (h:okR r):sizesU (cvR r)=sizesR r:=by
 unfold sizesU sizesR atomsU
 have hb:(cvR r).qc=r.qc.map cvL:=by unfold cvR;simp only;rw[List.take_of_length_le (by have:=h.2.1;omega)]
 rw[hb,List.map_cons,List.map_map,List.map_map]
 have e:∀ a:rf2Atom,fitP a.qb a.qa→szU (cvA a)=szA a:=fun a ha=>by unfold szU szA;rw[ZD ha];rfl
 have h1:szU (cvR r).qf=szA r.qf:=e _ h.1;rw[h1]
 congr 1
 refine List.map_congr_left fun b hb=>?_
 exact e b.qd (h.2.2.1 b hb)
theorem qhW (l:List rf3Rule) (facts:List apiFact):VU ((l.take 12).map cvR) ((facts.take 26).map cvF)↔VR l facts:=by
 have key:l.length≤10→facts.length≤20→(VU (l.map cvR) (facts.map cvF)↔VR l facts):=by
  intro h1 h2
  have hok:(∀ r,r∈l.map cvR→okU r)↔∀ r,r∈l→okR r:=by
   simp only[List.mem_map,forall_exists_index,and_imp,forall_apply_eq_imp_iff₂,qfj]
  have hgr:(∀ f,f∈facts.map cvF→groundP f)↔∀ f,f∈facts→groundP f:=by
   simp only[List.mem_map,forall_exists_index,and_imp,forall_apply_eq_imp_iff₂,qdt]
  unfold VU VR;rw[hok,hgr,List.length_map,List.length_map]
  constructor
  ·rintro⟨_,_,h3,h4,h5⟩
   refine⟨h1,h2,h3,h4,?_⟩
   have e1:(facts.map cvF).map szF=facts.map szF:=by rw[List.map_map];exact List.map_congr_left fun f hf=>by simp[qhi (h3 f hf)]
   have e2:(l.map cvR).flatMap sizesU=l.flatMap sizesR:=by
    rw[List.flatMap_map];rw[List.flatMap_def,List.flatMap_def]
    congr 1
    exact List.map_congr_left fun r hr=>qcU (h4 r hr)
   rw[e1,e2]at h5;exact h5
  ·rintro⟨_,_,h3,h4,h5⟩
   refine⟨h1,h2,h3,h4,?_⟩
   have e1:(facts.map cvF).map szF=facts.map szF:=by rw[List.map_map];exact List.map_congr_left fun f hf=>by simp[qhi (h3 f hf)]
   have e2:(l.map cvR).flatMap sizesU=l.flatMap sizesR:=by
    rw[List.flatMap_map];rw[List.flatMap_def,List.flatMap_def]
    congr 1
    exact List.map_congr_left fun r hr=>qcU (h4 r hr)
   rw[e1,e2];exact h5
 by_cases h1:l.length≤10
 ·by_cases h2:facts.length≤20
  ·rw[List.take_of_length_le (by omega),List.take_of_length_le (by omega)];exact key h1 h2
  ·constructor
   ·intro h;have:=h.2.1;simp at this;omega
   ·intro h;exact absurd h.2.1 h2
 ·constructor
  ·intro h;have:=h.1;simp at this;omega
  ·intro h;exact absurd h.1 h1
theorem qfE {l:List rf3Rule} (hl:okRules l):∀ r,r∈(l.take 12).map cvR→smallU r:=by
 intro r hr;obtain⟨q,hq,rfl⟩:=List.mem_map.1 hr;obtain⟨h1,h2,h3⟩:=hl.2 q (List.mem_of_mem_take hq);refine⟨by simp[cvR];omega,fun a ha=>?_⟩
 rcases List.mem_cons.1 ha with rfl | ha
 ·exact⟨by simp[cvR,cvA];omega,fun y hy=>h1.2.2 y (List.mem_of_mem_take hy)⟩
 ·obtain⟨y,hy,rfl⟩:=List.mem_map.1 ha;obtain⟨b,hb,rfl⟩:=List.mem_map.1 hy;exact⟨by simp[cvL,cvA];omega,fun y hy=>(h3 b (List.mem_of_mem_take hb)).2.2 y (List.mem_of_mem_take hy)⟩
theorem DI {fuel:Nat} (hf:4≤fuel) {l:List rf3Rule} {facts:List apiFact} (hl:okRules l):XY fuel ((l.take 12).map cvR) ((facts.take 26).map cvF)=some (decide (VR l facts)):=by
 rw[qer hf (by simp;omega) (by simp;omega) (qfE hl)]
 congr 1
 rw[decide_eq_decide];exact qhW l facts
end Go.AM
namespace Go.AM
open Go.Proofs
open Classical
structure Edge where
 h:Nat
 b:Nat
 d:Int
def Edge.ok (e:Edge):Prop:=e.h<6∧e.b<6∧0≤e.d∧e.d≤1
theorem pig:∀ (n:Nat) (l:List Nat),l.Nodup→(∀ x,x∈l→x<n)→l.length≤n
 | 0,l,_,h=>by
  cases l with
  | nil=>simp
  | cons a l=>exact absurd (h a (List.mem_cons_self ..)) (by omega)
 | n+1,l,hn,h=>by
  have:=pig n (l.erase n) (hn.erase n) (fun x hx=>by
   have h1:=(hn.mem_erase_iff).1 hx;have h2:=h x h1.2;have:=h1.1
   omega)
  rw[List.length_erase]at this
  split at this <;> omega
end Go.AM
namespace Go.AM
open Go.Proofs
open Classical
def rel6 (n:Int):Prop:=0≤n∧n≤5
end Go.AM
namespace Go.AM
open Go.Proofs
open Classical
end Go.AM
namespace Go.AM
open Go.Proofs
open Classical
structure okU1 (f:rufact):Prop where
 r0:0≤f.qn
 r5:f.qn≤5
 a1:1≤f.f_a
 a6:f.f_a≤6
 b0:0≤f.f_b
 b6:f.f_b≤6
def argsF (f:rufact):List Int:=if f.f_b=0 then [f.f_a] else [f.f_a,f.f_b]
def codeF (f:rufact):Nat:=(f.qn * 42+(if f.f_b=0 then f.f_a - 1 else f.f_a * 6+f.f_b - 1)).toNat
def decF (n:Nat):rufact:=if n % 42<6 then ⟨(n / 42:Nat),(n % 42+1:Nat),0⟩ else ⟨(n / 42:Nat),(n % 42 / 6:Nat),(n % 42 % 6+1:Nat)⟩
theorem ZE {f:rufact} (h:okU1 f):codeF f<252:=by
 have:=h.r0;have:=h.r5;have:=h.a1;have:=h.a6;have:=h.b0;have:=h.b6;unfold codeF;split <;> omega
theorem qhM {n:Nat} (h:n<252):okU1 (decF n):=by
 unfold decF
 split <;> refine⟨?_,?_,?_,?_,?_,?_⟩ <;> simp only <;> omega
theorem qas {f:rufact} (h:okU1 f):decF (codeF f)=f:=by
 have:=h.r0;have:=h.r5;have:=h.a1;have:=h.a6;have:=h.b0;have:=h.b6;obtain⟨r,a,b⟩:=f;simp only at *;unfold decF codeF
 simp only
 by_cases hb:b=0
 ·subst hb;rw[if_pos rfl]
  have e1:(r * 42+(a - 1)).toNat % 42=(a - 1).toNat:=by omega
  have e2:(r * 42+(a - 1)).toNat / 42=r.toNat:=by omega
  rw[if_pos (by omega),e1,e2]
  congr 1 <;> omega
 ·rw[if_neg hb]
  have e1:(r * 42+(a * 6+b - 1)).toNat % 42=(a * 6+b - 1).toNat:=by omega
  have e2:(r * 42+(a * 6+b - 1)).toNat / 42=r.toNat:=by omega
  rw[if_neg (by omega),e1,e2]
  congr 1 <;> omega
theorem qhl {n:Nat} (h:n<252):codeF (decF n)=n:=by
 unfold decF
 split
 ·unfold codeF;simp only;rw[if_pos trivial];omega
 ·unfold codeF;simp only;rw[if_neg (by omega)];omega
theorem qbL {f g:rufact} (hf:okU1 f) (hg:okU1 g) (h:codeF f=codeF g):f=g:=by
 rw[← qas hf,← qas hg,h]
theorem qat {f:rufact} (h:okU1 f):Ya f.qn (argsF f)=some (codeF f:Int):=by
 have:=h.r0;have:=h.r5;have:=h.a1;have:=h.a6;have:=h.b0;have:=h.b6;unfold Ya argsF codeF
 by_cases hb:f.f_b=0
 ·rw[if_pos hb,if_pos hb];show some _=some _;rw[wrap64 (n:=f.qn * 42) (by omega) (by omega),wrap64 (n:=f.qn * 42+f.f_a) (by omega) (by omega),wrap64 (by omega) (by omega)]
  congr 1;omega
 ·rw[if_neg hb,if_neg hb];show some _=some _;rw[wrap64 (n:=f.qn * 42) (by omega) (by omega),wrap64 (n:=f.f_a * 6) (by omega) (by omega),wrap64 (n:=f.qn * 42+f.f_a * 6) (by omega) (by omega),wrap64 (n:=f.qn * 42+f.f_a * 6+f.f_b) (by omega) (by omega),wrap64 (by omega) (by omega)]
  congr 1;omega
theorem qbS (f:rufact):apiF f=⟨f.qn,argsF f⟩:=by
 unfold apiF argsF;split <;> rfl
theorem qhs {n:Nat} (h:n<252):Uh (n:Int)=some (apiF (decF n)):=by
 have e1:(n:Int).tmod 42=((n % 42:Nat):Int):=by
  rw[Int.tmod_eq_emod_of_nonneg (by omega)];omega
 have e2:(n:Int).tdiv 42=((n / 42:Nat):Int):=by
  rw[Int.tdiv_eq_ediv_of_nonneg (by omega)];omega
 unfold Uh;rw[e1,e2]
 have e3:((n % 42:Nat):Int).tdiv 6=((n % 42 / 6:Nat):Int):=by
  rw[Int.tdiv_eq_ediv_of_nonneg (by omega)];omega
 have e4:((n % 42:Nat):Int).tmod 6=((n % 42 % 6:Nat):Int):=by
  rw[Int.tmod_eq_emod_of_nonneg (by omega)];omega
 rw[e3,e4,wrap64 (n:=((n / 42:Nat):Int)) (by omega) (by omega),wrap64 (n:=((n % 42 / 6:Nat):Int)) (by omega) (by omega),wrap64 (n:=((n % 42 % 6:Nat):Int)+1) (by omega) (by omega),wrap64 (n:=((n % 42:Nat):Int)+1) (by omega) (by omega)];unfold decF apiF
 by_cases h6:n % 42<6
 ·rw[decide_eq_false (by omega),cond_false,if_pos h6];show _=some (if (0:Int)=0 then _ else _);rw[if_pos rfl];rfl
 ·rw[decide_eq_true (by omega),cond_true,if_neg h6];show _=some (if ((n % 42 % 6+1:Nat):Int)=0 then _ else _);rw[if_neg (by omega)];rfl
theorem qhG {f:rufact}:ZU (apiF f)=some f:=by
 obtain⟨r,a,b⟩:=f;unfold apiF ZU
 by_cases hb:b=0
 ·subst hb;rfl
 ·rw[if_neg hb];rfl
def fitA:List Int→List Int→List Int→Option (List Int)
 | v,[],_=>some v
 | v,_::_,[]=>none
 | v,x::xs,e::es=>if x<0 then (if 0 - x=e then fitA v xs es else none) else if v.getD x.toNat 0≠0∧v.getD x.toNat 0≠e then none else fitA (v.set x.toNat e) xs es
def arg7 (args:List Int):Prop:=∀ x,x∈args → -6≤x∧x≤7
theorem qap:∀ {v xs es u:List Int},fitA v xs es=some u→u.length=v.length
 | v,[],es,u,h=>by cases h;rfl
 | v,x::xs,[],u,h=>by cases h
 | v,x::xs,e::es,u,h=>by
  unfold fitA at h
  split at h
  ·split at h
   ·exact qap h
   ·cases h
  ·split at h
   ·cases h
   ·rw[qap h,List.length_set]
theorem get8 {v:List Int} (hv:v.length=8) {x:Int} (h0:0≤x) (h7:x≤7):v[0+Int.toNat x * 1]? = some (v.getD x.toNat 0):=by
 rw[Nat.zero_add,Nat.mul_one,List.getD_eq_getElem?_getD,List.getElem?_eq_getElem (by omega)];rfl
theorem dec8 {x:Int} (h0:0≤x) (h7:x≤7):decide ((0:Int)≤x∧x<((8:Nat):Int)∧0<1)=true:=decide_eq_true ⟨h0,by omega,by omega⟩
theorem set8 {v:List Int} {n:Nat} {e:Int} (h:v.getD n 0=e):v.set n e=v:=by
 refine List.ext_getElem (by simp) fun i h1 h2=>?_
 rw[List.getElem_set]
 split
 ·rename_i hi;subst hi;rw[← h,List.getD_eq_getElem?_getD,List.getElem?_eq_getElem h2];rfl
 ·rfl
theorem qan (f:rufact) (a:ql) (hrel:(a.qb == f.qn)=true):∀ (args:List Int) (k:Nat) (v:List Int),arg7 args→k+args.length≤2→v.length=8 →
  match fitA v args (([f.f_a,f.f_b]:List Int).drop k) with
  | some u=>qq f (qB a f) args k v (List.replicate 8 0)=some (u,true)
  | none=>∃ u,qq f (qB a f) args k v (List.replicate 8 0)=some (u,false)
 | [],k,v,_,_,hv=>by
  rw[fitA];show qq f (qB a f) [] k v (List.replicate 8 0)=_;rw[qq];unfold qB;rw[VP (decide_eq_true hv),VP (decide_eq_true ⟨hv,by simp⟩),VP (decide_eq_true hv),hrel]
 | x::args,k,v,ha,hk,hv=>by
  rw[List.length_cons]at hk;have hx:=ha x (List.mem_cons_self ..)
  have ha':arg7 args:=fun y hy=>ha y (List.mem_cons_of_mem _ hy)
  obtain⟨e,he,hd⟩:∃ e,([f.f_a,f.f_b]:List Int)[Int.toNat (k:Int) * 1]? = some e∧([f.f_a,f.f_b]:List Int).drop k=e::([f.f_a,f.f_b]:List Int).drop (k+1):=by
   match k,hk with
   | 0,_=>exact⟨f.f_a,rfl,rfl⟩
   | 1,_=>exact⟨f.f_b,rfl,rfl⟩
   | k+2,hk=>omega
  rw[qq,VP (decide_eq_true ⟨by omega,by omega⟩),he,hd];simp only[Option.bind_some];unfold fitA
  by_cases hneg:x<0
  ·rw[decide_eq_true hneg,cond_true,if_pos hneg,decide_eq_false (show ¬ x ≥ 0 by omega),cond_false,wrap64 (by omega) (by omega)]
   by_cases hq:0 - x=e
   ·rw[if_pos hq,show ((0 - x) != e)=false by rw[hq];exact bne_self_eq_false ..,  cond_false];unfold qF qH;rw[cond_false,decide_eq_false (show ¬ x ≥ 0 by omega),cond_false];exact qan f a hrel args (k+1) v ha' (by omega) hv
   ·rw[if_neg hq,show ((0 - x) != e)=true from bne_iff_ne.2 hq,cond_true];unfold qF;rw[cond_true,VP (decide_eq_true hv),VP (decide_eq_true ⟨hv,by simp⟩),VP (decide_eq_true hv)];exact⟨_,rfl⟩
  ·rw[decide_eq_false hneg,cond_false,if_neg hneg,decide_eq_true (show x ≥ 0 by omega),cond_true,VP (dec8 (by omega) hx.2),get8 hv (by omega) hx.2];simp only[Option.bind_some]
   have go:qF x v (List.replicate 8 0) e (qH (List.replicate 8 0) (qq f (qB a f) args (k+1))) false=qq f (qB a f) args (k+1) (v.set x.toNat e) (List.replicate 8 0):=by
    unfold qF qH;rw[cond_false,decide_eq_true (show x ≥ 0 by omega),cond_true,VP (dec8 (by omega) hx.2),VP (decide_eq_true (by omega)),Nat.zero_add,Nat.mul_one]
   have hrec:=qan f a hrel args (k+1) (v.set x.toNat e) ha' (by omega) (by rw[List.length_set,hv])
   by_cases hz:v.getD x.toNat 0=0
   ·rw[show (v.getD x.toNat 0 != 0)=false by simp only[hz,bne_self_eq_false],cond_false,go,if_neg (fun h=>h.1 hz)];exact hrec
   ·rw[show (v.getD x.toNat 0 != 0)=true from bne_iff_ne.2 hz,cond_true,VP (dec8 (by omega) hx.2)]
    by_cases hq:v.getD x.toNat 0=e
    ·rw[show (v.getD x.toNat 0 != e)=false by simp only[hq,bne_self_eq_false],go,if_neg (fun h=>h.2 hq)];exact hrec
    ·rw[show (v.getD x.toNat 0 != e)=true from bne_iff_ne.2 hq,if_pos ⟨hz,hq⟩];unfold qF;rw[cond_true,VP (decide_eq_true hv),VP (decide_eq_true ⟨hv,by simp⟩),VP (decide_eq_true hv)];exact⟨_,rfl⟩
theorem qge {f:rufact} {a:ql} (hrel:a.qb=f.qn) {v:List Int} (hv:v.length=8) (ha:arg7 a.qa) (hl:a.qa.length≤2) :
  ∃ p,JM v a f=some p∧(p.2=true↔(fitA v a.qa [f.f_a,f.f_b]).isSome=true)∧∀ u,fitA v a.qa [f.f_a,f.f_b]=some u→p.1=u:=by
 have h:=qan f a (by simp[hrel]) a.qa 0 v ha (by omega) hv
 have e:JM v a f=qq f (qB a f) a.qa 0 v (List.replicate 8 0):=by
  unfold JM;rw[VP (by cases v <;> simp_all),VP (jk (by omega))]
 rw[List.drop_zero]at h;rw[e]
 cases hf:fitA v a.qa [f.f_a,f.f_b] with
 | some u =>
  rw[hf]at h;exact⟨_,h,by simp,fun w hw=>by cases hw;rfl⟩
 | none =>
  rw[hf]at h;obtain⟨u,hu⟩:=h;exact⟨_,hu,by simp,fun w hw=>by cases hw⟩
def groundA (v args:List Int):List Int:=args.map fun x=>if x<0 then 0 - x else v.getD x.toNat 0
def mkF (rel:Int) (g:List Int):rufact:=⟨rel,g.getD 0 0,g.getD 1 0⟩
def groundF (v:List Int) (a:ql):rufact:=mkF a.qb (groundA v a.qa)
theorem Dg {v:List Int} (hv:v.length=8) {a:ql} (ha:arg7 a.qa) (hl:a.qa.length≤2):jh v a=some (groundF v a):=by
 have step:∀ (x:Int) (r:List Int) (k:Nat) (w:List Int) (K:List Int→Option rufact),-6≤x∧x≤7→k<2→w.length=2→qI v K (x::r) k w=qI v K r (k+1) (w.set k (if x<0 then 0 - x else v.getD x.toNat 0)):=by
  intro x r k w K hx hk hw;rw[qI]
  by_cases hneg:x<0
  ·rw[decide_eq_true hneg,cond_true,if_pos hneg,VP (decide_eq_true ⟨by omega,by omega,by omega⟩),VP (decide_eq_true (by simp;omega)),wrap64 (by omega) (by omega)];unfold Ji
   simp
  ·rw[decide_eq_false hneg,cond_false,if_neg hneg,VP (dec8 (by omega) hx.2),get8 hv (by omega) hx.2];simp only[Option.bind_some];rw[VP (decide_eq_true ⟨by omega,by omega,by omega⟩),VP (decide_eq_true (by simp;omega))];unfold Ji
   simp
 unfold jh;rw[VP (by cases v <;> simp_all),VP (jk (by omega))];obtain⟨rel,args⟩:=a;simp only at ha hl
 match args,ha,hl with
 | [],_,_=>rfl
 | [x],ha,_ =>
  show qI v _ [x] 0 (List.replicate 2 0)=_;rw[step x [] 0 _ _ (ha x (by simp)) (by omega) (by simp)];rfl
 | [x,y],ha,_ =>
  show qI v _ [x,y] 0 (List.replicate 2 0)=_;rw[step x [y] 0 _ _ (ha x (by simp)) (by omega) (by simp),step y [] 1 _ _ (ha y (by simp)) (by omega) (by simp)];rfl
 | x::y::z::r,_,hl=>simp at hl
end Go.AM
