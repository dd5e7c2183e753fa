/- s -/
import Derived.Test.YtdghpfejmlpjhaaRL10
set_option maxRecDepth 100000
set_option linter.unusedVariables false
set_option linter.unusedSimpArgs false
namespace Go.AM
open Go.Proofs
open Classical
def V8 (v:List Int):Prop:=v.length=8∧∀ i,0≤v.getD i 0∧v.getD i 0≤6
def es16 (es:List Int):Prop:=∀ e,e∈es→1≤e∧e≤6
def bnd (w args:List Int):Prop:=∀ x,x∈args→0≤x→w.getD x.toNat 0≠0
theorem HJ {f:rufact} (h:okU1 f):es16 (argsF f):=by
 have:=h.a1;have:=h.a6;have:=h.b0;have:=h.b6;unfold argsF
 split
 ·intro e he;simp at he;subst he;omega
 ·intro e he;simp only[List.mem_cons,List.not_mem_nil,or_false]at he
  rcases he with rfl | rfl <;> omega
theorem qat {v:List Int} (n i:Nat) (e:Int) (h:n<v.length):(v.set n e).getD i 0=if i=n then e else v.getD i 0:=by
 simp only[List.getD_eq_getElem?_getD]
 by_cases hi:i=n
 ·subst hi;rw[List.getElem?_set_self h,if_pos rfl];rfl
 ·rw[List.getElem?_set_ne (fun q=>hi q.symm),if_neg hi]
theorem Vs:∀ {xs es v u:List Int},fitA v xs es=some u→V8 v→arg7 xs→es16 es→V8 u∧(∀ i,v.getD i 0≠0→u.getD i 0≠0)∧bnd u xs
 | [],es,v,u,h,hv,_,_=>by
  rw[fitA]at h;cases h;exact⟨hv,fun i hi=>hi,fun x hx=>by simp at hx⟩
 | x::xs,[],v,u,h,_,_,_=>by cases h
 | x::xs,e::es,v,u,h,hv,ha,he=>by
  have hx:=ha x (List.mem_cons_self ..)
  have ha':arg7 xs:=fun y hy=>ha y (List.mem_cons_of_mem _ hy)
  have h1:=he e (List.mem_cons_self ..)
  have he':es16 es:=fun y hy=>he y (List.mem_cons_of_mem _ hy)
  unfold fitA at h
  split at h
  ·rename_i hneg
   split at h
   ·obtain⟨a,b,c⟩:=Vs h hv ha' he';refine⟨a,b,fun y hy h0=>?_⟩
    rcases List.mem_cons.1 hy with rfl | hy
    ·omega
    ·exact c y hy h0
   ·cases h
  ·rename_i hneg
   split at h
   ·cases h
   ·have hlt:x.toNat<v.length:=by rw[hv.1];omega
    have hv':V8 (v.set x.toNat e):=⟨by rw[List.length_set,hv.1],fun i=>by
     rw[qat _ _ _ hlt];have:=hv.2 i
     split <;> omega⟩
    obtain⟨a,b,c⟩:=Vs h hv' ha' he'
    have hq:∀ i,v.getD i 0≠0→(v.set x.toNat e).getD i 0≠0:=fun i hi=>by
     rw[qat _ _ _ hlt]
     split
     ·omega
     ·exact hi
    refine⟨a,fun i hi=>b i (hq i hi),fun y hy h0=>?_⟩
    rcases List.mem_cons.1 hy with rfl | hy
    ·exact b _ (by rw[qat _ _ _ hlt,if_pos rfl];omega)
    ·exact c y hy h0
def okW (P:rufact→Prop):Prop:=∀ g,P g→okU1 g
theorem VY {P:rufact→Prop} (hP:okW P):∀ {body:List ruLit} {v w:List Int},InstP P body v w→V8 v→(∀ x,x∈body→arg7 x.qd.qa)→V8 w∧(∀ i,v.getD i 0≠0→w.getD i 0≠0)∧∀ x,x∈body→x.qp=false→bnd w x.qd.qa
 | [],v,w,h,hv,_=>by
  have h:w=v:=h;subst h;exact⟨hv,fun i hi=>hi,fun x hx=>by simp at hx⟩
 | x::body,v,w,h,hv,ha=>by
  have ha':∀ y,y∈body→arg7 y.qd.qa:=fun y hy=>ha y (List.mem_cons_of_mem _ hy)
  rcases h with ⟨hn,h⟩ | ⟨hn,g,u,hg,h1,h2,h3,h4⟩
  ·obtain⟨a,b,c⟩:=VY hP h hv ha';refine⟨a,b,fun y hy h0=>?_⟩
   rcases List.mem_cons.1 hy with rfl | hy
   ·rw[hn]at h0;cases h0
   ·exact c y hy h0
  ·obtain⟨a1,b1,c1⟩:=Vs h3 hv (ha x (List.mem_cons_self ..)) (HJ (hP g hg));obtain⟨a,b,c⟩:=VY hP h4 a1 ha';refine⟨a,fun i hi=>b i (b1 i hi),fun y hy h0=>?_⟩
   rcases List.mem_cons.1 hy with rfl | hy
   ·exact fun z hz h0=>b _ (c1 z hz h0)
   ·exact c y hy h0
theorem VZ {P Q:rufact→Prop} (h:∀ g,P g→Q g):∀ {body:List ruLit} {v w:List Int},InstP P body v w→InstP Q body v w
 | [],v,w,hi=>hi
 | x::body,v,w,hi=>by
  rcases hi with ⟨hn,hi⟩ | ⟨hn,g,u,hg,h1,h2,h3,h4⟩
  ·exact .inl ⟨hn,VZ h hi⟩
  ·exact .inr ⟨hn,g,u,h g hg,h1,h2,h3,VZ h h4⟩
theorem qcW {w args:List Int} (hw:V8 w) (ha:arg7 args) (hb:bnd w args):es16 (groundA w args):=by
 intro e he;unfold groundA at he;obtain⟨x,hx,rfl⟩:=List.mem_map.1 he;have:=ha x hx
 split
 ·omega
 ·have h1:=hb x hx (by omega);have h2:=hw.2 x.toNat;omega
theorem qeX {rel:Int} (hr:rel6 rel):∀ {g:List Int},(1≤g.length∧g.length≤2)→es16 g→okU1 (mkF rel g)∧argsF (mkF rel g)=g
 | [],h,_=>by simp at h
 | [a],_,h=>by
  have h1:=h a (by simp);exact⟨⟨hr.1,hr.2,h1.1,h1.2,(show (0:Int)≤0 by decide),(show (0:Int)≤6 by decide)⟩,rfl⟩
 | [a,b],_,h=>by
  have h1:=h a (by simp);have h2:=h b (by simp);refine⟨⟨hr.1,hr.2,h1.1,h1.2,(show 0≤b by omega),h2.2⟩,?_⟩;show (if b=0 then [a] else [a,b])=[a,b];rw[if_neg (by omega)]
 | a::b::c::r,h,_=>by simp at h
theorem Yl {rel:Int} {args:List Int} (h:fitP rel args):arg7 args:=h.2.2
theorem Zk {rel:Int} {args:List Int} (h:fitP rel args):rel6 rel:=h.1
theorem qcV {w:List Int} {a:qj} (hw:V8 w) (ha:fitP a.qb a.qa) (hb:bnd w a.qa):okU1 (groundF w a)∧argsF (groundF w a)=groundA w a.qa∧(groundF w a).qo=a.qb:=by
 have h:=qeX (Zk ha) (g:=groundA w a.qa) (by unfold groundA;rw[List.length_map];exact ha.2.1) (qcW hw (Yl ha) hb);exact⟨h.1,h.2,rfl⟩
def FreeP (N:rufact→Prop) (w:List Int) (body:List ruLit):Prop:=∀ x,x∈body→x.qp=true→¬ N (groundF w x.qd)
theorem ZG {i:Int} (h1 : -1000≤i) (h2:i≤1000):wfI .i64 i=true:=by
 unfold wfI Lit.wf
 simp[IntKind.min,IntKind.max,IntKind.signed,IntKind.bits]
 omega
theorem DM {w:List Int} (hw:V8 w) {a:qj} (ha:fitP a.qb a.qa):wfF (groundF w a)=true:=by
 have hr:=Zk ha
 have hA:∀ e,e∈groundA w a.qa→0≤e∧e≤6:=fun e he=>by
  unfold groundA at he;obtain⟨x,hx,rfl⟩:=List.mem_map.1 he;have:=Yl ha x hx;have:=hw.2 x.toNat
  split <;> omega
 have hg:∀ i,0≤(groundA w a.qa).getD i 0∧(groundA w a.qa).getD i 0≤6:=fun i=>by
  rw[List.getD_eq_getElem?_getD]
  cases hi:(groundA w a.qa)[i]? with
  | none=>exact⟨by decide,by decide⟩
  | some e=>exact hA e (List.mem_of_getElem? hi)
 have h0:=hg 0;have h1:=hg 1;have:=hr.1;have:=hr.2;unfold wfF
 have wf:∀ n:Int,0≤n→n≤6→wfI .i64 n=true:=fun n a b=>by
  exact ZG (by omega) (by omega)
 show (wfI .i64 a.qb && wfI .i64 ((groundA w a.qa).getD 0 0) && wfI .i64 ((groundA w a.qa).getD 1 0))=true;rw[wf _ (by omega) (by omega),wf _ h0.1 h0.2,wf _ h1.1 h1.2];rfl
theorem DP {no:List (rufact×Bool)} (hno:NT no) {w:List Int} (hw:V8 w):∀ (body:List ruLit),(∀ x,x∈body→fitP x.qd.qb x.qd.qa)→freeP no w body=some (decide (FreeP (fun g=>g∈no.map Prod.fst) w body))
 | [],_=>by unfold freeP;rw[decide_eq_true (show FreeP _ _ _ from fun x hx=>by simp at hx)]
 | x::body,h=>by
  have ih:=DP hno hw body fun y hy=>h y (List.mem_cons_of_mem _ hy)
  have hx:=h x (List.mem_cons_self ..)
  have hc:FreeP (fun g=>g∈no.map Prod.fst) w (x::body)↔(x.qp=true→groundF w x.qd ∉ no.map Prod.fst)∧FreeP (fun g=>g∈no.map Prod.fst) w body:=by
   unfold FreeP;simp only[List.mem_cons,forall_eq_or_imp]
  unfold freeP
  cases hn:x.qp with
  | false =>
   rw[cond_false,ih]
   congr 1
   refine decide_eq_decide.2 ?_;rw[hc];exact⟨fun q=>⟨fun h=>(by rw[hn]at h;cases h),q⟩,fun q=>q.2⟩
  | true =>
   rw[cond_true,Nl hw.1 (Yl hx) hx.2.1.2];simp only[Option.bind_some];rw[ZC (DM hw hx)]
   by_cases hm:groundF w x.qd∈no.map Prod.fst
   ·rw[(NT.mget hno.t _).2 hm,cond_true,decide_eq_false (fun q=>(hc.1 q).1 hn hm)]
   ·rw[show mget qq false (groundF w x.qd) no=false by
     rw[← Bool.not_eq_true];exact fun q=>hm ((NT.mget hno.t _).1 q),cond_false,ih]
    congr 1
    refine decide_eq_decide.2 ?_;rw[hc];exact⟨fun q=>⟨fun _=>hm,q⟩,fun q=>q.2⟩
theorem qdb {xs:List Int}:∀ {es fs v:List Int},xs.length=es.length→fitA v xs (es++fs)=fitA v xs es:=by
 induction xs with
 | nil=>intro es fs v h;rw[fitA,fitA]
 | cons x xs ih =>
  intro es fs v h
  cases es with
  | nil=>cases h
  | cons e es =>
   rw[List.cons_append];unfold fitA
   have h:xs.length=es.length:=by simpa using h
   simp only[ih h]
theorem qfS {f:rufact} {v args:List Int} (h:(argsF f).length=args.length):fitA v args [f.f_a,f.f_b]=fitA v args (argsF f):=by
 unfold argsF at h ⊢
 split
 ·rename_i hb;rw[if_pos hb]at h;exact qdb (es:=[f.f_a]) (fs:=[f.f_b]) (by simpa using h.symm)
 ·rfl
theorem qbL {k:List Int→Option (List (List Int))} {a:qj} (ha:arg7 a.qa) (hl:a.qa.length≤2) {v:List Int} (hv:V8 v) {B:Nat} {Q:List Int→List Int→Prop} (hk:∀ u,V8 u→∃ d,k u=some d∧d.length≤B∧∀ w,w∈d↔Q u w):∀ (gs:List rufact),(∀ g,g∈gs→okU1 g∧g.qo=a.qb∧(argsF g).length=a.qa.length) →
  ∃ o,fitL k a v gs=some o∧o.length≤gs.length * B∧∀ w,w∈o↔∃ g u,g∈gs∧fitA v a.qa (argsF g)=some u∧Q u w
 | [],_=>⟨[],rfl,by simp,fun w=>by simp⟩
 | g::gs,h=>by
  obtain⟨o,h1,h2,h3⟩:=qbL ha hl hv hk gs fun q hq=>h q (List.mem_cons_of_mem _ hq)
  obtain⟨g1,g2,g3⟩:=h g (List.mem_cons_self ..);obtain⟨p,p1,p2,p3⟩:=qei (f:=g) (a:=a) g2.symm hv.1 ha hl;rw[qfS g3]at p2 p3;unfold fitL;rw[p1];simp only[Option.bind_some]
  cases hf:fitA v a.qa (argsF g) with
  | none =>
   have:p.2=false:=by rw[← Bool.not_eq_true,p2,hf];simp
   rw[this,cond_false];simp only[Option.bind_some];rw[h1];simp only[Option.bind_some];refine⟨_,rfl,by simp only[List.nil_append,List.length_cons,Nat.succ_mul];omega,fun w=>?_⟩;rw[List.nil_append,h3]
   constructor
   ·rintro⟨q,u,hq,r⟩;exact⟨q,u,List.mem_cons_of_mem _ hq,r⟩
   ·rintro⟨q,u,hq,r1,r2⟩
    rcases List.mem_cons.1 hq with rfl | hq
    ·rw[hf]at r1;cases r1
    ·exact⟨q,u,hq,r1,r2⟩
  | some u =>
   have:p.2=true:=by rw[p2,hf];rfl
   rw[this,cond_true,p3 u hf];obtain⟨hu,_,_⟩:=Vs hf hv ha (HJ g1);obtain⟨d,d1,d2,d3⟩:=hk u hu;rw[d1];simp only[Option.bind_some];rw[h1];simp only[Option.bind_some];refine⟨_,rfl,by rw[List.length_append,List.length_cons,Nat.succ_mul];omega,fun w=>?_⟩;rw[List.mem_append,d3,h3]
   constructor
   ·rintro (q | ⟨q,u',hq,r⟩)
    ·exact⟨g,u,List.mem_cons_self ..,hf,q⟩
    ·exact⟨q,u',List.mem_cons_of_mem _ hq,r⟩
   ·rintro⟨q,u',hq,r1,r2⟩
    rcases List.mem_cons.1 hq with rfl | hq
    ·rw[hf]at r1;cases r1;exact .inl r2
    ·exact .inr ⟨q,u',hq,r1,r2⟩
def arW (ar:Int→Nat) (P:rufact→Prop):Prop:=∀ g,P g→okU1 g∧(argsF g).length=ar g.qo
theorem qbe {ar:Int→Nat} {no:List (rufact×Bool)} (hno:NT no) {bl:List (Int×List rufact)} {fs:List rufact} (hfs:fs.length≤252) (har:arW ar fun g=>g∈fs) (hbl:∀ rel,mget keq1 [] rel bl=fs.filter fun f=>f.qo == rel) {all:List ruLit} (hall:∀ x,x∈all→fitP x.qd.qb x.qd.qa):∀ (body:List ruLit) (v:List Int),(∀ x,x∈body→fitP x.qd.qb x.qd.qa∧x.qd.qa.length=ar x.qd.qb)→V8 v →
  ∃ d,tryP all no bl body v=some d∧d.length≤252 ^ body.length∧∀ w,w∈d↔InstP (fun g=>g∈fs) body v w∧FreeP (fun g=>g∈no.map Prod.fst) w all
 | [],v,_,hv=>by
  unfold tryP;rw[DP hno hv all hall];simp only[Option.bind_some];refine⟨_,rfl,?_,fun w=>?_⟩
  ·by_cases hq:FreeP (fun g=>g∈no.map Prod.fst) v all
   ·rw[decide_eq_true hq];simp
   ·rw[decide_eq_false hq];simp
  ·show _↔w=v∧_
   by_cases hq:FreeP (fun g=>g∈no.map Prod.fst) v all
   ·rw[decide_eq_true hq,cond_true,List.mem_singleton];exact⟨fun h=>⟨h,by rw[h];exact hq⟩,fun h=>h.1⟩
   ·rw[decide_eq_false hq,cond_false];exact⟨fun h=>by simp at h,fun h=>absurd (h.1 ▸ h.2) hq⟩
 | x::body,v,h,hv=>by
  have hx:=h x (List.mem_cons_self ..)
  have ih:=fun u hu=>qbe hno hfs har hbl hall body u (fun y hy=>h y (List.mem_cons_of_mem _ hy)) hu
  unfold tryP
  cases hn:x.qp with
  | true =>
   rw[cond_true];obtain⟨d,d1,d2,d3⟩:=ih v hv;refine⟨d,d1,by rw[List.length_cons,Nat.pow_succ];omega,fun w=>?_⟩;rw[d3,InstP.eq_2];simp only[hn,true_and,Bool.true_eq_false,false_and,or_false]
  | false =>
   have hr:=Zk hx.1;rw[cond_false,ZC (ZG (by have:=hr.1;omega) (by have:=hr.2;omega)),hbl]
   obtain⟨o,o1,o2,o3⟩:=qbL (k:=tryP all no bl body) (Yl hx.1) hx.1.2.1.2 hv (B:=252 ^ body.length) (Q:=fun u w=>InstP (fun g=>g∈fs) body u w∧FreeP (fun g=>g∈no.map Prod.fst) w all) ih (fs.filter fun f=>f.qo == x.qd.qb) (fun g hg=>by
    obtain⟨g1,g2⟩:=List.mem_filter.1 hg
    have g2:g.qo=x.qd.qb:=by simpa using g2
    obtain⟨g3,g4⟩:=har g g1
    exact⟨g3,g2,by rw[g4,g2,hx.2]⟩)
   refine⟨o,o1,?_,fun w=>?_⟩
   ·rw[List.length_cons,Nat.pow_succ,Nat.mul_comm];have:(fs.filter fun f=>f.qo == x.qd.qb).length≤252:=Nat.le_trans (List.length_filter_le ..) hfs;exact Nat.le_trans o2 (Nat.mul_le_mul_right _ this)
   ·rw[o3]
    have ei:InstP (fun g=>g∈fs) (x::body) v w↔∃ g u,g∈fs∧g.qo=x.qd.qb∧(argsF g).length=x.qd.qa.length∧fitA v x.qd.qa (argsF g)=some u∧InstP (fun g=>g∈fs) body u w:=by
     rw[InstP.eq_2]
     simp[hn]
    rw[ei]
    constructor
    ·rintro⟨g,u,hg,h1,h2,h3⟩
     obtain⟨g1,g2⟩:=List.mem_filter.1 hg
     have g2:g.qo=x.qd.qb:=by simpa using g2
     exact⟨⟨g,u,g1,g2,by rw[(har g g1).2,g2,hx.2],h1,h2⟩,h3⟩
    ·rintro⟨⟨g,u,g1,g2,g3,h1,h2⟩,h3⟩
     exact⟨g,u,List.mem_filter.2 ⟨g1,by simp[g2]⟩,h1,h2,h3⟩
end Go.AM
