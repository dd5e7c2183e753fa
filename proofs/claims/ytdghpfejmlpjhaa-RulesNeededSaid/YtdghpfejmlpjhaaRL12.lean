/- s -/
import Derived.Test.YtdghpfejmlpjhaaRL10
set_option maxRecDepth 100000
set_option linter.unusedVariables false
set_option linter.unusedSimpArgs false
namespace Go.AM
open Go.Proofs
open Classical
def V8 (v:List Int):Prop:=v.length=8∧∀ i,0≤v.getD i 0∧v.getD i 0≤6
def es16 (es:List Int):Prop:=∀ e,e∈es→1≤e∧e≤6
def bnd (w args:List Int):Prop:=∀ x,x∈args→0≤x→w.getD x.toNat 0≠0
theorem Dm {f:rufact} (h:okU1 f):es16 (argsF f):=by
 have:=h.a1;have:=h.a6;have:=h.b0;have:=h.b6;unfold argsF
 split
 ·intro e he;simp at he;subst he;omega
 ·intro e he;simp only[List.mem_cons,List.not_mem_nil,or_false]at he
  rcases he with rfl | rfl <;> omega
theorem qaQ {v:List Int} (n i:Nat) (e:Int) (h:n<v.length):(v.set n e).getD i 0=if i=n then e else v.getD i 0:=by
 simp only[List.getD_eq_getElem?_getD]
 by_cases hi:i=n
 ·subst hi;rw[List.getElem?_set_self h,if_pos rfl];rfl
 ·rw[List.getElem?_set_ne (fun q=>hi q.symm),if_neg hi]
theorem VE:∀ {xs es v u:List Int},fitA v xs es=some u→V8 v→arg7 xs→es16 es→V8 u∧(∀ i,v.getD i 0≠0→u.getD i 0≠0)∧bnd u xs
 | [],es,v,u,h,hv,_,_=>by
  rw[fitA]at h;cases h;exact⟨hv,fun i hi=>hi,fun x hx=>by simp at hx⟩
 | x::xs,[],v,u,h,_,_,_=>by cases h
 | x::xs,e::es,v,u,h,hv,ha,he=>by
  have hx:=ha x (List.mem_cons_self ..)
  have ha':arg7 xs:=fun y hy=>ha y (List.mem_cons_of_mem _ hy)
  have h1:=he e (List.mem_cons_self ..)
  have he':es16 es:=fun y hy=>he y (List.mem_cons_of_mem _ hy)
  unfold fitA at h
  split at h
  ·rename_i hneg
   split at h
   ·obtain⟨a,b,c⟩:=VE h hv ha' he';refine⟨a,b,fun y hy h0=>?_⟩
    rcases List.mem_cons.1 hy with rfl | hy
    ·omega
    ·exact c y hy h0
   ·cases h
  ·rename_i hneg
   split at h
   ·cases h
   ·have hlt:x.toNat<v.length:=by rw[hv.1];omega
    have hv':V8 (v.set x.toNat e):=⟨by rw[List.length_set,hv.1],fun i=>by
     rw[qaQ _ _ _ hlt];have:=hv.2 i
     split <;> omega⟩
    obtain⟨a,b,c⟩:=VE h hv' ha' he'
    have hq:∀ i,v.getD i 0≠0→(v.set x.toNat e).getD i 0≠0:=fun i hi=>by
     rw[qaQ _ _ _ hlt]
     split
     ·omega
     ·exact hi
    refine⟨a,fun i hi=>b i (hq i hi),fun y hy h0=>?_⟩
    rcases List.mem_cons.1 hy with rfl | hy
    ·exact b _ (by rw[qaQ _ _ _ hlt,if_pos rfl];omega)
    ·exact c y hy h0
def okW (P:rufact→Prop):Prop:=∀ g,P g→okU1 g
theorem Us {P:rufact→Prop} (hP:okW P):∀ {body:List ruLit} {v w:List Int},InstP P body v w→V8 v→(∀ x,x∈body→arg7 x.qe.qa)→V8 w∧(∀ i,v.getD i 0≠0→w.getD i 0≠0)∧∀ x,x∈body→x.qn=false→bnd w x.qe.qa
 | [],v,w,h,hv,_=>by
  have h:w=v:=h;subst h;exact⟨hv,fun i hi=>hi,fun x hx=>by simp at hx⟩
 | x::body,v,w,h,hv,ha=>by
  have ha':∀ y,y∈body→arg7 y.qe.qa:=fun y hy=>ha y (List.mem_cons_of_mem _ hy)
  rcases h with ⟨hn,h⟩ | ⟨hn,g,u,hg,h1,h2,h3,h4⟩
  ·obtain⟨a,b,c⟩:=Us hP h hv ha';refine⟨a,b,fun y hy h0=>?_⟩
   rcases List.mem_cons.1 hy with rfl | hy
   ·rw[hn]at h0;cases h0
   ·exact c y hy h0
  ·obtain⟨a1,b1,c1⟩:=VE h3 hv (ha x (List.mem_cons_self ..)) (Dm (hP g hg));obtain⟨a,b,c⟩:=Us hP h4 a1 ha';refine⟨a,fun i hi=>b i (b1 i hi),fun y hy h0=>?_⟩
   rcases List.mem_cons.1 hy with rfl | hy
   ·exact fun z hz h0=>b _ (c1 z hz h0)
   ·exact c y hy h0
theorem ZI {P Q:rufact→Prop} (h:∀ g,P g→Q g):∀ {body:List ruLit} {v w:List Int},InstP P body v w→InstP Q body v w
 | [],v,w,hi=>hi
 | x::body,v,w,hi=>by
  rcases hi with ⟨hn,hi⟩ | ⟨hn,g,u,hg,h1,h2,h3,h4⟩
  ·exact .inl ⟨hn,ZI h hi⟩
  ·exact .inr ⟨hn,g,u,h g hg,h1,h2,h3,ZI h h4⟩
theorem qdv {w args:List Int} (hw:V8 w) (ha:arg7 args) (hb:bnd w args):es16 (groundA w args):=by
 intro e he;unfold groundA at he;obtain⟨x,hx,rfl⟩:=List.mem_map.1 he;have:=ha x hx
 split
 ·omega
 ·have h1:=hb x hx (by omega);have h2:=hw.2 x.toNat;omega
theorem qfO {rel:Int} (hr:rel6 rel):∀ {g:List Int},(1≤g.length∧g.length≤2)→es16 g→okU1 (mkF rel g)∧argsF (mkF rel g)=g
 | [],h,_=>by simp at h
 | [a],_,h=>by
  have h1:=h a (by simp);exact⟨⟨hr.1,hr.2,h1.1,h1.2,(show (0:Int)≤0 by decide),(show (0:Int)≤6 by decide)⟩,rfl⟩
 | [a,b],_,h=>by
  have h1:=h a (by simp);have h2:=h b (by simp);refine⟨⟨hr.1,hr.2,h1.1,h1.2,(show 0≤b by omega),h2.2⟩,?_⟩;show (if b=0 then [a] else [a,b])=[a,b];rw[if_neg (by omega)]
 | a::b::c::r,h,_=>by simp at h
theorem Yo {rel:Int} {args:List Int} (h:fitP rel args):arg7 args:=h.2.2
theorem XF {rel:Int} {args:List Int} (h:fitP rel args):rel6 rel:=h.1
theorem qdu {w:List Int} {a:qj} (hw:V8 w) (ha:fitP a.qb a.qa) (hb:bnd w a.qa):okU1 (groundF w a)∧argsF (groundF w a)=groundA w a.qa∧(groundF w a).ql=a.qb:=by
 have h:=qfO (XF ha) (g:=groundA w a.qa) (by unfold groundA;rw[List.length_map];exact ha.2.1) (qdv hw (Yo ha) hb);exact⟨h.1,h.2,rfl⟩
def FreeP (N:rufact→Prop) (w:List Int) (body:List ruLit):Prop:=∀ x,x∈body→x.qn=true→¬ N (groundF w x.qe)
theorem ZO {i:Int} (h1 : -1000≤i) (h2:i≤1000):wfI .i64 i=true:=by
 unfold wfI Lit.wf
 simp[IntKind.min,IntKind.max,IntKind.signed,IntKind.bits]
 omega
theorem qaj {w:List Int} (hw:V8 w) {a:qj} (ha:fitP a.qb a.qa):wfF (groundF w a)=true:=by
 have hr:=XF ha
 have hA:∀ e,e∈groundA w a.qa→0≤e∧e≤6:=fun e he=>by
  unfold groundA at he;obtain⟨x,hx,rfl⟩:=List.mem_map.1 he;have:=Yo ha x hx;have:=hw.2 x.toNat
  split <;> omega
 have hg:∀ i,0≤(groundA w a.qa).getD i 0∧(groundA w a.qa).getD i 0≤6:=fun i=>by
  rw[List.getD_eq_getElem?_getD]
  cases hi:(groundA w a.qa)[i]? with
  | none=>exact⟨by decide,by decide⟩
  | some e=>exact hA e (List.mem_of_getElem? hi)
 have h0:=hg 0;have h1:=hg 1;have:=hr.1;have:=hr.2;unfold wfF
 have wf:∀ n:Int,0≤n→n≤6→wfI .i64 n=true:=fun n a b=>by
  exact ZO (by omega) (by omega)
 show (wfI .i64 a.qb && wfI .i64 ((groundA w a.qa).getD 0 0) && wfI .i64 ((groundA w a.qa).getD 1 0))=true;rw[wf _ (by omega) (by omega),wf _ h0.1 h0.2,wf _ h1.1 h1.2];rfl
theorem qal {no:List (rufact×Bool)} (hno:NT no) {w:List Int} (hw:V8 w):∀ (body:List ruLit),(∀ x,x∈body→fitP x.qe.qb x.qe.qa)→freeP no w body=some (decide (FreeP (fun g=>g∈no.map Prod.fst) w body))
 | [],_=>by unfold freeP;rw[decide_eq_true (show FreeP _ _ _ from fun x hx=>by simp at hx)]
 | x::body,h=>by
  have ih:=qal hno hw body fun y hy=>h y (List.mem_cons_of_mem _ hy)
  have hx:=h x (List.mem_cons_self ..)
  have hc:FreeP (fun g=>g∈no.map Prod.fst) w (x::body)↔(x.qn=true→groundF w x.qe ∉ no.map Prod.fst)∧FreeP (fun g=>g∈no.map Prod.fst) w body:=by
   unfold FreeP;simp only[List.mem_cons,forall_eq_or_imp]
  unfold freeP
  cases hn:x.qn with
  | false =>
   rw[cond_false,ih]
   congr 1
   refine decide_eq_decide.2 ?_;rw[hc];exact⟨fun q=>⟨fun h=>(by rw[hn]at h;cases h),q⟩,fun q=>q.2⟩
  | true =>
   rw[cond_true,NM hw.1 (Yo hx) hx.2.1.2];simp only[Option.bind_some];rw[ZJ (qaj hw hx)]
   by_cases hm:groundF w x.qe∈no.map Prod.fst
   ·rw[(NT.mget hno.t _).2 hm,cond_true,decide_eq_false (fun q=>(hc.1 q).1 hn hm)]
   ·rw[show mget qp false (groundF w x.qe) no=false by
     rw[← Bool.not_eq_true];exact fun q=>hm ((NT.mget hno.t _).1 q),cond_false,ih]
    congr 1
    refine decide_eq_decide.2 ?_;rw[hc];exact⟨fun q=>⟨fun _=>hm,q⟩,fun q=>q.2⟩
theorem qdB {xs:List Int}:∀ {es fs v:List Int},xs.length=es.length→fitA v xs (es++fs)=fitA v xs es:=by
 induction xs with
 | nil=>intro es fs v h;rw[fitA,fitA]
 | cons x xs ih =>
  intro es fs v h
  cases es with
  | nil=>cases h
  | cons e es =>
   rw[List.cons_append];unfold fitA
   have h:xs.length=es.length:=by simpa using h
   simp only[ih h]
theorem qgN {f:rufact} {v args:List Int} (h:(argsF f).length=args.length):fitA v args [f.f_a,f.f_b]=fitA v args (argsF f):=by
 unfold argsF at h ⊢
 split
 ·rename_i hb;rw[if_pos hb]at h;exact qdB (es:=[f.f_a]) (fs:=[f.f_b]) (by simpa using h.symm)
 ·rfl
theorem qci {k:List Int→Option (List (List Int))} {a:qj} (ha:arg7 a.qa) (hl:a.qa.length≤2) {v:List Int} (hv:V8 v) {B:Nat} {Q:List Int→List Int→Prop} (hk:∀ u,V8 u→∃ d,k u=some d∧d.length≤B∧∀ w,w∈d↔Q u w):∀ (gs:List rufact),(∀ g,g∈gs→okU1 g∧g.ql=a.qb∧(argsF g).length=a.qa.length) →
  ∃ o,fitL k a v gs=some o∧o.length≤gs.length * B∧∀ w,w∈o↔∃ g u,g∈gs∧fitA v a.qa (argsF g)=some u∧Q u w
 | [],_=>⟨[],rfl,by simp,fun w=>by simp⟩
 | g::gs,h=>by
  obtain⟨o,h1,h2,h3⟩:=qci ha hl hv hk gs fun q hq=>h q (List.mem_cons_of_mem _ hq)
  obtain⟨g1,g2,g3⟩:=h g (List.mem_cons_self ..);obtain⟨p,p1,p2,p3⟩:=qeU (f:=g) (a:=a) g2.symm hv.1 ha hl;rw[qgN g3]at p2 p3;unfold fitL;rw[p1];simp only[Option.bind_some]
  cases hf:fitA v a.qa (argsF g) with
  | none =>
   have:p.2=false:=by rw[← Bool.not_eq_true,p2,hf];simp
   rw[this,cond_false];simp only[Option.bind_some];rw[h1];simp only[Option.bind_some];refine⟨_,rfl,by simp only[List.nil_append,List.length_cons,Nat.succ_mul];omega,fun w=>?_⟩;rw[List.nil_append,h3]
   constructor
   ·rintro⟨q,u,hq,r⟩;exact⟨q,u,List.mem_cons_of_mem _ hq,r⟩
   ·rintro⟨q,u,hq,r1,r2⟩
    rcases List.mem_cons.1 hq with rfl | hq
    ·rw[hf]at r1;cases r1
    ·exact⟨q,u,hq,r1,r2⟩
  | some u =>
   have:p.2=true:=by rw[p2,hf];rfl
   rw[this,cond_true,p3 u hf];obtain⟨hu,_,_⟩:=VE hf hv ha (Dm g1);obtain⟨d,d1,d2,d3⟩:=hk u hu;rw[d1];simp only[Option.bind_some];rw[h1];simp only[Option.bind_some];refine⟨_,rfl,by rw[List.length_append,List.length_cons,Nat.succ_mul];omega,fun w=>?_⟩;rw[List.mem_append,d3,h3]
   constructor
   ·rintro (q | ⟨q,u',hq,r⟩)
    ·exact⟨g,u,List.mem_cons_self ..,hf,q⟩
    ·exact⟨q,u',List.mem_cons_of_mem _ hq,r⟩
   ·rintro⟨q,u',hq,r1,r2⟩
    rcases List.mem_cons.1 hq with rfl | hq
    ·rw[hf]at r1;cases r1;exact .inl r2
    ·exact .inr ⟨q,u',hq,r1,r2⟩
def arW (ar:Int→Nat) (P:rufact→Prop):Prop:=∀ g,P g→okU1 g∧(argsF g).length=ar g.ql
theorem qbv {ar:Int→Nat} {no:List (rufact×Bool)} (hno:NT no) {bl:List (Int×List rufact)} {fs:List rufact} (hfs:fs.length≤252) (har:arW ar fun g=>g∈fs) (hbl:∀ rel,mget keq1 [] rel bl=fs.filter fun f=>f.ql == rel) {all:List ruLit} (hall:∀ x,x∈all→fitP x.qe.qb x.qe.qa):∀ (body:List ruLit) (v:List Int),(∀ x,x∈body→fitP x.qe.qb x.qe.qa∧x.qe.qa.length=ar x.qe.qb)→V8 v →
  ∃ d,tryP all no bl body v=some d∧d.length≤252 ^ body.length∧∀ w,w∈d↔InstP (fun g=>g∈fs) body v w∧FreeP (fun g=>g∈no.map Prod.fst) w all
 | [],v,_,hv=>by
  unfold tryP;rw[qal hno hv all hall];simp only[Option.bind_some];refine⟨_,rfl,?_,fun w=>?_⟩
  ·by_cases hq:FreeP (fun g=>g∈no.map Prod.fst) v all
   ·rw[decide_eq_true hq];simp
   ·rw[decide_eq_false hq];simp
  ·show _↔w=v∧_
   by_cases hq:FreeP (fun g=>g∈no.map Prod.fst) v all
   ·rw[decide_eq_true hq,cond_true,List.mem_singleton];exact⟨fun h=>⟨h,by rw[h];exact hq⟩,fun h=>h.1⟩
   ·rw[decide_eq_false hq,cond_false];exact⟨fun h=>by simp at h,fun h=>absurd (h.1 ▸ h.2) hq⟩
 | x::body,v,h,hv=>by
  have hx:=h x (List.mem_cons_self ..)
  have ih:=fun u hu=>qbv hno hfs har hbl hall body u (fun y hy=>h y (List.mem_cons_of_mem _ hy)) hu
  unfold tryP
  cases hn:x.qn with
  | true =>
   rw[cond_true];obtain⟨d,d1,d2,d3⟩:=ih v hv;refine⟨d,d1,by rw[List.length_cons,Nat.pow_succ];omega,fun w=>?_⟩;rw[d3,InstP.eq_2];simp only[hn,true_and,Bool.true_eq_false,false_and,or_false]
  | false =>
   have hr:=XF hx.1;rw[cond_false,ZJ (ZO (by have:=hr.1;omega) (by have:=hr.2;omega)),hbl]
   obtain⟨o,o1,o2,o3⟩:=qci (k:=tryP all no bl body) (Yo hx.1) hx.1.2.1.2 hv (B:=252 ^ body.length) (Q:=fun u w=>InstP (fun g=>g∈fs) body u w∧FreeP (fun g=>g∈no.map Prod.fst) w all) ih (fs.filter fun f=>f.ql == x.qe.qb) (fun g hg=>by
    obtain⟨g1,g2⟩:=List.mem_filter.1 hg
    have g2:g.ql=x.qe.qb:=by simpa using g2
    obtain⟨g3,g4⟩:=har g g1
    exact⟨g3,g2,by rw[g4,g2,hx.2]⟩)
   refine⟨o,o1,?_,fun w=>?_⟩
   ·rw[List.length_cons,Nat.pow_succ,Nat.mul_comm];have:(fs.filter fun f=>f.ql == x.qe.qb).length≤252:=Nat.le_trans (List.length_filter_le ..) hfs;exact Nat.le_trans o2 (Nat.mul_le_mul_right _ this)
   ·rw[o3]
    have ei:InstP (fun g=>g∈fs) (x::body) v w↔∃ g u,g∈fs∧g.ql=x.qe.qb∧(argsF g).length=x.qe.qa.length∧fitA v x.qe.qa (argsF g)=some u∧InstP (fun g=>g∈fs) body u w:=by
     rw[InstP.eq_2]
     simp[hn]
    rw[ei]
    constructor
    ·rintro⟨g,u,hg,h1,h2,h3⟩
     obtain⟨g1,g2⟩:=List.mem_filter.1 hg
     have g2:g.ql=x.qe.qb:=by simpa using g2
     exact⟨⟨g,u,g1,g2,by rw[(har g g1).2,g2,hx.2],h1,h2⟩,h3⟩
    ·rintro⟨⟨g,u,g1,g2,g3,h1,h2⟩,h3⟩
     exact⟨g,u,List.mem_filter.2 ⟨g1,by simp[g2]⟩,h1,h2,h3⟩
end Go.AM
namespace Go.AM
open Go.Proofs
open Classical
abbrev v0:List Int:=List.replicate 8 0
theorem V8_0:V8 v0:=⟨by simp,fun i=>by
 rw[List.getD_eq_getElem?_getD,List.getElem?_replicate]
 split <;> simp⟩
def ClosedR (L:List ruRule) (N X:rufact→Prop):Prop:=∀ r,r∈L→∀ w,InstP X r.qd v0 w→FreeP N w r.qd→X (groundF w r.qc)
structure LeastR (L:List ruRule) (N G X:rufact→Prop):Prop where
 sub:∀ g,G g→X g
 closed:ClosedR L N X
 least:∀ Q:rufact→Prop,(∀ g,G g→Q g)→ClosedR L N Q→∀ g,X g→Q g
theorem LeastR.same {L:List ruRule} {N N' G G' X X':rufact→Prop} (h:LeastR L N G X) (h':LeastR L N' G' X') (hN:∀ g,N g↔N' g) (hG:∀ g,G g↔G' g):∀ g,X g↔X' g:=by
 obtain rfl:N=N':=funext fun g=>propext (hN g)
 obtain rfl:G=G':=funext fun g=>propext (hG g)
 exact fun g=>⟨h.least X' h'.sub h'.closed g,h'.least X h.sub h.closed g⟩
def okL (ar:Int→Nat) (r:ruRule):Prop:=okU r∧∀ a,a∈atomsU r→a.qa.length=ar a.qb
theorem okL.body {ar:Int→Nat} {r:ruRule} (h:okL ar r):∀ x,x∈r.qd→fitP x.qe.qb x.qe.qa∧x.qe.qa.length=ar x.qe.qb:=fun x hx =>
 have hm:x.qe∈atomsU r:=List.mem_cons_of_mem _ (List.mem_map.2 ⟨x,hx,rfl⟩)
 ⟨h.1.2.2 _ hm,h.2 _ hm⟩
theorem okL.head {ar:Int→Nat} {r:ruRule} (h:okL ar r):fitP r.qc.qb r.qc.qa∧r.qc.qa.length=ar r.qc.qb :=
 ⟨h.1.2.2 _ (List.mem_cons_self ..),h.2 _ (List.mem_cons_self ..)⟩
theorem okL.inst {ar:Int→Nat} {r:ruRule} (h:okL ar r) {P:rufact→Prop} (hP:okW P) {w:List Int} (hi:InstP P r.qd v0 w):V8 w∧∀ a,a∈atomsU r→bnd w a.qa:=by
 obtain⟨a,b,c⟩:=Us hP hi V8_0 fun x hx=>Yo (h.body x hx).1
 refine⟨a,fun t ht x hx h0=>?_⟩;obtain⟨y,y1,y2,y3⟩:=h.1.2.1 t ht x hx h0;exact c y y1 y2 x y3 h0
theorem okL.ground {ar:Int→Nat} {r:ruRule} (h:okL ar r) {P:rufact→Prop} (hP:okW P) {w:List Int} (hi:InstP P r.qd v0 w):okU1 (groundF w r.qc)∧(argsF (groundF w r.qc)).length=ar (groundF w r.qc).ql:=by
 obtain⟨a,b⟩:=h.inst hP hi;obtain⟨c,d,e⟩:=qdu a h.head.1 (b _ (List.mem_cons_self ..));refine⟨c,?_⟩;rw[d,e];unfold groundA;rw[List.length_map,h.head.2]
theorem arW.ok {ar:Int→Nat} {P:rufact→Prop} (h:arW ar P):okW P:=fun g hg=>(h g hg).1
theorem Ys {fs:List rufact} (hn:fs.Nodup) (ho:∀ g,g∈fs→okU1 g):fs.length≤252:=by
 have:=pig 252 (fs.map codeF) (by
  rw[List.nodup_iff_pairwise_ne,List.pairwise_map];refine List.Pairwise.imp_of_mem ?_ hn;intro a b ha hb hne h
  exact hne (qay (ho a ha) (ho b hb) h)) (fun x hx=>by
   obtain⟨g,hg,rfl⟩:=List.mem_map.1 hx
   exact Df (ho g hg))
 simpa using this
theorem HQ {ar:Int→Nat} {no out:List (rufact×Bool)} (hno:NT no) (hout:NT out) (har:arW ar fun g=>g∈out.map Prod.fst):∀ (L:List ruRule) (acc:List rufact),(∀ r,r∈L→okL ar r)→acc.length+16003008 * L.length≤900000000 →
  ∃ fr,freshL no out L acc=some fr∧∀ f,f∈fr↔f∈acc∨(f ∉ out.map Prod.fst∧∃ r,r∈L∧∃ w,InstP (fun g=>g∈out.map Prod.fst) r.qd v0 w∧FreeP (fun g=>g∈no.map Prod.fst) w r.qd∧f=groundF w r.qc)
 | [],acc,_,_=>⟨acc,rfl,fun f=>by simp⟩
 | r::L,acc,hr,hb=>by
  have h1:=hr r (List.mem_cons_self ..);rw[List.length_cons]at hb
  have hfs:=Ys hout.n fun g hg=>(har g hg).1
  obtain⟨d,d1,d2,d3⟩:=qbv (bl:=byRelL out) hno (by simpa using hfs) har (fun rel=>NE rel out) (all:=r.qd) (fun x hx=>(h1.body x hx).1) r.qd v0 h1.body V8_0
  have hd:d.length≤16003008:=by
   have:252 ^ r.qd.length≤252 ^ 3:=Nat.pow_le_pow_right (by omega) h1.1.1
   have e:252 ^ 3=16003008:=by decide
   omega
  have hg:∀ w,w∈d→qQ w r.qc=some (groundF w r.qc)∧wfF (groundF w r.qc)=true:=fun w hw=>by
   obtain⟨a,_⟩:=h1.inst har.ok ((d3 w).1 hw).1;exact⟨NM a.1 (Yo h1.head.1) h1.head.1.2.1.2,qaj a h1.head.1⟩
  have hh:headOk r.qc d=true:=by
   unfold headOk;rw[List.all_eq_true];intro w hw;obtain⟨a,b⟩:=hg w hw;rw[a];exact b
  have hlen:=Uk out r.qc d;obtain⟨fr,f1,f2⟩:=HQ hno hout har L (acc++headsP out r.qc d) (fun q hq=>hr q (List.mem_cons_of_mem _ hq)) (by rw[List.length_append];omega);refine⟨fr,?_,fun f=>?_⟩
  ·unfold freshL;rw[ZJ (decide_eq_true (by have:=h1.1.1;omega)),d1];simp only[Option.bind_some];rw[ZJ (by rw[hh,decide_eq_true (by omega)];rfl)];exact f1
  ·rw[f2,List.mem_append]
   have hm:f∈headsP out r.qc d↔f ∉ out.map Prod.fst∧∃ w,InstP (fun g=>g∈out.map Prod.fst) r.qd v0 w∧FreeP (fun g=>g∈no.map Prod.fst) w r.qd∧f=groundF w r.qc:=by
    unfold headsP;rw[List.mem_filterMap]
    constructor
    ·rintro⟨w,hw,he⟩
     rw[(hg w hw).1]at he;simp only[Option.bind_some]at he
     split at he
     ·cases he
     ·rename_i hq;cases he;exact⟨fun hm=>hq ((NT.mget hout.t _).2 hm),w,((d3 w).1 hw).1,((d3 w).1 hw).2,rfl⟩
    ·rintro⟨hn,w,h2,h3,rfl⟩
     have hw:=(d3 w).2 ⟨h2,h3⟩;refine⟨w,hw,?_⟩;rw[(hg w hw).1];simp only[Option.bind_some];rw[if_neg (fun q=>hn ((NT.mget hout.t _).1 q))]
   rw[hm]
   constructor
   ·rintro ((h | ⟨hn,w,hw⟩) | ⟨hn,q,hq,hw⟩)
    ·exact .inl h
    ·exact .inr ⟨hn,r,List.mem_cons_self ..,w,hw⟩
    ·exact .inr ⟨hn,q,List.mem_cons_of_mem _ hq,hw⟩
   ·rintro (h | ⟨hn,q,hq,w,hw⟩)
    ·exact .inl (.inl h)
    ·rcases List.mem_cons.1 hq with rfl | hq
     ·exact .inl (.inr ⟨hn,w,hw⟩)
     ·exact .inr ⟨hn,q,hq,w,hw⟩
theorem qax {ar:Int→Nat} {L:List ruRule} (hL:∀ r,r∈L→okL ar r) (hl:L.length≤12) {no:List (rufact×Bool)} (hno:NT no) {G:rufact→Prop}:∀ (n fuel:Nat) (out:List (rufact×Bool)),NT out→arW ar (fun g=>g∈out.map Prod.fst)→253≤out.length+n→n≤fuel→(∀ g,G g→g∈out.map Prod.fst)→(∀ Q:rufact→Prop,(∀ g,G g→Q g)→ClosedR L (fun g=>g∈no.map Prod.fst) Q→∀ g,g∈out.map Prod.fst→Q g) →
  ∃ res,consR L no fuel out=some res∧NT res∧arW ar (fun g=>g∈res.map Prod.fst)∧LeastR L (fun g=>g∈no.map Prod.fst) G (fun g=>g∈res.map Prod.fst)
 | 0,fuel,out,hout,har,hn,hf,hG,hQ=>by
  have:=Ys hout.n fun g hg=>(har g hg).1
  rw[List.length_map]at this;omega
 | n+1,0,out,hout,har,hn,hf,hG,hQ=>by omega
 | n+1,fuel+1,out,hout,har,hn,hf,hG,hQ=>by
  have hsm:=Ys hout.n fun g hg=>(har g hg).1
  rw[List.length_map]at hsm;obtain⟨fr,f1,f2⟩:=HQ hno hout har L [] hL (by simp;omega);unfold consR;rw[ZJ (decide_eq_true (by omega)),f1];simp only[Option.bind_some]
  cases fr with
  | nil =>
   refine⟨out,rfl,hout,har,hG,fun r hr w h1 h2=>?_,hQ⟩
   refine Classical.byContradiction fun hq=>?_
   have:=(f2 (groundF w r.qc)).2 (.inr ⟨hq,r,hr,w,h1,h2,rfl⟩)
   simp at this
  | cons f fr =>
   obtain⟨a1,a2,a3,a4⟩:=hout.add (fr:=f::fr)
   have hmem:∀ g,g∈f::fr→g ∉ out.map Prod.fst∧∃ r,r∈L∧∃ w,InstP (fun g=>g∈out.map Prod.fst) r.qd v0 w∧FreeP (fun g=>g∈no.map Prod.fst) w r.qd∧g=groundF w r.qc:=fun g hg=>by
    rcases (f2 g).1 hg with h | h
    ·simp at h
    ·exact h
   have hgrow:=a4 f (List.mem_cons_self ..) (hmem f (List.mem_cons_self ..)).1
   exact qax hL hl hno n fuel (addF out (f::fr)) a1 (fun g hg=>by
    rcases (a2 g).1 hg with h | h
    ·obtain⟨_,r,hr,w,h1,h2,rfl⟩:=hmem g h;exact (hL r hr).ground har.ok h1
    ·exact har g h) (by omega) (by omega) (fun g hg=>(a2 g).2 (.inr (hG g hg))) (fun Q h1 h2 g hg=>by
    rcases (a2 g).1 hg with h | h
    ·obtain⟨_,r,hr,w,q1,q2,rfl⟩:=hmem g h;exact h2 r hr w (ZI (hQ Q h1 h2) q1) q2
    ·exact hQ Q h1 h2 g h)
theorem okU1.wf {f:rufact} (h:okU1 f):wfF f=true:=by
 have:=h.r0;have:=h.r5;have:=h.a1;have:=h.a6;have:=h.b0;have:=h.b6;unfold wfF;rw[ZO (by omega) (by omega),ZO (by omega) (by omega),ZO (by omega) (by omega)];rfl
theorem qeX {ar:Int→Nat} {L:List ruRule} (hL:∀ r,r∈L→okL ar r) (hl:L.length≤12) {gv no:List (rufact×Bool)} (hgv:NT gv) (hno:NT no) (har:arW ar (fun g=>g∈gv.map Prod.fst)) {fuel:Nat} (hf:253≤fuel) :
  ∃ res,consP fuel L gv no=some res∧NT res∧arW ar (fun g=>g∈res.map Prod.fst)∧LeastR L (fun g=>g∈no.map Prod.fst) (fun g=>g∈gv.map Prod.fst) (fun g=>g∈res.map Prod.fst):=by
 have hsm:=Ys hgv.n fun g hg=>(har g hg).1
 rw[List.length_map]at hsm;obtain⟨a1,a2,a3,a4⟩:=NT.empty.add (fr:=gv.map Prod.fst)
 have hm:∀ g,g∈(addF [] (gv.map Prod.fst)).map Prod.fst↔g∈gv.map Prod.fst:=fun g=>by rw[a2];simp
 unfold consP
 rw[ZJ (by
  rw[Bool.and_eq_true,List.all_eq_true,decide_eq_true_eq]
  exact⟨fun p hp=>(har p.1 (List.mem_map.2 ⟨p,hp,rfl⟩)).1.wf,by omega,by omega⟩)]
 exact qax hL hl hno 253 fuel _ a1 (fun g hg=>har g ((hm g).1 hg)) (by omega) hf (fun g hg=>(hm g).2 hg) (fun Q h1 h2 g hg=>h1 g ((hm g).1 hg))
end Go.AM
