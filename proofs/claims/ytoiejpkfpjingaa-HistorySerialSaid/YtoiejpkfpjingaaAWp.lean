import Derived.Test.YtoiejpkfpjingaaASimX
import Derived.Still
import Derived.Test.YtoiejpkfpjingaaASimG
set_option linter.all false
set_option maxRecDepth 100000
open Nat renaming ble→A0, beq→A2, le_refl→A6, zero_add→A7, eq_of_beq_eq_true→C4
open List renaming map→A1, getElem?_map→A4, drop_drop→A5, all_eq_true→A8, length→A9, mem_of_getElem?→B5, getElem?_append_left→C7, getElem?_append_right→C8, mem_of_mem_drop→D0
open Bool renaming and_eq_true→A3, noConfusion→B7
open Option renaming map_some→B6, map_eq_some_iff→B9
open Go.IntKind renaming wrap→C5
open Go.World renaming grownBy_alloc→C6
namespace Go.AM
open Go.RowKit
section
variable {bs:Base} {n:Nat} {M:Mem} {O:Gh} {env:Env} {a:Act} {w:World} {P:Program}
theorem qfO {d:Nat} {x:AV} (h:x.hasLab d=false) {c:Nat} (hc:x.lab? = some c):c≠d:=by
 intro e;subst e;simp[AV.hasLab,hc]at h
theorem Inv.clearOwn (h:Inv bs n M O env a w) {d:Nat} (hn:labIn d env=false):Inv bs n M (setO O false d none) env a w:=by
 have hsub:∀ i c g,(setO O false d none) i c=some g→O i c=some g:=by
  intro i c g hg;rw[Jw]at hg;split at hg
  ·cases hg
  ·exact hg
 refine⟨h.size,h.defers,h.below,h.hB,h.cons,h.ext,h.old,fun i c g hg=>h.own i c g (hsub i c g hg),fun i i' c c' g h1 h2=>h.inj i i' c c' g (hsub _ _ _ h1) (hsub _ _ _ h2),⟨h.fix.1,fun c k1 k2=>?_⟩,fun t x hx=>?_⟩
 ·obtain⟨e1,e2,e3⟩:=h.fix.2 c k1 k2;exact⟨(JL O d none c).1.trans e1,e2,e3⟩
 have hs:=h.slots t x hx;have hl:=UN hn hx
 have hf:∀ c,c≠d→(setO O false d none) false c=O false c:=fun c hc=>by simp[Jw,hc]
 cases x with
 | box cs =>
  refine BoxOk.change hs (Sub.refl M) (fun g hg=>⟨by rw[(JL O d none t).1];exact hg,rfl,fun _ hm=>hm⟩) fun c g z hz hzl hg=>⟨?_,rfl,fun _ hm=>hm⟩
  simp only[AV.hasLabB,List.any_eq_false]at hl;have:=hl z hz;rw[hf c (qfO (by simpa using this) hzl)];exact hg
 | obj e k xs=>exact ObjOk.change hs (Sub.refl M) (JL O d none t) fun g _=>⟨rfl,fun _ hm=>hm⟩
 | hob kd ks vs=>exact HobOk.change hs (Sub.refl M) (JL O d none t) fun g _=>⟨rfl,fun _ hm=>hm⟩
 | bxg cs=>exact BxgOk.change hs (Sub.refl M) (JL O d none t) (fun s _=>JL O d none s) fun g _=>⟨rfl,fun _ hm=>hm⟩
 | _ =>
  refine XX ((Vk rfl hs).change (Sub.refl M) (fun s _=>JL O d none s) fun c g hc hg=>⟨?_,rfl,fun _ hm=>hm⟩);rw[hf c fun e=>by subst e;rw[hl]at hc;cases hc];exact hg
theorem Inv.putFresh (h:Inv bs n M O env a w) {d e k g off cap:Nat} {xs:List AV} {cur:Array Value} {v:Value} (hdn:d<n) (hn:labIn d env=false) (hR:R M (.lst e k none xs) v)
  (hv:(∃ ad,v=.slice ad 0 0)∨(v=.slice (some ⟨g,off,none⟩) xs.length cap∧¬ bs.D g∧(∀ i c,O i c≠some g)∧w.heap[g]? = some (.cells cur e (0,0))∧cur.size=off+cap * k∧xs.length≤cap∧cap≤maxLen∧∀ o,off+xs.length * k≤o→M g o=none)) :
  ∃ O',Inv bs n M O' (ins d (.lst e k (some d) xs) env) (a.put (some d) v) w:=by
 have h1:=h.clearOwn hn
 rcases hv with ⟨ad,rfl⟩ | ⟨rfl,hB,hO,hg,hs,hc,hm,hM⟩
 ·exact⟨_,h1.put hdn ⟨hR.setLab,.inl ⟨ad,rfl⟩⟩⟩
 ·have h2:=h1.setOwn (d:=d) (g:=g) hn (by simp[Jw]) (fun i c hc'=>by
   rw[Jw]at hc';split at hc'
   ·cases hc'
   ·exact hO i c hc') hB (Array.getElem?_eq_some_iff.1 hg).1
  exact⟨_,h2.put hdn ⟨hR.setLab,.inr ⟨g,off,cap,cur,rfl,by simp[Jw],hg,hs,hc,hm,hM⟩⟩⟩
theorem Hf (h:Inv bs n M O env a w) {o:Oper} {t m:Nat} {ps:Array (Nat×Operand)} (ho:o.op=.buildSlice t m ps) {env':Env} (he:astep P n o env=some env'):Leads P bs n o a w env':=by
 have hsave:=he;unfold astep at he;rw[ho]at he;simp only at he;split at he
 case h_2=>cases he
 rename_i v hv;unfold fresh at he;split at he
 ·rename_i e k xs t' hd;split at he
  ·exact Vr h hv he
  ·rename_i hlab;rw[hd]at he;obtain⟨hdn,rfl⟩:=ZA he;unfold apure at hv;rw[ho]at hv;simp only at hv;split at hv
   case h_2=>cases hv
   rename_i l hl;obtain⟨e1,k1,xs1,us,e2,h1,h2,h3,h4⟩:=XK (P:=P) h ho hl hv;cases e2;have h':=h.grown (row:=none) (fun g e=>by cases e) (C6 w (.cells us e) none) (Zp h.cons us) (Ub h.cons us e) (fun b o hb _=>VC us b o hb);have hBle:¬ bs.D w.heap.size:=h.fresh (A6 _)
   obtain⟨O',hfin⟩:=h'.putFresh (d:=t') (g:=w.heap.size) (off:=0) (cap:=xs.length) (cur:=us) hdn hlab h3 (.inr ⟨rfl,hBle,fun i c hc=>by have:=(h.own i c _ hc).2;omega,heap_alloc_new w _,by rw[A7];exact h2,A6 _,by unfold maxLen;omega,fun o ho=>by
    unfold addRow;rw[if_pos rfl];rw[A7]at ho;unfold cellsAt
    simp[h2,ho]⟩)
   exact⟨_,_,_,O',.inl h1,by rw[hd];exact hfin⟩
 ·rename_i hno;exact Vr h hv he
theorem qgG {M M':Mem} {x:AV} {v:Value} (hs:x.scalar=true) (h:R M x v):R M' x v:=by
 cases x with
 | int k m=>rw[h.int_inv];exact .int _ _
 | bool b=>rw[h.bool_inv];exact .bool _
 | str s=>rw[h.str_inv];exact .str _
 | _=>cases hs
theorem qdZ {x:AV} (hs:x.scalar=true):x.one=true:=by
 cases x <;> first | rfl | cases hs
theorem qeI (h:Inv bs n M O env a w) {o:Oper} {env':Env} (he:aagr P n o env=some env'):Leads P bs n o a w env':=by
 unfold aagr at he;split at he
 case h_2=>cases he
 rename_i t ps ho;split at he
 case h_2=>cases he
 rename_i d l hd hl;split at he
 case h_2=>cases he
 rename_i v hv;obtain⟨u,h1,h2⟩:=UB h ho hl hv;exact⟨u,w,M,O,.inl h1,Yr h h2 he⟩
theorem qeE (h:Inv bs n M O env a w) {o:Oper} {env':Env} (he:arow P n o env=some env'):Leads P bs n o a w env':=by
 unfold arow at he;split at he
 case h_2=>cases he
 rename_i t m ps ho;split at he
 case h_2=>cases he
 rename_i d e k xs hd hv;split at he
 case h_2=>cases he
 rename_i hc;simp only[A3,A8]at hc;obtain⟨⟨hcl,hk⟩,hx⟩:=hc;have hk:0<k:=Nat.le_of_ble_eq_true hk;rw[B9]at he;obtain⟨env1,he1,rfl⟩:=he;rw[hd]at he1;obtain⟨hdn,rfl,hdent⟩:=Zz he1;unfold apure at hv;rw[ho]at hv;simp only at hv;split at hv
 case h_2=>cases hv
 rename_i l hl;obtain⟨e1,k1,xs1,us,e2,h1,h2,h3,h4⟩:=XK (P:=P) h ho hl hv;cases e2
 have hlen:∀ x,x∈xs→x.cells.length=k:=fun x hxm=>C4 (hx x hxm).1
 have h':=h.grown (row:=none) (fun g e=>by cases e) (C6 w (.cells us e) none) (Sub.refl M) (YF h.cons _) (fun b o _ _=>rfl);obtain⟨O',hfin⟩:=h'.newRow (d:=d) (e:=e) (k:=k) (cap:=xs.length) (g:=w.heap.size) (xs:=xs) (v:=.slice (some ⟨w.heap.size,0,none⟩) xs.length xs.length) (cur:=us) hdn hdent hcl hk
  (fun x hxm=>⟨hlen x hxm,by
   rw[A8];intro c hcm
   exact qdZ ((hx x hxm).2 c hcm)⟩)
  (.inr ⟨rfl,h.fresh (A6 _),by simp,fun i c hg=>by have:=(h.own i c _ hg).2;omega,heap_alloc_new w _,h2,A6 _,by unfold maxLen;omega,fun o=>Xg h.cons (A6 _) o,fun j c u hj hu=>by
   have hsc:c.scalar=true:=by
    have hm:=B5 hj;unfold flat at hm;obtain⟨x,hxm,hcm⟩:=List.mem_flatMap.1 hm;exact (hx x hxm).2 c hcm
   cases hxs:xs with
   | nil=>rw[hxs]at hj;cases hj
   | cons x0 r0 =>
    generalize hv0:Value.slice (some ⟨w.heap.size,0,none⟩) xs.length xs.length=v0 at h3
    cases h3 with
    | lstn=>cases hv0
    | lste=>rw[hxs]at hv0;cases hv0
    | lst us' g1 g2 g5 g3 g4 =>
     injection hv0 with q1 q2 q3
     injection q1 with q1
     injection q1 with q4 q5
     subst q4;subst q5;have b1:=g3 j c hj;have b2:=g4 j c hj;unfold addRow at b1;rw[if_pos rfl,A7]at b1;have b1:=(YY b1).1;rw[hu]at b1;rw[Option.some.inj b1]
     exact qgG hsc b2⟩)
 refine⟨_,_,M,O',.inl h1,?_⟩;rw[hd];exact hfin
theorem HT (h:Inv bs n M O env a w) {o:Oper} {env':Env} (he:astep P n o env=some env'):Leads P bs n o a w env':=by
 obtain⟨dst,op,ty,pos,after,guard⟩:=o
 have pure:(match apure P ⟨dst,op,ty,pos,after,guard⟩ env with | some v=>eput n dst v env | none=>none)=some env'→Leads P bs n ⟨dst,op,ty,pos,after,guard⟩ a w env':=by
  intro hp;split at hp
  ·rename_i v hv;exact Vr h hv hp
  ·cases hp
 cases op with
 | alloc t=>exact qdK h rfl he
 | box t x=>exact qgk h rfl he
 | store t p x=>exact qcD h rfl he
 | buildSlice t m ps=>exact Hf h rfl he
 | makeSlice t l c=>exact Dg h rfl he
 | makeMap t r =>
  cases r with
  | none=>exact qax h rfl he
  | some r=>exact pure he
 | range t x=>exact qcU h rfl he
 | mapUpdate t m k v=>exact Df h rfl he
 | call c =>
  obtain⟨callee,args,ats⟩:=c
  cases callee with
  | value f=>exact pure he
  | invoke r m=>exact pure he
  | builtin b =>
   cases b
   case append=>exact qcz h rfl he
   all_goals exact pure he
 | _=>exact pure he
def OwnR (M:Mem) (B:Nat) (w:World) (x:AV) (v:Value):Prop :=
 match x with
 | .lst e k (some _) xs=>(∃ ad,v=.slice ad 0 0)∨∃ g off cap cur,v=.slice (some ⟨g,off,none⟩) xs.length cap∧B≤g∧w.heap[g]? = some (.cells cur e (0,0))∧cur.size=off+cap * k∧xs.length≤cap∧cap≤maxLen∧∀ o,off+xs.length * k≤o→M g o=none
 | _=>True
def CallOk (P:Program) (f:Nat) (args:List AV) (r:AV):Prop :=
 ∀ (M:Mem) (w:World) (vs:List Value),Glob M→Cons M w→args.length=vs.length→(∀ (j:Nat) c v,args[j]? = some c→vs[j]? = some v→R M c v) →
  Calls P f vs.toArray w fun e w'=>∃ v M',e=.returned v∧Below w.heap.size w w'∧Sub M M'∧Cons M' w'∧(∀ b o,b<w.heap.size→M' b o=M b o)∧R M' r v∧OwnR M' w.heap.size w' r v
def CallMOk (P:Program) (f:Nat) (args:List AV) (hp:Env) (r:AV) (hp':Env):Prop :=
 ∀ (M:Mem) (O:Gh) (w:World) (vs:List Value),Glob M→Cons M w→args.length=vs.length→(∀ i c g,O i c=some g→i=true∧g<w.heap.size)→(∀ c c' g,O true c=some g→O true c'=some g→c=c') →
  (∀ (j:Nat) c v,args[j]? = some c→vs[j]? = some v→ValOk O M w c.strip v)→(∀ id x,look hp id=some x→Sat O M w id x undef) →
  Calls P f vs.toArray w fun e w'=>∃ v M' O',e=.returned v∧BelowD (fun k=>k<w.heap.size∧∀ c,O true c≠some k) w w'∧Sub M M'∧Cons M' w'∧(∀ b o,b<w.heap.size→(∀ c,O true c≠some b)→M' b o=M b o) ∧
   (∀ i c g,O' i c=some g→g<w'.heap.size∧(w.heap.size≤g∨∃ c',O true c'=some g))∧(∀ i i' c c' g,O' i c=some g→O' i' c'=some g→i=i'∧c=c')∧(∀ c,2000000≤c→c<3000000→Gh.Eq1 O O' c) ∧
   ValOk O' M' w' r v∧∀ id x,look hp' id=some x→Sat O' M' w' id x undef
theorem HQ {w w':World} (h:Below w.heap.size w w'):w.grownBy w' none:=⟨h.os,h.tape,h.output,h.size,fun k hk _=>h.block k hk⟩
theorem VZ (h : Inv bs n M O env a w) {o : Oper} {fo : Operand} {as : Array Operand} {ats : Array TypeId} (ho : o.op = .call { callee := .value fo, args := as, argTypes := ats }) {g : Nat} {caps l : List AV} (hf : aop env fo = some (.clo g caps)) (hl : optAll (as.toList.map (aop env)) = some l) {fn : Func} (hfn : P.funcs[g]? = some fn) (hb1 : (fn.name != "runtime.NumGoroutine") = true) (hb2 : fn.body.isSome = true) :
  ∃ us cvs:List Value,(execOp a.eval o).run P w=.ok (.enter g (us++cvs).toArray) w∧l.length=us.length∧(∀ (j:Nat) c v,l[j]? = some c→us[j]? = some v→ValOk O M w c v)∧caps.length=cvs.length∧∀ (j:Nat) c v,caps[j]? = some c→cvs[j]? = some v→R M c v:=by
 have hfv:=(qD h hf).1
 obtain⟨cvs,e1,e2,e3⟩:∃ cvs:List Value,a.eval fo=.func (.func g) #[] cvs.toArray∧caps.length=cvs.length∧∀ (j:Nat) c v,caps[j]? = some c→cvs[j]? = some v→R M c v:=by
  generalize a.eval fo=y at hfv
  cases hfv with
  | clo h1 h2=>exact⟨_,rfl,h1,h2⟩
 obtain⟨l1,l2⟩:=UV h hl;refine⟨as.toList.map a.eval,cvs,?_,l1,l2,e2,e3⟩;unfold execOp;rw[ho];simp only[resolve,Sem.run_bind,e1,Deferred.ofValue,Sem.run_pure,Result.andThen_ok,invoke];unfold callFunc
 have hne : (fn.name == "runtime.NumGoroutine") = false := by simpa [bne] using hb1
 simp only[Sem.run_bind,run_program,Result.andThen_ok,hfn,hne,Bool.false_eq_true,if_false]
 have:fn.body.isNone=false:=by
  cases hbd:fn.body with
  | none=>rw[hbd]at hb2;cases hb2
  | some c=>rfl
 rw[this];simp only[Bool.false_eq_true,if_false,Sem.run_pure]
 congr 2
 apply Array.ext';simp
theorem Ue {Q:AV→Value→Prop} {l caps:List AV} {us cvs:List Value} (hlen:l.length=us.length) (h1:∀ (j:Nat) c v,l[j]? = some c→us[j]? = some v→Q c v) (h2:∀ (j:Nat) c v,caps[j]? = some c→cvs[j]? = some v→Q c v) :
  ∀ (j:Nat) c v,(l++caps)[j]? = some c→(us++cvs)[j]? = some v→Q c v:=by
 intro j c v hc hv;by_cases hj:j<l.length
 ·rw[C7 hj]at hc;rw[C7 (by rw[← hlen];exact hj)]at hv;exact h1 j c v hc hv
 ·rw[C8 (Nat.le_of_not_lt hj)]at hc;rw[C8 (by rw[← hlen];exact Nat.le_of_not_lt hj),← hlen]at hv;exact h2 _ c v hc hv
theorem qcv (h:Inv bs n M O env a w) {o:Oper} {f:Nat} {args:List AV} (hc:acallee P o env=some (f,args)) :
  ∃ vs:List Value,(execOp a.eval o).run P w=.ok (.enter f vs.toArray) w∧args.length=vs.length∧∀ (j:Nat) c v,args[j]? = some c→vs[j]? = some v→R M c v:=by
 unfold acallee at hc;split at hc
 case h_2=>cases hc
 rename_i fo as ats ho;split at hc
 case h_2=>cases hc
 rename_i g caps l hf hl;split at hc
 case h_2=>cases hc
 rename_i fn hfn;split at hc
 case h_2=>cases hc
 rename_i hb;cases hc;simp only[A3]at hb;obtain⟨⟨hb1,hb2⟩,hb3⟩:=hb;obtain⟨us,cvs,h1,h2,h3,h4,h5⟩:=VZ h ho hf hl hfn hb1 hb2;refine⟨us++cvs,h1,by simp;omega,Ue (by simpa using h2) (fun j c v hc hv=>?_) h5⟩;rw[A4]at hc
 cases hz:l[j]? with
 | none=>rw[hz]at hc;cases hc
 | some z =>
  rw[hz]at hc;cases hc;have:=h3 j z v hz hv;simp only[A8]at hb3;have hz3:=hb3 z (B5 hz);refine (this.r (fun s=>?_) (fun _ _ e=>by subst e;cases hz3) fun _ e=>by subst e;cases hz3).strip
  cases z <;> first | rfl | cases hz3
def memX (M:Mem) (O:Gh) (env:Env) (w:World):Mem:=fun b o=>mc w b o
theorem XR (h:Inv bs n M O env a w):Sub M (memX M O env w):=fun b o u hu=>h.cons b o u hu
theorem qfR (h:Inv bs n M O env a w):Cons (memX M O env w) w:=fun b o u hu=>hu
theorem qeN (h:Inv bs n M O env a w) {id e e' k off m:Nat} {xs:List AV} {v:Value} (hx:SbOk O id k off m v) (hl:look env id=some (.obj e' k xs)):R (memX M O env w) (.lst e k none (snapA off m xs)) v:=by
 obtain⟨h0,h3,h4,h5⟩:=h.slots id _ hl;obtain⟨q1,q2⟩:=hx
 have hlen:(snapA off m xs).length=m:=by unfold snapA;simp;omega
 have hsub:∀ y,y∈snapA off m xs→y∈xs:=fun y hy=>D0 (List.mem_of_mem_take hy)
 rcases q2 with ⟨rfl,ad,rfl⟩ | ⟨g,cap,rfl,k1,k2,k3,k4⟩
 ·have:snapA off 0 xs=[]:=by simp[snapA]
  rw[this]
  cases ad with
  | none=>exact .lstn _ _ _
  | some ad=>exact .lste _ _ _ _ _
 ·rcases h5 with ⟨rfl,hn⟩ | ⟨g',cur,f1,f2,f3,f4,f5,f6⟩
  ·rw[hn]at k1;cases k1
  have:g'=g:=by rw[f1]at k1;exact Option.some.inj k1
  subst this
  have hty:∀ y,y∈xs→y.cells.length=k:=fun y hy=>(h3 y hy).1
  have hcell:∀ (j:Nat) c,(flat (snapA off m xs))[j]? = some c→cur[off * k+j]? = some (cur.getD (off * k+j) undef)∧R M c (cur.getD (off * k+j) undef):=by
   intro j c hj
   have hj2:(flat xs)[off * k+j]? = some c:=by
    unfold snapA at hj;rw[YC (k:=k) m (fun y hy=>hty y (D0 hy)),YD off hty,List.getElem?_take]at hj;split at hj
    ·rw[List.getElem?_drop]at hj;exact hj
    ·cases hj
   have hlt:=(List.getElem?_eq_some_iff.1 hj2).1;rw[Jc hty]at hlt
   have e1:cur[off * k+j]? = some (cur.getD (off * k+j) undef):=by
    have:off * k+j<cur.size:=by omega
    simp[this]
   exact⟨e1,f6 _ _ _ hj2 e1⟩
  have:=R.lst (M:=memX M O env w) (e:=e) (k:=k) (l:=none) (xs:=snapA off m xs) (b:=g') (off:=off * k) (cap:=cap) (fun j=>cur.getD (off * k+j) undef) (by rw[hlen];exact k3) (fun y hy=>hty y (hsub y hy)) (fun y hy=>(h3 y (hsub y hy)).2)
   (fun j c hj=>by
    unfold memX;rw[mcRowAt f2]
    exact JQ (hcell j c hj).1 (XJ ((hcell j c hj).2.one (Vc (fun y hy=>(h3 y (hsub y hy)).2) hj)))) (fun j c hj=>(hcell j c hj).2.mono (XR h))
  rw[hlen]at this;exact this
theorem qdE (h:Inv bs n M O env a w) {s g:Nat} {cs:List AV} (hl:look env s=some (.box cs)) (hO:O true s=some g) {y:AV} (hy:y.cells=cs.map AV.strip):R (memX M O env w) (.ptr y) (.pointer (some ⟨g,0,none⟩)):=by
 obtain⟨cur,el,h1,h2,h3,h4⟩:=Vf h hl hO
 have hcell:∀ (j:Nat) c,y.cells[j]? = some c→cur[j]? = some (cur.getD j undef)∧R M c (cur.getD j undef)∧isTup (cur.getD j undef)=false:=by
  intro j c hc;rw[hy,A4]at hc
  cases hz:cs[j]? with
  | none=>rw[hz]at hc;cases hc
  | some z =>
   rw[hz]at hc;cases hc;obtain⟨q1,q2,q3,_⟩:=h4 j z hz
   have hj:j<cur.size:=by rw[h2];exact (List.getElem?_eq_some_iff.1 hz).1
   exact⟨by simp[hj],q3.strip,XJ (q3.one q2)⟩
 refine R.ptr (fun j=>cur.getD j undef) (fun j c hc=>?_) (fun j c hc=>(hcell j c hc).2.1.mono (XR h)) fun j c hc=>(hcell j c hc).2.2
 unfold memX;rw[mcRow h1,A7];exact JQ (hcell j c hc).1 (hcell j c hc).2.2
theorem qgU (h:Inv bs n M O env a w) {id g:Nat} {ks vs:List AV} (hl:look env id=some (.hob 0 ks vs)) (h1:O true id=some g):R (memX M O env w) (.mpv ks vs) (.map (some g)):=by
 obtain⟨g',k1,k2,es,clock,k3,k4⟩:=h.slots id _ hl
 have:g'=g:=by rw[k1]at h1;exact Option.some.inj h1
 subst this;obtain⟨q1,q2,q3,q4,q5,q6⟩:=k4
 exact .mpv (Uo k3) q1 q2 q3 q4 q5 fun j v e hv he=>(q6 j v e hv he).mono (XR h)
theorem qeD {z c:AV} (h:asnapC env z=some c):c.one=true:=by
 unfold asnapC at h;split at h
 ·split at h
  ·cases h;rfl
  ·cases h
 ·split at h
  ·split at h
   ·cases h;rfl
   ·cases h
  ·cases h
 ·split at h
  ·rename_i h1;cases h;exact Xa h1
  ·cases h
theorem NE (h:Inv bs n M O env a w) {t:Nat} {x y:AV} {v:Value} (hx:CellR O M t x v) (hs:asnapC env x=some y):R (memX M O env w) y v:=by
 unfold asnapC at hs;split at hs
 ·rename_i id;split at hs
  case h_2=>cases hs
  rename_i ks vs hl;cases hs;obtain⟨_,g,h1,h2⟩:=hx;rw[h2];exact qgU h hl h1
 ·rename_i id e k off m;split at hs
  case h_2=>cases hs
  rename_i e' k2 xs hl;split at hs
  case h_2=>cases hs
  rename_i hk;have hk:=C4 hk;subst hk;cases hs;exact qeN h hx hl
 ·split at hs
  ·rename_i h1;cases hs;exact (hx.to_r h1).mono (XR h)
  ·cases hs
theorem ND (h:Inv bs n M O env a w) {x y:AV} {v:Value} (hx:CapOk O M x v) (hs:asnapP env x=some y):R (memX M O env w) y v:=by
 unfold asnapP at hs;split at hs
 ·cases hs;exact R.mono (XR h) hx
 ·rename_i s;obtain⟨g,h1,h2⟩:=hx;subst h1;split at hs
  ·rename_i c hl;cases hs;refine qdE h hl h2 ?_;obtain⟨cur,el,k1,k2,k3,k4⟩:=Vf h hl h2;have:=(k4 0 c rfl).2.1;rw[YH (Xa this)];rfl
  ·rename_i cs _ hl;cases hs;exact qdE h hl h2 rfl
  ·rename_i cs hl;obtain⟨g',cur,el,k1,k2,k3,k4,k5,k6⟩:=h.slots s _ hl
   have:g'=g:=by rw[k2]at h2;exact Option.some.inj h2
   subst this
   have key:∀ (l:List AV) (y:AV),optAll (cs.map (asnapC env))=some l→y.cells=l→R (memX M O env w) (.ptr y) (.pointer (some ⟨g',0,none⟩)):=by
    intro l y hl' hy;have hsp:=Jk hl'
    have hlen:cs.length=l.length:=by simpa using congrArg A9 hsp
    have hcell:∀ (j:Nat) c,y.cells[j]? = some c→cur[j]? = some (cur.getD j undef)∧R (memX M O env w) c (cur.getD j undef)∧isTup (cur.getD j undef)=false:=by
     intro j c hc;rw[hy]at hc;have hjj:=congrArg (fun q=>q[j]?) hsp;simp only[A4,hc,B6]at hjj
     cases hz:cs[j]? with
     | none=>rw[hz]at hjj;cases hjj
     | some z =>
      rw[hz]at hjj;have hz2:asnapC env z=some c:=Option.some.inj hjj
      have hj:j<cur.size:=by rw[k4];exact (List.getElem?_eq_some_iff.1 hz).1
      have e:cur[j]? = some (cur.getD j undef):=by simp[hj]
      have q:=k6 j z _ hz e;exact⟨e,NE h q hz2,XJ q.one⟩
    refine R.ptr (fun j=>cur.getD j undef) (fun j c hc=>?_) (fun j c hc=>(hcell j c hc).2.1) fun j c hc=>(hcell j c hc).2.2
    unfold memX;rw[mcRow k3,A7];exact JQ (hcell j c hc).1 (hcell j c hc).2.2
   split at hs
   ·rename_i c hl';cases hs;refine key [c] c hl' ?_;have hsp:=Jk hl';have h0:=congrArg (fun q=>q[0]?) hsp
    cases hc0:cs[0]? with
    | none=>simp[hc0]at h0
    | some z =>
     simp[hc0]at h0;exact YH (qeD h0)
   ·rename_i l _ hl';cases hs;exact key l _ hl' rfl
   ·cases hs
  ·cases hs
 ·cases hs
theorem qdH (h:Inv bs n M O env a w) {x y:AV} {v:Value} (hx:ValOk O M w x v) (hs:asnap env x=some y):R (memX M O env w) y v:=by
 cases x with
 | sb id e k off m =>
  simp only[asnap]at hs;split at hs
  case h_2=>cases hs
  rename_i e' k2 xs hl;split at hs
  case h_2=>cases hs
  rename_i hk;have hk:=C4 hk;subst hk;cases hs;exact qeN h hx hl
 | mb kd id =>
  cases kd with
  | succ kd=>simp[asnap]at hs
  | zero =>
   simp only[asnap]at hs;split at hs
   case h_2=>cases hs
   rename_i ks vs hl;cases hs;obtain⟨g,h1,h2⟩:=hx;obtain⟨g',k1,k2,es,clock,k3,k4⟩:=h.slots id _ hl
   have:g'=g:=by rw[k1]at h1;exact Option.some.inj h1
   subst this;obtain⟨q1,q2,q3,q4,q5,q6⟩:=k4;rw[h2]
   exact .mpv (Uo k3) q1 q2 q3 q4 q5 fun j v e hv he=>(q6 j v e hv he).mono (XR h)
 | clb f caps =>
  simp only[asnap]at hs;split at hs
  case h_2=>cases hs
  rename_i l hl;cases hs;obtain⟨vs,h1,h2,h3⟩:=hx;subst h1;have hsp:=Jk hl
  have hlen:caps.length=l.length:=by simpa using congrArg A9 hsp
  refine .clo (by omega) fun j c v hc hv=>?_
  have hjj:=congrArg (fun q=>q[j]?) hsp;simp only[A4,hc,B6]at hjj
  cases hz:caps[j]? with
  | none=>rw[hz]at hjj;cases hjj
  | some z =>
   rw[hz]at hjj;exact ND h (h3 j z v hz hv) (Option.some.inj hjj)
 | box cs=>cases hs
 | obj e k xs=>cases hs
 | hob kd ks vs=>cases hs
 | bxg cs=>cases hs
 | slf=>cases hs
 | agr cs =>
  simp only[asnap]at hs;split at hs
  case h_2=>cases hs
  rename_i l hl;cases hs;obtain⟨us,h1,h2,h3⟩:=hx;subst h1;have hsp:=Jk hl
  have hlen:cs.length=l.length:=by simpa using congrArg A9 hsp
  refine R.agg (by omega) fun j c v hc hv=>?_
  have hjj:=congrArg (fun q=>q[j]?) hsp;simp only[A4,hc,B6]at hjj
  cases hz:cs[j]? with
  | none=>rw[hz]at hjj;cases hjj
  | some z =>
   rw[hz]at hjj;exact NE h (h3 j z v hz hv).1 (Option.some.inj hjj)
 | pb s o =>
  simp only[asnap]at hs;exact ND h (x:=.pb s o) hx hs
 | pe s k j o=>cases hs
 | tpr id e k off m rest=>cases hs
 | _ =>
  simp only[asnap,Option.some.injEq]at hs;subst hs;exact (hx.1.mono (XR h)).strip
theorem qaF (h:Inv bs n M O env a w) {o:Oper} {f:Nat} {args:List AV} (hc:Xs P o env=some (f,args)) :
  ∃ vs:List Value,(execOp a.eval o).run P w=.ok (.enter f vs.toArray) w∧args.length=vs.length∧∀ (j:Nat) c v,args[j]? = some c→vs[j]? = some v→R (memX M O env w) c v:=by
 unfold Xs at hc;split at hc
 case h_2=>cases hc
 rename_i fo as ats ho;split at hc
 case h_2=>cases hc
 rename_i g caps l hf hl;split at hc
 case h_2=>cases hc
 rename_i fn hfn;split at hc
 case h_2=>cases hc
 rename_i l' hb hl';cases hc;simp only[A3]at hb;obtain⟨hb1,hb2⟩:=hb;obtain⟨us,cvs,h1,h2,h3,h4,h5⟩:=VZ h ho hf hl hfn hb1 hb2;have hsp:=Jk hl'
 have hlen:l.length=l'.length:=by simpa using congrArg A9 hsp
 refine⟨us++cvs,h1,by simp;omega,Ue (by omega) (fun j c v hc hv=>?_) fun j c v hc hv=>(h5 j c v hc hv).mono (XR h)⟩;have hjj:=congrArg (fun q=>q[j]?) hsp;simp only[A4,hc,B6]at hjj
 cases hz:l[j]? with
 | none=>rw[hz]at hjj;cases hjj
 | some z =>
  rw[hz]at hjj;exact qdH h (h3 j z v hz hv) (Option.some.inj hjj)
theorem qhE {M M':Mem} {x:AV} {v:Value} (hp:x.plain=true) (h:R M x v):R M' x v:=by
 cases h with
 | int k n=>exact .int k n
 | bool b=>exact .bool b
 | str s=>exact .str s
 | @agg cs vs hl hr =>
  refine .agg hl fun j c u hc hu=>?_
  simp only[AV.plain,A8]at hp;have h1:=hp c (B5 hc);have h2:=hr j c u hc hu
  cases h2 <;> first | exact .int _ _ | exact .bool _ | exact .str _ | cases h1
 | @tup cs vs hl hr =>
  refine .tup hl fun j c u hc hu=>?_
  simp only[AV.plain,A8]at hp;have h1:=hp c (B5 hc);have h2:=hr j c u hc hu
  cases h2 <;> first | exact .int _ _ | exact .bool _ | exact .str _ | cases h1
 | _=>cases hp
theorem qaZ {x:AV} (hp:x.plain=true):x.lab? = none:=by
 cases x <;> first | rfl | cases hp
end
end Go.AM
namespace Go.AM
open Go.RowKit
variable {P:Program} {bs:Base} {n:Nat} {M:Mem} {O:Gh} {env:Env} {a:Act} {w:World}
end Go.AM
namespace Go.AM
inductive J where
 | code (n:Nat) (c:Code) (env:Env) (ex:Ex) (env':Env)
 | ops (n:Nat) (draw:Bool) (all rest:List Oper) (env env':Env)
 | call (f:Nat) (args:List AV) (r:AV)
 | callM (f:Nat) (args:List AV) (hp:Env) (r:AV) (hp':Env)
 | opsB (n:Nat) (all rest:List Oper) (env env':Env)
 | any (n:Nat) (all:List Oper) (R:List Nat) (env env':Env)
def readyR (all:List Oper) (R:List Nat) (k:Nat):Bool:=R.all fun i=>!((Region.before all.toArray).getD k 0).testBit i
inductive Run (P:Program):J→Prop where
 | skip {n env}:Run P (.code n .skip env .normal env)
 | ret {n env}:Run P (.code n .ret env .ret env)
 | exit {n env id}:Run P (.code n (.exit id) env (.exit id) env)
 | seqN {n x y env e1 ex e2}:Run P (.code n x env .normal e1)→Run P (.code n y e1 ex e2)→Run P (.code n (.seq x y) env ex e2)
 | seqX {n x y env id e1}:Run P (.code n x env (.exit id) e1)→Run P (.code n (.seq x y) env (.exit id) e1)
 | seqR {n x y env e1}:Run P (.code n x env .ret e1)→Run P (.code n (.seq x y) env .ret e1)
 | cond {n c x y env ex e1} (b:Bool):aop env c=some (.bool b)→Run P (.code n (match b with | true=>x | false=>y) env ex e1)→Run P (.code n (.cond c x y) env ex e1)
 | seqU {n v c x y z env e0 ei e2} (p:Bool):Run P (.code n v env .normal e0)→aop e0 c=some (.ub p)→(p=true→Run P (.code n x e0 .ret e2))→Run P (.code n y e0 .normal ei)→Run P (.code n z ei .ret e2)→Run P (.code n (.seq (.seq v (.cond c x y)) z) env .ret e2)
 | mv {n c env ex e1} (q:List Mv):Run P (.code n c (mvAll env q) ex e1)→Run P (.code n c env ex e1)
 | mvOp {n all rest env e1} (q:List Mv):Run P (.ops n false all rest (mvAll env q) e1)→Run P (.ops n false all rest env e1)
 | callOpR {n draw all o rest env f args r e1 e2}:awanted all o env=some true→Xs P o env=some (f,args)→r.plain=true→Run P (.call f args r)→eput n o.dst r env=some e1→Run P (.ops n draw all rest e1 e2)→Run P (.ops n draw all (o::rest) env e2)
 | callOpM {n all o rest env f args hp r hp' e1 e2} (ρ nw:List (Nat×Nat)):awanted all o env=some true→NJ P o env ρ=some (f,args,hp)→Run P (.callM f args hp r hp')→Uc n o.dst ρ nw r hp' env=some e1→Run P (.ops n false all rest e1 e2)→Run P (.ops n false all (o::rest) env e2)
 | callM {f args hp r fn c ex e1}:P.funcs[f]? = some fn→fn.body=some c→(A0 args.length fn.ntmps && A0 fn.ntmps 1000000 && hpOk hp)=true→Run P (.code fn.ntmps c (argsEnv 0 (args.map AV.strip)++hp) ex e1)→(match ex with | .exit _=>False | _=>True)→Ux P fn e1=some r→Run P (.callM f args hp r (ents e1))
 | block {n id c env ex e1}:Run P (.code n c env ex e1)→Run P (.code n (.block id c) env (ex.unblock id) e1)
 | loopN {n c env e1 ex e2}:Run P (.code n c env .normal e1)→Run P (.code n (.loop c) e1 ex e2)→Run P (.code n (.loop c) env ex e2)
 | loopX {n c env id e1}:Run P (.code n c env (.exit id) e1)→Run P (.code n (.loop c) env (.exit id) e1)
 | loopR {n c env e1}:Run P (.code n c env .ret e1)→Run P (.code n (.loop c) env .ret e1)
 | region {n id ops draw env e1}:(draw=true→orderOk ops=true∧jS ops=true)→Run P (.ops n draw ops.toList ops.toList env e1)→Run P (.code n (.region id ops draw) env .normal e1)
 | regionB {n id ops env e1}:(orderB ops && jS ops && banOk ops.toList env)=true→Run P (.opsB n ops.toList ops.toList env e1)→Run P (.code n (.region id ops true) env .normal (dropB ops.toList e1))
 | regionA {n id ops env e1 e2}:jS ops=true→Run P (.any n ops.toList (List.range ops.size) env e1)→Run P (.ops n false ops.toList [] e1 e2)→Run P (.code n (.region id ops true) env .normal e2)
 | anyNil {n all env}:Run P (.any n all [] env env)
 | anyStep {n all R env e1} (F:Nat→Env):R≠[]→(∀ k o,k∈R→all[k]? = some o→readyR all R k=true→Run P (.ops n false all [o] env (F k)))→(∀ k,k∈R→readyR all R k=true→Run P (.any n all (R.erase k) (F k) e1))→Run P (.any n all R env e1)
 | nilB {n all env}:Run P (.opsB n all [] env env)
 | opB {n all o rest env e1 e2}:awanted all o env=some true→astepB P n o env=some e1→Run P (.opsB n all rest e1 e2)→Run P (.opsB n all (o::rest) env e2)
 | weak {n c env ex e1} (keep frz:List Nat) (nl:List (Nat×Nat×Nat×Nat×Nat)) (rl:List (Nat×Option Nat)):Run P (.code n c (weakE keep frz nl rl env) ex e1)→Run P (.code n c env ex e1)
 | nil {n draw all env}:Run P (.ops n draw all [] env env)
 | drop {n all rest env e1} (keep:List Nat):Run P (.ops n false all rest (dropE keep env) e1)→Run P (.ops n false all rest env e1)
 | not {n draw all o rest env e1 e2}:awanted all o env=some false→eput n o.dst .und env=some e1→Run P (.ops n draw all rest e1 e2)→Run P (.ops n draw all (o::rest) env e2)
 | op {n draw all o rest env e1 e2}:awanted all o env=some true→(match draw with | true=>astepDA P n all o env | false=>astep P n o env)=some e1→Run P (.ops n draw all rest e1 e2)→Run P (.ops n draw all (o::rest) env e2)
 | rowOp {n all o rest env e1 e2}:awanted all o env=some true→arow P n o env=some e1→Run P (.ops n false all rest e1 e2)→Run P (.ops n false all (o::rest) env e2)
 | agrOp {n all o rest env e1 e2}:awanted all o env=some true→aagr P n o env=some e1→Run P (.ops n false all rest e1 e2)→Run P (.ops n false all (o::rest) env e2)
 | callOp {n draw all o rest env f args r e1 e2}:awanted all o env=some true→acallee P o env=some (f,args)→Run P (.call f args r)→callPut n draw o.dst r env=some e1→Run P (.ops n draw all rest e1 e2)→Run P (.ops n draw all (o::rest) env e2)
 | ext0 {f args r}:CallOk P f args r→Run P (.call f args r)
 | extM {f args hp r hp'}:CallMOk P f args hp r hp'→(∀ id x,look hp' id=some x→x.ent=true)→Run P (.callM f args hp r hp')
 | ext {f args r vs rv}:optAll (args.map AV.val)=some vs→r.val=some rv→Known P f vs rv→Run P (.call f args r)
 | extSort {f e zs}:Nat.blt e 1000000000=true→zs≠[]→zs.length<4611686018427387904→qbJ P f e→Run P (.callM f [.sb 2000000 e 1 0 zs.length] [(2000000,.obj e 1 (zs.map (AV.int .i64)))] (.tup []) [(2000000,.obj e 1 ((sortI zs).map (AV.int .i64)))])
 | call {f args r fn c ex e1}:P.funcs[f]? = some fn→fn.body=some c→(A0 args.length fn.ntmps && A0 fn.ntmps 1000000)=true→Run P (.code fn.ntmps c (argsEnv 0 (args.map AV.strip)) ex e1)→(match ex with | .exit _=>False | _=>True)→QT P fn e1=some r→Run P (.call f args r)
end Go.AM
namespace Go.AM
section
variable {P:Program} {n:Nat}
def W (P:Program) (n:Nat) (c:Code) (Q:Ex→Env→Prop) (env:Env):Prop:=∃ ex e',Run P (.code n c env ex e')∧Q ex e'
def WO (P:Program) (n:Nat) (draw:Bool) (all ops:List Oper) (Q:Env→Prop) (env:Env):Prop:=∃ e',Run P (.ops n draw all ops env e')∧Q e'
def Then (c:Code) (P:Program) (n:Nat) (Q:Ex→Env→Prop):Ex→Env→Prop
 | .normal,e=>W P n c Q e
 | ex,e=>Q ex e
theorem W.mono {c:Code} {Q Q':Ex→Env→Prop} {env:Env} (h:W P n c Q env) (hq:∀ ex e,Q ex e→Q' ex e):W P n c Q' env:=by
 obtain⟨ex,e',h1,h2⟩:=h;exact⟨ex,e',h1,hq _ _ h2⟩
theorem W.skip {Q:Ex→Env→Prop} {env:Env} (h:Q .normal env):W P n .skip Q env:=⟨_,_,.skip,h⟩
theorem W.ret {Q:Ex→Env→Prop} {env:Env} (h:Q .ret env):W P n .ret Q env:=⟨_,_,.ret,h⟩
theorem W.exit {Q:Ex→Env→Prop} {env:Env} {id:Nat} (h:Q (.exit id) env):W P n (.exit id) Q env:=⟨_,_,.exit,h⟩
theorem W.seq {x y:Code} {Q:Ex→Env→Prop} {env:Env} (h:W P n x (Then y P n Q) env):W P n (.seq x y) Q env:=by
 obtain⟨ex,e1,h1,h2⟩:=h
 cases ex with
 | normal=>obtain⟨ex2,e2,h3,h4⟩:=h2;exact⟨ex2,e2,.seqN h1 h3,h4⟩
 | exit id=>exact⟨_,e1,.seqX h1,h2⟩
 | ret=>exact⟨_,e1,.seqR h1,h2⟩
theorem W.cond {c:Operand} {x y:Code} {Q:Ex→Env→Prop} {env:Env} (b:Bool) (hc:aop env c=some (.bool b)) (ht:b=true→W P n x Q env) (hf:b=false→W P n y Q env):W P n (.cond c x y) Q env:=by
 cases b with
 | true=>obtain⟨ex,e1,h1,h2⟩:=ht rfl;exact⟨ex,e1,.cond true hc h1,h2⟩
 | false=>obtain⟨ex,e1,h1,h2⟩:=hf rfl;exact⟨ex,e1,.cond false hc h1,h2⟩
def Blk (id:Nat) (Q:Ex→Env→Prop):Ex→Env→Prop:=fun ex e=>Q (ex.unblock id) e
theorem W.block {id:Nat} {c:Code} {Q:Ex→Env→Prop} {env:Env} (h:W P n c (Blk id Q) env):W P n (.block id c) Q env:=by
 obtain⟨ex,e1,h1,h2⟩:=h;exact⟨_,e1,.block h1,h2⟩
theorem W.loop {c:Code} {Q:Ex→Env→Prop} {env:Env} (h:W P n c (Then (.loop c) P n Q) env):W P n (.loop c) Q env:=by
 obtain⟨ex,e1,h1,h2⟩:=h
 cases ex with
 | normal=>obtain⟨ex2,e2,h3,h4⟩:=h2;exact⟨ex2,e2,.loopN h1 h3,h4⟩
 | exit id=>exact⟨_,e1,.loopX h1,h2⟩
 | ret=>exact⟨_,e1,.loopR h1,h2⟩
theorem W.weak {c:Code} {Q:Ex→Env→Prop} {env:Env} (keep frz:List Nat) (nl:List (Nat×Nat×Nat×Nat×Nat)) (rl:List (Nat×Option Nat)) {env':Env} (he:weakE keep frz nl rl env=env') (h:W P n c Q env'):W P n c Q env:=by
 subst he;obtain⟨ex,e1,h1,h2⟩:=h;exact⟨ex,e1,.weak keep frz nl rl h1,h2⟩
theorem W.region {id:Nat} {ops:Array Oper} {draw:Bool} {Q:Ex→Env→Prop} {env:Env} (hd:(!draw || (orderOk ops && jS ops))=true) (h:WO P n draw ops.toList ops.toList (Q .normal) env):W P n (.region id ops draw) Q env:=by
 obtain⟨e1,h1,h2⟩:=h;refine⟨_,e1,.region (fun hdr=>?_) h1,h2⟩;subst hdr
 simpa using hd
theorem WO.nil {draw:Bool} {all:List Oper} {Q:Env→Prop} {env:Env} (h:Q env):WO P n draw all [] Q env:=⟨env,.nil,h⟩
theorem WO.mono {draw:Bool} {all ops:List Oper} {Q Q':Env→Prop} {env:Env} (h:WO P n draw all ops Q env) (hq:∀ e,Q e→Q' e):WO P n draw all ops Q' env:=by
 obtain⟨e',h1,h2⟩:=h;exact⟨e',h1,hq _ h2⟩
def step1 (P:Program) (n:Nat) (draw:Bool) (all:List Oper) (o:Oper) (env:Env):Option Env :=
 match awanted all o env with
 | some true=>match draw with
  | true=>astepDA P n all o env
  | false=>astep P n o env
 | some false=>eput n o.dst .und env
 | none=>none
def stepsK (P:Program) (n:Nat) (draw:Bool) (all:List Oper):Nat→List Oper→Env→Option Env
 | 0,_,env=>some env
 | _+1,[],env=>some env
 | k+1,o::rest,env=>match step1 P n draw all o env with
  | some e=>stepsK P n draw all k rest e
  | none=>none
theorem qaV {draw:Bool} {all rest:List Oper} {o:Oper} {env e e':Env} (h:step1 P n draw all o env=some e) (hr:Run P (.ops n draw all rest e e')):Run P (.ops n draw all (o::rest) env e'):=by
 unfold step1 at h;split at h
 ·rename_i hw;refine .op hw ?_ hr;cases draw <;> exact h
 ·rename_i hw;exact .not hw h hr
 ·cases h
theorem WO.steps {draw:Bool} {all:List Oper} {Q:Env→Prop}:∀ (k:Nat) {ops:List Oper} {env e1:Env},stepsK P n draw all k ops env=some e1→WO P n draw all (ops.drop k) Q e1→WO P n draw all ops Q env
 | 0,ops,env,e1,h,hr=>by cases h;exact hr
 | k+1,[],env,e1,h,hr=>by cases h;exact hr
 | k+1,o::rest,env,e1,h,hr=>by
  simp only[stepsK]at h;split at h
  ·rename_i e he;obtain⟨e',h1,h2⟩:=WO.steps k h hr;exact⟨e',qaV he h1,h2⟩
  ·cases h
theorem WO.step {draw:Bool} {all rest:List Oper} {o:Oper} {Q:Env→Prop} {env e1:Env} (h:step1 P n draw all o env=some e1) (hr:WO P n draw all rest Q e1):WO P n draw all (o::rest) Q env:=by
 obtain⟨e',h1,h2⟩:=hr;exact⟨e',qaV h h1,h2⟩
theorem WO.call {draw:Bool} {all rest:List Oper} {o:Oper} {Q:Env→Prop} {env e1:Env} {f:Nat} {args:List AV} {r:AV} (hw:awanted all o env=some true) (hc:acallee P o env=some (f,args)) (hr:Run P (.call f args r)) (he:callPut n draw o.dst r env=some e1) (h:WO P n draw all rest Q e1):WO P n draw all (o::rest) Q env:=by
 obtain⟨e',h1,h2⟩:=h;exact⟨e',.callOp hw hc hr he h1,h2⟩
theorem WO.row {all:List Oper} {o:Oper} {ops:List Oper} {Q:Env→Prop} {env e1:Env} (hw:awanted all o env=some true) (he:arow P n o env=some e1) (h:WO P n false all ops Q e1):WO P n false all (o::ops) Q env:=by
 obtain⟨e',h1,h2⟩:=h;exact⟨e',.rowOp hw he h1,h2⟩
theorem WO.drop {all ops:List Oper} {Q:Env→Prop} {env:Env} (keep:List Nat) {e1:Env} (he:dropE keep env=e1) (h:WO P n false all ops Q e1):WO P n false all ops Q env:=by
 subst he;obtain⟨e',h1,h2⟩:=h;exact⟨e',.drop keep h1,h2⟩
def Seg (P:Program) (n:Nat) (all:List Oper) (k:Nat) (keep:List Nat) (ops:List Oper) (env envj:Env):Prop :=
 ∀ Q,WO P n false all (ops.drop k) Q envj→WO P n false all ops Q env
theorem Seg.steps {all:List Oper} {k:Nat} {keep:List Nat} {ops:List Oper} {env envj e1:Env} (h:stepsK P n false all k ops env=some e1) (he:dropE keep e1=envj):Seg P n all k keep ops env envj :=
 fun Q hq=>WO.steps k h (WO.drop keep he hq)
def Post (P:Program) (fn:Func) (r:AV):Ex→Env→Prop
 | .exit _,_=>False
 | _,e=>QT P fn e=some r
theorem qgj {f:Nat} {args:List AV} {r:AV} {fn:Func} {c:Code} (hf:P.funcs[f]? = some fn) (hb:fn.body=some c) (hlen:(A0 args.length fn.ntmps && A0 fn.ntmps 1000000)=true) {env0:Env} (he:argsEnv 0 (args.map AV.strip)=env0) (h:W P fn.ntmps c (Post P fn r) env0):Run P (.call f args r):=by
 subst he;obtain⟨ex,e1,h1,h2⟩:=h;refine .call hf hb hlen h1 ?_ ?_
 ·cases ex <;> first | trivial | exact h2
 ·cases ex <;> first | exact h2 | exact h2.elim
theorem W.join {σ:Type} {c:Code} {Q:Ex→Env→Prop} {env:Env} (E:σ→Env) (Pz:σ→Prop) (hrest:∀ s,Pz s→Q .normal (E s)) (h:(∀ s,Pz s→Q .normal (E s))→W P n c Q env):W P n c Q env:=h hrest
theorem W.range {α σ:Type} {c:Code} {Q:Ex→Env→Prop} (xs:List α) (E:Nat→σ→Env) (Pz:List α→Nat→σ→Prop)
  (hnil:∀ s,Pz [] xs.length s→W P n c (Then (.loop c) P n Q) (E xs.length s))
  (hcons:∀ x rest k s,xs[k]? = some x→k<xs.length→Pz (x::rest) k s→(∀ s',Pz rest (k+1) s'→W P n (.loop c) Q (E (k+1) s'))→W P n c (Then (.loop c) P n Q) (E k s)) :
  ∀ s,Pz xs 0 s→W P n (.loop c) Q (E 0 s):=by
 have key:∀ (rest:List α) (k:Nat) (s:σ),xs.drop k=rest→k≤xs.length→Pz rest k s→W P n (.loop c) Q (E k s):=by
  intro rest
  induction rest with
  | nil =>
   intro k s hd hk hp
   have:k=xs.length:=by
    have:=congrArg A9 hd;simp at this;omega
   subst this;exact W.loop (hnil s hp)
  | cons x rest ih =>
   intro k s hd hk hp
   have hx:xs[k]? = some x:=by
    have:=congrArg List.head? hd
    simpa[List.head?_drop] using this
   have hlt:k<xs.length:=(List.getElem?_eq_some_iff.1 hx).1;refine W.loop (hcons x rest k s hx hlt hp fun s' hp'=>ih (k+1) s' ?_ hlt hp')
   have:xs.drop (k+1)=(xs.drop k).drop 1:=by rw[A5]
   rw[this,hd];rfl
 exact fun s hp=>key xs 0 s (List.drop_zero) (Nat.zero_le _) hp
theorem W.fuel {σ:Type} {c:Code} {Q:Ex→Env→Prop} (E:σ→Env) (Pz:Nat→σ→Prop) (h0:∀ s,Pz 0 s→False)
  (hs:∀ m s,Pz (m+1) s→(∀ s',Pz m s'→W P n (.loop c) Q (E s'))→W P n c (Then (.loop c) P n Q) (E s)) :
  ∀ m s,Pz m s→W P n (.loop c) Q (E s):=by
 intro m
 induction m with
 | zero=>intro s hp;exact (h0 s hp).elim
 | succ m ih=>intro s hp;exact W.loop (hs m s hp ih)
theorem WO.bool {draw:Bool} {all ops:List Oper} {Q:Env→Prop} (E:Bool→Env) (b:Bool) (ht:b=true→WO P n draw all ops Q (E true)) (hf:b=false→WO P n draw all ops Q (E false)):WO P n draw all ops Q (E b):=by
 cases b with
 | true=>exact ht rfl
 | false=>exact hf rfl
def plainOp:Op→Bool
 | .alloc _ | .box .. | .makeSlice .. | .store .. | .buildSlice .. | .makeMap .. | .mapUpdate .. | .range ..=>false
 | .call { callee:=.builtin .append,.. }=>false
 | .call { callee:=.value _,.. }=>false
 | _=>true
theorem qdG {o:Oper} {env:Env} (h:plainOp o.op=true):astep P n o env=match apure P o env with
  | some v=>eput n o.dst v env
  | none=>none:=by
 unfold astep
 split <;> first | (cases apure P o env <;> rfl) | simp_all [plainOp]
theorem qdp {o:Op} (h:plainOp o=true):isEff o=false:=by
 unfold isEff;split <;> simp_all [plainOp]
theorem Vt {all:List Oper} {o:Oper} {env:Env} (h:isApp o.op=false):lfOk all o env=true:=by
 unfold lfOk;split
 ·rename_i ho;rw[ho]at h;cases h
 ·rfl
theorem YI {all:List Oper} {o:Oper} {env:Env} {r:Option Env} (hl:lfOk all o env=true) (h:astepD P n o env=r):astepDA P n all o env=r:=by
 unfold astepDA;rw[hl];exact h
theorem qdq {o:Op} (h:plainOp o=true):isApp o=false:=by
 unfold isApp;split <;> simp_all [plainOp]
theorem WO.pureE {draw:Bool} {all rest:List Oper} {o:Oper} {Q:Env→Prop} {env e1:Env} {v:AV} {X:Option AV} (hw:awanted all o env=some true) (hp:(plainOp o.op && notBox v)=true) (hv:apure P o env=X) (hX:X=some v) (he:eput n o.dst v env=some e1) (h:WO P n draw all rest Q e1):WO P n draw all (o::rest) Q env:=by
 rw[hX]at hv;simp only[A3]at hp;refine WO.step (e1:=e1) ?_ h;unfold step1;rw[hw]
 cases draw with
 | true =>
  refine YI (Vt (qdq hp.1)) ?_;unfold astepD;simp only[qdp hp.1,hv,hp.2,he]
 | false =>
  simp only[qdG hp.1,hv,he]
def appPre (P:Program) (all:List Oper) (o:Oper) (env:Env):Option (Nat×Nat×Nat×Nat×List AV×List AV×Env) :=
 match awanted all o env with
 | some true=>match o.op with
  | .call { callee:=.builtin .append,args,argTypes }=>match args.toList,argTypes.toList,o.dst with
   | [x,y],[t,t'],some d=>match aop env x,aop env y with
    | some a,some b=>match JB P t with
     | some (e,s)=>match A2 t t' && Nat.blt 0 s && (match (P.info? e).bind (·.zero) with | some z=>A2 z.cells.size s | none=>false) with
      | false=>none
      | true=>match b with
       | .lst ey ky _ ys=>match A2 ky s with
        | false=>none
        | true=>match a with
         | .nils=>some (d,e,s,((P.info? e).map (·.bytes)).getD 0,[],ys,relabE d none env)
         | .lst ex kx (some c) xs=>match A2 ex e && A2 kx s with
          | false=>none
          | true=>some (d,e,s,((P.info? e).map (·.bytes)).getD 0,xs,ys,relabE d none (relabE c none env))
         | _=>none
       | _=>none
     | none=>none
    | _,_=>none
   | _,_,_=>none
  | _=>none
 | _=>none
def appPreD (P:Program) (draw:Bool) (all:List Oper) (o:Oper) (env:Env):Option (Nat×Nat×Nat×Nat×List AV×List AV×Env) :=
 match !draw || lfOk all o env with
 | true=>appPre P all o env
 | false=>none
theorem NH {draw:Bool} {all:List Oper} {o:Oper} {env:Env} {r:Nat×Nat×Nat×Nat×List AV×List AV×Env} (h:appPreD P draw all o env=some r):(!draw || lfOk all o env)=true∧appPre P all o env=some r:=by
 unfold appPreD at h;split at h
 ·rename_i hl;exact⟨hl,h⟩
 ·cases h
def capOk (bytes n:Nat):Bool:=A0 (n * bytes) 140737488355328 && A0 n 140737488355328
theorem WO.append {draw:Bool} {all rest:List Oper} {o:Oper} {Q:Env→Prop} {env env1 e1:Env} {d e s bytes:Nat} {xs ys zs:List AV} (hl:(!draw || lfOk all o env)=true) (hp:appPre P all o env=some (d,e,s,bytes,xs,ys,env1)) (hz:xs++ys=zs) (hc:capOk bytes zs.length=true) (he:eput n (some d) (.lst e s (some d) zs) env1=some e1) (h:WO P n draw all rest Q e1):WO P n draw all (o::rest) Q env:=by
 subst hz;simp only[capOk,A3,Nat.ble_eq,List.length_append]at hc;refine WO.step (e1:=e1) ?_ h;unfold step1
 have key:astep P n o env=some e1∧awanted all o env=some true∧isEff o.op=true:=by
  unfold appPre at hp;unfold astep
  split at hp <;> try cases hp
  rename_i hw
  split at hp <;> try cases hp
  rename_i args ats ho
  split at hp <;> try cases hp
  rename_i x y t t' d hax hat hd
  split at hp <;> try cases hp
  rename_i a b ha hb
  split at hp <;> try cases hp
  rename_i e s hse
  split at hp <;> try cases hp
  rename_i hcond
  split at hp <;> try cases hp
  rename_i ey ky l ys
  split at hp <;> try cases hp
  rename_i hky
  have hei:isEff o.op=true:=by rw[ho];rfl
  refine⟨?_,hw,hei⟩;have hcond':=hcond
  split at hp <;> try cases hp
  ·have e1':aappend P t t' d .nils (.lst ey ky l ys) env=some (.lst e s (some d) ys,relabE d none env):=by
    unfold aappend;simp only[hse];split
    ·rename_i hcf;exact B7 (hcf.symm.trans hcond')
    ·simp only[hky];rw[if_pos (by simpa using hc)]
   rw[ho];simp only[hax,hat,hd,ha,hb,e1']
   simpa[hd] using he
  ·rename_i ex kx c xs
   split at hp <;> try cases hp
   rename_i hx
   have e1':aappend P t t' d (.lst ex kx (some c) xs) (.lst ey ky l ys) env=some (.lst e s (some d) (xs++ys),relabE d none (relabE c none env)):=by
    unfold aappend;simp only[hse];split
    ·rename_i hcf;exact B7 (hcf.symm.trans hcond')
    ·simp only[hky,hx];rw[if_pos hc]
   rw[ho];simp only[hax,hat,hd,ha,hb,e1']
   simpa[hd] using he
 rw[key.2.1]
 cases draw with
 | true =>
  refine YI hl ?_;unfold astepD;simp only[key.2.2,key.1]
 | false=>exact key.1
def okFn (P:Program) (F:Nat):Bool:=match P.funcs[F]? with
 | some fn => fn.name != "runtime.NumGoroutine" && fn.body.isSome
 | none=>false
def callPre (all:List Oper) (o:Oper) (env:Env):Option (Nat×List AV×List AV) :=
 match awanted all o env with
 | some true=>match o.op with
  | .call { callee:=.value f,args,.. }=>match aop env f,optAll (args.toList.map (aop env)) with
   | some (.clo g caps),some l=>match l.all (fun x=>match x with | .box _ | .pb .. | .sb .. | .pe .. | .obj .. | .tpr .. | .hob .. | .mb .. | .bxg _ | .slf | .agr _ | .clb ..=>false | _=>true) with
    | true=>some (g,l.map AV.strip,caps)
    | false=>none
   | _,_=>none
  | _=>none
 | _=>none
theorem WO.callF {draw:Bool} {all rest:List Oper} {o:Oper} {Q:Env→Prop} {env e1:Env} {F:Nat} {l C:List AV} {r:AV} (hp:callPre all o env=some (F,l,C)) (hok:okFn P F=true) (hr:Run P (.call F (l++C) r)) (he:callPut n draw o.dst r env=some e1) (h:WO P n draw all rest Q e1):WO P n draw all (o::rest) Q env:=by
 unfold callPre at hp
 split at hp <;> try cases hp
 rename_i hw
 split at hp <;> try cases hp
 rename_i f args ats ho
 split at hp <;> try cases hp
 rename_i g caps l hf hl
 split at hp <;> try cases hp
 rename_i hall;refine WO.call hw ?_ hr he h;unfold acallee;rw[ho];simp only[hf,hl];unfold okFn at hok;split at hok
 ·rename_i fn hfn;simp only[hfn,hok];split
  ·rfl
  ·rename_i hcf;exact B7 (hcf.symm.trans hall)
 ·cases hok
def chk {α:Type} (b:Bool) (o:Option α):Option α:=bif b then o else none
theorem qq {α:Type} {b:Bool} {o:Option α} {r:α} (h:chk b o=some r):b=true∧o=some r:=by
 cases b with
 | true=>exact⟨rfl,h⟩
 | false=>cases h
theorem ql {α β:Type} {o:Option α} {f:α→Option β} {r:β} (h:o.bind f=some r):∃ x,o=some x∧f x=some r:=by
 cases o with
 | none=>cases h
 | some x=>exact⟨x,rfl,h⟩
def idx {α:Type} (l:List α) (i:Int):Option α:=if 0≤i then l[i.toNat]? else none
theorem UR {α:Type} {l:List α} {i:Int} {x:α} {f:α→AV} (h:idx l i=some x):(if 0≤i then ((l.map f)[i.toNat]?).map AV.ptr else none)=some (.ptr (f x)):=by
 unfold idx at h;split at h
 ·rename_i h0;rw[if_pos h0,A4,h];rfl
 ·cases h
theorem jE {α:Type} {l:List α} {k:Nat} {x:α} {f:α→AV} (h:l[k]? = some x):(if (0:Int)≤(k:Int) then ((l.map f)[(k:Int).toNat]?).map AV.ptr else none)=some (.ptr (f x)) :=
 UR (l:=l) (by unfold idx;rw[if_pos (Int.natCast_nonneg k),Int.toNat_natCast,h])
def lenOk {α:Type} (l:List α):Bool:=A0 l.length 9223372036854775807
theorem qeJ {a:Int} (h1 : -9223372036854775808≤a) (h2:a<9223372036854775808):C5 .i64 a=a:=by
 simp[C5,IntKind.signed,IntKind.bits];omega
theorem qS {α:Type} {l:List α} {k:Nat} (hl:lenOk l=true) (hk:k<l.length):C5 .i64 ((k:Int)+1)=((k+1:Nat):Int):=by
 simp only[lenOk,Nat.ble_eq]at hl;rw[qeJ (by omega) (by omega)];rfl
theorem jD {α:Type} {l:List α} {k:Nat} (hk:k<l.length):decide ((k:Int)<(l.length:Int))=true:=by
 simp;exact_mod_cast hk
theorem jj {α:Type} {l:List α}:decide ((l.length:Int)<(l.length:Int))=false:=by
 simp
theorem qdl {n:Int} {k:Nat} (hk:k<(List.range n.toNat).length):decide ((k:Int)<n)=true:=by
 simp at hk;simp;omega
theorem qbh {n:Int}:decide (((List.range n.toNat).length:Int)<n)=false:=by
 simp;omega
def sub {α:Type} (l:List α) (lo hi:Int):Option (List α):=if 0≤lo∧lo≤hi∧hi≤l.length then some ((l.take hi.toNat).drop lo.toNat) else none
theorem NM {α:Type} {l r:List α} {lo hi:Int} {f:α→AV} {e k:Nat} {lb:Option Nat} (h:sub l lo hi=some r):(if (0:Int)≤lo∧lo≤hi∧hi≤((A1 f l).length:Int) then some (AV.lst e k lb (((A1 f l).take hi.toNat).drop lo.toNat)) else none)=some (AV.lst e k lb (A1 f r)):=by
 unfold sub at h;split at h
 ·rename_i h0;cases h;rw[if_pos (by simpa using h0),List.map_drop,List.map_take]
 ·cases h
theorem Ds {α:Type} {l r:List α} {lo:Int} {f:α→AV} {e k:Nat} {lb:Option Nat} (h:sub l lo (l.length:Int)=some r):(if (0:Int)≤lo∧lo≤((A1 f l).length:Int)∧((A1 f l).length:Int)≤((A1 f l).length:Int) then some (AV.lst e k lb (((A1 f l).take ((A1 f l).length:Int).toNat).drop lo.toNat)) else none)=some (AV.lst e k lb (A1 f r)):=by
 have:=NM (f:=f) (e:=e) (k:=k) (lb:=lb) h
 simpa using this
def stepsE (P:Program) (n:Nat) (draw:Bool) (all:List Oper) (k:Nat) (ops:List Oper) (env:Env) {α:Type} (f:List Oper→Env→Option α):Option α :=
 match stepsK P n draw all k ops env with
 | some e=>f (ops.drop k) e
 | none=>none
theorem ju {draw:Bool} {all ops:List Oper} {k:Nat} {env:Env} {α:Type} {f:List Oper→Env→Option α} {x:α} (h:stepsE P n draw all k ops env f=some x):∃ e,stepsK P n draw all k ops env=some e∧f (ops.drop k) e=some x:=by
 unfold stepsE at h;split at h
 ·rename_i e he;exact⟨e,he,h⟩
 ·cases h
def finE (P:Program) (n:Nat) (draw:Bool) (all ops:List Oper) (keep frz:List Nat) (nl:List (Nat×Nat×Nat×Nat×Nat)) (rl:List (Nat×Option Nat)) (env:Env):Option Env :=
 (stepsK P n draw all ops.length ops env).map (weakE keep frz nl rl)
theorem WO.fin {draw:Bool} {all ops:List Oper} {Q:Env→Prop} {env e2:Env} {c:Code} {Q':Ex→Env→Prop} (keep frz:List Nat) (nl:List (Nat×Nat×Nat×Nat×Nat)) (rl:List (Nat×Option Nat)) (he:finE P n draw all ops keep frz nl rl env=some e2) (hQ:∀ e,W P n c Q' e→Q e) (h:W P n c Q' e2):WO P n draw all ops Q env:=by
 unfold finE at he;rw[B9]at he;obtain⟨e1,h1,h2⟩:=he;refine WO.steps ops.length h1 ?_;rw[List.drop_length];exact .nil (hQ _ (W.weak keep frz nl rl h2 h))
theorem W.regS {id:Nat} {ops:Array Oper} {draw:Bool} {y:Code} {Q:Ex→Env→Prop} {env e2:Env} (keep frz:List Nat) (nl:List (Nat×Nat×Nat×Nat×Nat)) (rl:List (Nat×Option Nat)) (hd:(!draw || (orderOk ops && jS ops))=true) (he:finE P n draw ops.toList ops.toList keep frz nl rl env=some e2) (h:W P n y Q e2):W P n (.seq (.region id ops draw) y) Q env :=
 W.seq (W.region hd (WO.fin keep frz nl rl he (fun _ h=>h) h))
theorem W.regT {id:Nat} {ops:Array Oper} {draw:Bool} {y:Code} {Q Q':Ex→Env→Prop} {env e2:Env} (keep frz:List Nat) (nl:List (Nat×Nat×Nat×Nat×Nat)) (rl:List (Nat×Option Nat)) (hd:(!draw || (orderOk ops && jS ops))=true) (he:finE P n draw ops.toList ops.toList keep frz nl rl env=some e2) (hQ:∀ e,W P n y Q' e→Q .normal e) (h:W P n y Q' e2):W P n (.region id ops draw) Q env :=
 W.region hd (WO.fin keep frz nl rl he hQ h)
theorem WO.callK {draw:Bool} {all ops:List Oper} {Q:Env→Prop} {env e1:Env} {F:Nat} {l C:List AV} {r:AV} (k:Nat)
  (hp:stepsE P n draw all k ops env (fun os e=>match os with | o::_=>callPre all o e | []=>none)=some (F,l,C)) (hok:okFn P F=true) (hr:Run P (.call F (l++C) r))
  (he:stepsE P n draw all k ops env (fun os e=>match os with | o::_=>callPut n draw o.dst r e | []=>none)=some e1) (h:WO P n draw all (ops.drop (k+1)) Q e1):WO P n draw all ops Q env:=by
 obtain⟨e,h1,h2⟩:=ju hp;obtain⟨e',h3,h4⟩:=ju he;rw[h1]at h3;cases h3;refine WO.steps k h1 ?_
 have hd:ops.drop (k+1)=(ops.drop k).drop 1:=by rw[A5]
 rw[hd]at h
 cases hos:ops.drop k with
 | nil=>rw[hos]at h2;cases h2
 | cons o rest =>
  rw[hos]at h2 h4 h;exact WO.callF h2 hok hr h4 h
theorem WO.rowK {all ops:List Oper} {Q:Env→Prop} {env e1:Env} (k:Nat)
  (he:stepsE P n false all k ops env (fun os e=>match os with
   | o::_=>match awanted all o e with
    | some true=>arow P n o e
    | _=>none
   | []=>none)=some e1) (h:WO P n false all (ops.drop (k+1)) Q e1):WO P n false all ops Q env:=by
 obtain⟨e,h1,h2⟩:=ju he;refine WO.steps k h1 ?_
 have hd:ops.drop (k+1)=(ops.drop k).drop 1:=by rw[A5]
 rw[hd]at h
 cases hos:ops.drop k with
 | nil=>rw[hos]at h2;cases h2
 | cons o rest =>
  rw[hos]at h2 h;simp only at h2
  split at h2 <;> try cases h2
  rename_i hw;exact WO.row hw h2 h
theorem WO.agr {all:List Oper} {o:Oper} {ops:List Oper} {Q:Env→Prop} {env e1:Env} (hw:awanted all o env=some true) (he:aagr P n o env=some e1) (h:WO P n false all ops Q e1):WO P n false all (o::ops) Q env:=by
 obtain⟨e',h1,h2⟩:=h;exact⟨e',.agrOp hw he h1,h2⟩
theorem WO.pureK {draw:Bool} {all ops:List Oper} {Q:Env→Prop} {env e1:Env} {v:AV} (k:Nat) (X:Option AV)
  (hp:stepsE P n draw all k ops env (fun os e=>match os with
   | o::_=>match awanted all o e with
    | some true=>match plainOp o.op && notBox v with
     | true=>some (apure P o e)
     | false=>none
    | _=>none
   | []=>none)=some X) (hX:X=some v)
  (he:stepsE P n draw all k ops env (fun os e=>match os with | o::_=>eput n o.dst v e | []=>none)=some e1) (h:WO P n draw all (ops.drop (k+1)) Q e1):WO P n draw all ops Q env:=by
 obtain⟨e,h1,h2⟩:=ju hp;obtain⟨e',h3,h4⟩:=ju he;rw[h1]at h3;cases h3;refine WO.steps k h1 ?_
 have hd:ops.drop (k+1)=(ops.drop k).drop 1:=by rw[A5]
 rw[hd]at h
 cases hos:ops.drop k with
 | nil=>rw[hos]at h2;cases h2
 | cons o rest =>
  rw[hos]at h2 h4 h;simp only at h2
  split at h2 <;> try cases h2
  rename_i hw
  split at h2 <;> try cases h2
  rename_i hpl;exact WO.pureE hw hpl rfl hX h4 h
theorem WO.appendK {draw:Bool} {all ops:List Oper} {Q:Env→Prop} {env env1 e1:Env} {d e s bytes:Nat} {xs ys zs:List AV} (k:Nat)
  (hp:stepsE P n draw all k ops env (fun os e=>match os with | o::_=>appPreD P draw all o e | []=>none)=some (d,e,s,bytes,xs,ys,env1)) (hz:xs++ys=zs) (hc:capOk bytes zs.length=true) (he:eput n (some d) (.lst e s (some d) zs) env1=some e1) (h:WO P n draw all (ops.drop (k+1)) Q e1):WO P n draw all ops Q env:=by
 obtain⟨e,h1,h2⟩:=ju hp;refine WO.steps k h1 ?_
 have hd:ops.drop (k+1)=(ops.drop k).drop 1:=by rw[A5]
 rw[hd]at h
 cases hos:ops.drop k with
 | nil=>rw[hos]at h2;cases h2
 | cons o rest =>
  rw[hos]at h2 h;exact WO.append (NH h2).1 (NH h2).2 hz hc he h
theorem WO.boolK {draw:Bool} {all ops:List Oper} {Q:Env→Prop} {env:Env} (k:Nat) (E:Bool→Env) (b:Bool) (he:stepsK P n draw all k ops env=some (E b)) (ht:b=true→WO P n draw all (ops.drop k) Q (E true)) (hf:b=false→WO P n draw all (ops.drop k) Q (E false)):WO P n draw all ops Q env :=
 WO.steps k he (WO.bool E b ht hf)
def WB (P:Program) (n:Nat) (all ops:List Oper) (Q:Env→Prop) (env:Env):Prop:=∃ e',Run P (.opsB n all ops env e')∧Q (dropB all e')
theorem W.regionB {id:Nat} {ops:Array Oper} {Q:Ex→Env→Prop} {env:Env} (h0:(orderB ops && jS ops && banOk ops.toList env)=true) (h:WB P n ops.toList ops.toList (Q .normal) env):W P n (.region id ops true) Q env:=by
 obtain⟨e',h1,h2⟩:=h;exact⟨_,_,.regionB h0 h1,h2⟩
def stepB1 (P:Program) (n:Nat) (all:List Oper) (o:Oper) (env:Env):Option Env :=
 match awanted all o env with
 | some true=>astepB P n o env
 | _=>none
def stepsB (P:Program) (n:Nat) (all:List Oper):Nat→List Oper→Env→Option Env
 | 0,_,env=>some env
 | _+1,[],env=>some env
 | k+1,o::rest,env=>match stepB1 P n all o env with
  | some e=>stepsB P n all k rest e
  | none=>none
theorem WB.step {all rest:List Oper} {o:Oper} {Q:Env→Prop} {env e1:Env} (h:stepB1 P n all o env=some e1) (hr:WB P n all rest Q e1):WB P n all (o::rest) Q env:=by
 obtain⟨e',h1,h2⟩:=hr;unfold stepB1 at h;split at h
 ·rename_i hw;exact⟨e',.opB hw h h1,h2⟩
 ·cases h
theorem WB.steps {all:List Oper} {Q:Env→Prop}:∀ (k:Nat) {ops:List Oper} {env e1:Env},stepsB P n all k ops env=some e1→WB P n all (ops.drop k) Q e1→WB P n all ops Q env
 | 0,ops,env,e1,h,hr=>by cases h;exact hr
 | k+1,[],env,e1,h,hr=>by cases h;exact hr
 | k+1,o::rest,env,e1,h,hr=>by
  simp only[stepsB]at h;split at h
  ·rename_i e he;exact WB.step he (WB.steps k h hr)
  ·cases h
def stepsEB (P:Program) (n:Nat) (all:List Oper) (k:Nat) (ops:List Oper) (env:Env) {α:Type} (f:List Oper→Env→Option α):Option α :=
 match stepsB P n all k ops env with
 | some e=>f (ops.drop k) e
 | none=>none
theorem Zb {all ops:List Oper} {k:Nat} {env:Env} {α:Type} {f:List Oper→Env→Option α} {x:α} (h:stepsEB P n all k ops env f=some x):∃ e,stepsB P n all k ops env=some e∧f (ops.drop k) e=some x:=by
 unfold stepsEB at h;split at h
 ·rename_i e he;exact⟨e,he,h⟩
 ·cases h
def quietB:Op→Bool
 | .call { callee:=.builtin .append,.. }=>false
 | .buildSlice ..=>false
 | _=>true
theorem qcx {o:Oper} {env:Env} (h:quietB o.op=true):astepB P n o env=match o.dst,apure P o env with
  | some d,some v=>match memFree o.op && notBox v with
   | true=>eput n o.dst v.strip env
   | false=>none
  | _,_=>none:=by
 unfold astepB
 split <;> first | rfl | simp_all [quietB]
theorem WB.pureK {all ops:List Oper} {Q:Env→Prop} {env e1:Env} {v:AV} (k:Nat) (X:Option AV)
  (hp:stepsEB P n all k ops env (fun os e=>match os with
   | o::_=>match awanted all o e with
    | some true=>match quietB o.op && memFree o.op && notBox v && o.dst.isSome with
     | true=>some (apure P o e)
     | false=>none
    | _=>none
   | []=>none)=some X) (hX:X=some v)
  (he:stepsEB P n all k ops env (fun os e=>match os with | o::_=>eput n o.dst v.strip e | []=>none)=some e1) (h:WB P n all (ops.drop (k+1)) Q e1):WB P n all ops Q env:=by
 obtain⟨e,h1,h2⟩:=Zb hp;obtain⟨e',h3,h4⟩:=Zb he;rw[h1]at h3;cases h3;refine WB.steps k h1 ?_
 have hd:ops.drop (k+1)=(ops.drop k).drop 1:=by rw[A5]
 rw[hd]at h
 cases hos:ops.drop k with
 | nil=>rw[hos]at h2;cases h2
 | cons o rest =>
  rw[hos]at h2 h4 h;simp only at h2
  split at h2 <;> try cases h2
  rename_i hw
  split at h2 <;> try cases h2
  rename_i hpl;simp only[A3]at hpl;refine WB.step (e1:=e1) ?_ h;unfold stepB1;rw[hw];simp only[qcx hpl.1.1.1]
  cases hdst:o.dst with
  | none=>rw[hdst]at hpl;cases hpl.2
  | some d =>
   rw[hX];simp only[hpl.1.1.2,hpl.1.2,Bool.and_self];rw[← hdst];exact h4
def sideB (o:Oper) (env:Env):Bool:=match o.op with
 | .call { callee:=.builtin .append,args,.. }=>match args.toList,o.dst with
  | [.tmp x,.tmp y],some d=>match aop env (.tmp x) with
   | some (.lst _ _ (some c) _)=>A2 c x && !A2 x d && !A2 y d
   | _=>false
  | _,_=>false
 | _=>false
theorem WB.append {all rest:List Oper} {o:Oper} {Q:Env→Prop} {env env1 e1:Env} {d e s bytes:Nat} {xs ys zs:List AV} (hs:sideB o env=true) (hp:appPre P all o env=some (d,e,s,bytes,xs,ys,env1)) (hz:xs++ys=zs) (hc:capOk bytes zs.length=true) (he:eput n (some d) (.lst e s (some d) zs) env1=some e1) (h:WB P n all rest Q e1):WB P n all (o::rest) Q env:=by
 subst hz;simp only[capOk,A3,Nat.ble_eq,List.length_append]at hc;refine WB.step (e1:=e1) ?_ h;unfold stepB1;unfold sideB at hs
 split at hs <;> try (cases hs;done)
 rename_i args ats ho
 split at hs <;> try (cases hs;done)
 rename_i x y d' hax hd'
 split at hs <;> try (cases hs;done)
 rename_i ex0 kx0 c0 xs0 hx0;unfold appPre at hp
 split at hp <;> try cases hp
 rename_i hw;rw[ho]at hp;simp only[hax]at hp
 split at hp <;> try cases hp
 rename_i x' y' t t' d2 hxy hat hd;cases hxy;rw[hd']at hd;cases hd;rw[hx0]at hp
 split at hp <;> try cases hp
 rename_i a b ha hb;cases ha
 split at hp <;> try cases hp
 rename_i e s hse
 split at hp <;> try cases hp
 rename_i hcond
 split at hp <;> try cases hp
 rename_i ey ky l ys
 split at hp <;> try cases hp
 rename_i hky;simp only at hp
 split at hp <;> try cases hp
 rename_i hx
 have e1':aappend P t t' d (.lst ex0 kx0 (some c0) xs) (.lst ey ky l ys) env=some (.lst e s (some d) (xs++ys),relabE d none (relabE c0 none env)):=by
  unfold aappend;simp only[hse];split
  ·rename_i hcf;exact B7 (hcf.symm.trans hcond)
  ·simp only[hky,hx];rw[if_pos hc]
 unfold astepB;rw[ho];simp only[hax,hat,hd',hx0,hb,hs,e1'];exact he
theorem WB.appendK {all ops:List Oper} {Q:Env→Prop} {env env1 e1:Env} {d e s bytes:Nat} {xs ys zs:List AV} (k:Nat)
  (hs:stepsEB P n all k ops env (fun os e=>match os with | o::_=>some (sideB o e) | []=>none)=some true)
  (hp:stepsEB P n all k ops env (fun os e=>match os with | o::_=>appPre P all o e | []=>none)=some (d,e,s,bytes,xs,ys,env1)) (hz:xs++ys=zs) (hc:capOk bytes zs.length=true) (he:eput n (some d) (.lst e s (some d) zs) env1=some e1) (h:WB P n all (ops.drop (k+1)) Q e1):WB P n all ops Q env:=by
 obtain⟨e,h1,h2⟩:=Zb hp;obtain⟨e',h1',h2'⟩:=Zb hs;rw[h1]at h1';cases h1';refine WB.steps k h1 ?_
 have hd:ops.drop (k+1)=(ops.drop k).drop 1:=by rw[A5]
 rw[hd]at h
 cases hos:ops.drop k with
 | nil=>rw[hos]at h2;cases h2
 | cons o rest =>
  rw[hos]at h2 h2' h;exact WB.append (Option.some.inj h2') h2 hz hc he h
def finB (P:Program) (n:Nat) (all ops:List Oper) (keep frz:List Nat) (nl:List (Nat×Nat×Nat×Nat×Nat)) (rl:List (Nat×Option Nat)) (env:Env):Option Env :=
 (stepsB P n all ops.length ops env).map fun e=>weakE keep frz nl rl (dropB all e)
theorem WB.fin {all ops:List Oper} {Q:Env→Prop} {env e2:Env} {c:Code} {Q':Ex→Env→Prop} (keep frz:List Nat) (nl:List (Nat×Nat×Nat×Nat×Nat)) (rl:List (Nat×Option Nat)) (he:finB P n all ops keep frz nl rl env=some e2) (hQ:∀ e,W P n c Q' e→Q e) (h:W P n c Q' e2):WB P n all ops Q env:=by
 unfold finB at he;rw[B9]at he;obtain⟨e1,h1,h2⟩:=he;refine WB.steps ops.length h1 ?_;rw[List.drop_length];exact⟨e1,.nilB,hQ _ (W.weak keep frz nl rl h2 h)⟩
def encL {α:Type} (e k:Nat) (f:α→AV) (l:List α):AV:=.lst e k none (l.map f)
end
end Go.AM
