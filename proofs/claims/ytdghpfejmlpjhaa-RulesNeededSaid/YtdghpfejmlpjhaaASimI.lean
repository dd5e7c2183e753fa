/- s -/
import Derived.Test.YtdghpfejmlpjhaaASimX
import Derived.Still
set_option linter.unusedVariables false
set_option linter.unusedSimpArgs false
namespace Go.AM
open Go.RowKit
section
variable {bs:Base} {n:Nat} {M:Mem} {O:Gh} {env:Env} {a:Act} {w:World} {P:Program}
theorem qeL {d:Nat} {x:AV} (h:x.hasLab d=false) {c:Nat} (hc:x.lab? = some c):c≠d:=by
 intro e;subst e
 simp[AV.hasLab,hc]at h
theorem Inv.clearOwn (h:Inv bs n M O env a w) {d:Nat} (hn:labIn d env=false):Inv bs n M (setO O false d none) env a w:=by
 have hsub:∀ i c g,(setO O false d none) i c=some g→O i c=some g:=by
  intro i c g hg;rw[jL]at hg
  split at hg
  ·cases hg
  ·exact hg
 refine⟨h.size,h.defers,h.below,h.hB,h.cons,h.ext,h.old,fun i c g hg=>h.own i c g (hsub i c g hg),fun i i' c c' g h1 h2=>h.inj i i' c c' g (hsub _ _ _ h1) (hsub _ _ _ h2),⟨h.fix.1,fun c k1 k2=>?_⟩,fun t x hx=>?_⟩
 ·obtain⟨e1,e2,e3⟩:=h.fix.2 c k1 k2;exact⟨(Ja O d none c).1.trans e1,e2,e3⟩
 have hs:=h.slots t x hx;have hl:=qdm hn hx
 have hf:∀ c,c≠d→(setO O false d none) false c=O false c:=fun c hc=>by simp[jL,hc]
 cases x with
 | box cs =>
  refine BoxOk.change hs (Sub.refl M) (fun g hg=>⟨by rw[(Ja O d none t).1];exact hg,rfl,fun _ hm=>hm⟩) fun c g z hz hzl hg=>⟨?_,rfl,fun _ hm=>hm⟩
  simp only[AV.hasLabB,List.any_eq_false]at hl;have:=hl z hz;rw[hf c (qeL (by simpa using this) hzl)];exact hg
 | obj e k xs=>exact ObjOk.change hs (Sub.refl M) (Ja O d none t) fun g _=>⟨rfl,fun _ hm=>hm⟩
 | hob kd ks vs=>exact HobOk.change hs (Sub.refl M) (Ja O d none t) fun g _=>⟨rfl,fun _ hm=>hm⟩
 | bxg cs=>exact BxgOk.change hs (Sub.refl M) (Ja O d none t) (fun s _=>Ja O d none s) fun g _=>⟨rfl,fun _ hm=>hm⟩
 | _ =>
  refine QF ((Zv rfl hs).change (Sub.refl M) (fun s _=>Ja O d none s) fun c g hc hg=>⟨?_,rfl,fun _ hm=>hm⟩);rw[hf c fun e=>by subst e;rw[hl]at hc;cases hc];exact hg
theorem Inv.putFresh (h:Inv bs n M O env a w) {d e k g off cap:Nat} {xs:List AV} {cur:Array Value} {v:Value} (hdn:d<n) (hn:labIn d env=false) (hR:R M (.lst e k none xs) v)
  (hv:(∃ ad,v=.slice ad 0 0)∨(v=.slice (some ⟨g,off,none⟩) xs.length cap∧¬ bs.D g∧(∀ i c,O i c≠some g)∧w.heap[g]? = some (.cells cur e (0,0))∧cur.size=off+cap * k∧xs.length≤cap∧cap≤maxLen∧∀ o,off+xs.length * k≤o→M g o=none)) :
  ∃ O',Inv bs n M O' (ins d (.lst e k (some d) xs) env) (a.put (some d) v) w:=by
 have h1:=h.clearOwn hn
 rcases hv with ⟨ad,rfl⟩ | ⟨rfl,hB,hO,hg,hs,hc,hm,hM⟩
 ·exact⟨_,h1.put hdn ⟨hR.setLab,.inl ⟨ad,rfl⟩⟩⟩
 ·have h2:=h1.setOwn (d:=d) (g:=g) hn (by simp[jL]) (fun i c hc'=>by
   rw[jL]at hc'
   split at hc'
   ·cases hc'
   ·exact hO i c hc') hB (Array.getElem?_eq_some_iff.1 hg).1
  exact⟨_,h2.put hdn ⟨hR.setLab,.inr ⟨g,off,cap,cur,rfl,by simp[jL],hg,hs,hc,hm,hM⟩⟩⟩
theorem NF (h:Inv bs n M O env a w) {o:Oper} {t m:Nat} {ps:Array (Nat×Operand)} (ho:o.op=.buildSlice t m ps) {env':Env} (he:astep P n o env=some env'):Leads P bs n o a w env':=by
 have hsave:=he;unfold astep at he;rw[ho]at he;simp only at he
 split at he
 case h_2=>cases he
 rename_i v hv;unfold fresh at he
 split at he
 ·rename_i e k xs t' hd
  split at he
  ·exact Zz h hv he
  ·rename_i hlab;rw[hd]at he;obtain⟨hdn,rfl⟩:=YD he;unfold apure at hv;rw[ho]at hv;simp only at hv
   split at hv
   case h_2=>cases hv
   rename_i l hl;obtain⟨e1,k1,xs1,us,e2,h1,h2,h3,h4⟩:=QT (P:=P) h ho hl hv;cases e2;have h':=h.grown (row:=none) (fun g e=>by cases e) (World.grownBy_alloc w (.cells us e) none) (Yr h.cons us) (Vr h.cons us e) (fun b o hb _=>ZH us b o hb);have hBle:¬ bs.D w.heap.size:=h.fresh (Nat.le_refl _)
   obtain⟨O',hfin⟩:=h'.putFresh (d:=t') (g:=w.heap.size) (off:=0) (cap:=xs.length) (cur:=us) hdn hlab h3 (.inr ⟨rfl,hBle,fun i c hc=>by have:=(h.own i c _ hc).2;omega,heap_alloc_new w _,by rw[Nat.zero_add];exact h2,Nat.le_refl _,by unfold maxLen;omega,fun o ho=>by
    unfold addRow;rw[if_pos rfl];rw[Nat.zero_add]at ho;unfold cellsAt
    simp[h2,ho]⟩)
   exact⟨_,_,_,O',.inl h1,by rw[hd];exact hfin⟩
 ·rename_i hno;exact Zz h hv he
theorem qfA {M M':Mem} {x:AV} {v:Value} (hs:x.scalar=true) (h:R M x v):R M' x v:=by
 cases x with
 | int k m=>rw[h.int_inv];exact .int _ _
 | bool b=>rw[h.bool_inv];exact .bool _
 | str s=>rw[h.str_inv];exact .str _
 | _=>cases hs
theorem qcU {x:AV} (hs:x.scalar=true):x.one=true:=by
 cases x <;> first | rfl | cases hs
theorem qdQ (h:Inv bs n M O env a w) {o:Oper} {env':Env} (he:aagr P n o env=some env'):Leads P bs n o a w env':=by
 unfold aagr at he
 split at he
 case h_2=>cases he
 rename_i t ps ho
 split at he
 case h_2=>cases he
 rename_i d l hd hl
 split at he
 case h_2=>cases he
 rename_i v hv;obtain⟨u,h1,h2⟩:=VO h ho hl hv;exact⟨u,w,M,O,.inl h1,XG h h2 he⟩
theorem qdN (h:Inv bs n M O env a w) {o:Oper} {env':Env} (he:arow P n o env=some env'):Leads P bs n o a w env':=by
 unfold arow at he
 split at he
 case h_2=>cases he
 rename_i t m ps ho
 split at he
 case h_2=>cases he
 rename_i d e k xs hd hv
 split at he
 case h_2=>cases he
 rename_i hc;simp only[Bool.and_eq_true,List.all_eq_true]at hc;obtain⟨⟨hcl,hk⟩,hx⟩:=hc;have hk:0<k:=Nat.le_of_ble_eq_true hk;rw[Option.map_eq_some_iff]at he;obtain⟨env1,he1,rfl⟩:=he;rw[hd]at he1;obtain⟨hdn,rfl,hdent⟩:=YC he1;unfold apure at hv;rw[ho]at hv;simp only at hv
 split at hv
 case h_2=>cases hv
 rename_i l hl;obtain⟨e1,k1,xs1,us,e2,h1,h2,h3,h4⟩:=QT (P:=P) h ho hl hv;cases e2
 have hlen:∀ x,x∈xs→x.cells.length=k:=fun x hxm=>Nat.eq_of_beq_eq_true (hx x hxm).1
 have h':=h.grown (row:=none) (fun g e=>by cases e) (World.grownBy_alloc w (.cells us e) none) (Sub.refl M) (XS h.cons _) (fun b o _ _=>rfl);obtain⟨O',hfin⟩:=h'.newRow (d:=d) (e:=e) (k:=k) (cap:=xs.length) (g:=w.heap.size) (xs:=xs) (v:=.slice (some ⟨w.heap.size,0,none⟩) xs.length xs.length) (cur:=us) hdn hdent hcl hk
  (fun x hxm=>⟨hlen x hxm,by
   rw[List.all_eq_true];intro c hcm
   exact qcU ((hx x hxm).2 c hcm)⟩)
  (.inr ⟨rfl,h.fresh (Nat.le_refl _),by simp,fun i c hg=>by have:=(h.own i c _ hg).2;omega,heap_alloc_new w _,h2,Nat.le_refl _,by unfold maxLen;omega,fun o=>Qf h.cons (Nat.le_refl _) o,fun j c u hj hu=>by
   have hsc:c.scalar=true:=by
    have hm:=List.mem_of_getElem? hj;unfold flat at hm;obtain⟨x,hxm,hcm⟩:=List.mem_flatMap.1 hm;exact (hx x hxm).2 c hcm
   cases hxs:xs with
   | nil=>rw[hxs]at hj;cases hj
   | cons x0 r0 =>
    generalize hv0:Value.slice (some ⟨w.heap.size,0,none⟩) xs.length xs.length=v0 at h3
    cases h3 with
    | lstn=>cases hv0
    | lste=>rw[hxs]at hv0;cases hv0
    | lst us' g1 g2 g5 g3 g4 =>
     injection hv0 with q1 q2 q3
     injection q1 with q1
     injection q1 with q4 q5
     subst q4;subst q5;have b1:=g3 j c hj;have b2:=g4 j c hj;unfold addRow at b1;rw[if_pos rfl,Nat.zero_add]at b1;have b1:=(Yb b1).1;rw[hu]at b1;rw[Option.some.inj b1]
     exact qfA hsc b2⟩)
 refine⟨_,_,M,O',.inl h1,?_⟩;rw[hd];exact hfin
theorem NX (h:Inv bs n M O env a w) {o:Oper} {env':Env} (he:astep P n o env=some env'):Leads P bs n o a w env':=by
 obtain⟨dst,op,ty,pos,after,guard⟩:=o
 have pure:(match apure P ⟨dst,op,ty,pos,after,guard⟩ env with | some v=>eput n dst v env | none=>none)=some env'→Leads P bs n ⟨dst,op,ty,pos,after,guard⟩ a w env':=by
  intro hp
  split at hp
  ·rename_i v hv;exact Zz h hv hp
  ·cases hp
 cases op with
 | alloc t=>exact qcF h rfl he
 | box t x=>exact qfd h rfl he
 | store t p x=>exact qby h rfl he
 | buildSlice t m ps=>exact NF h rfl he
 | makeSlice t l c=>exact Hi h rfl he
 | makeMap t r =>
  cases r with
  | none=>exact Dx h rfl he
  | some r=>exact pure he
 | range t x=>exact qbO h rfl he
 | mapUpdate t m k v=>exact Hh h rfl he
 | call c =>
  obtain⟨callee,args,ats⟩:=c
  cases callee with
  | value f=>exact pure he
  | invoke r m=>exact pure he
  | builtin b =>
   cases b
   case append=>exact qbq h rfl he
   all_goals exact pure he
 | _=>exact pure he
def OwnR (M:Mem) (B:Nat) (w:World) (x:AV) (v:Value):Prop :=
 match x with
 | .lst e k (some _) xs=>(∃ ad,v=.slice ad 0 0)∨∃ g off cap cur,v=.slice (some ⟨g,off,none⟩) xs.length cap∧B≤g∧w.heap[g]? = some (.cells cur e (0,0))∧cur.size=off+cap * k∧xs.length≤cap∧cap≤maxLen∧∀ o,off+xs.length * k≤o→M g o=none
 | _=>True
def CallOk (P:Program) (f:Nat) (args:List AV) (r:AV):Prop :=
 ∀ (M:Mem) (w:World) (vs:List Value),Glob M→Cons M w→args.length=vs.length→(∀ (j:Nat) c v,args[j]? = some c→vs[j]? = some v→R M c v) →
  Calls P f vs.toArray w fun e w'=>∃ v M',e=.returned v∧Below w.heap.size w w'∧Sub M M'∧Cons M' w'∧(∀ b o,b<w.heap.size→M' b o=M b o)∧R M' r v∧OwnR M' w.heap.size w' r v
def CallMOk (P:Program) (f:Nat) (args:List AV) (hp:Env) (r:AV) (hp':Env):Prop :=
 ∀ (M:Mem) (O:Gh) (w:World) (vs:List Value),Glob M→Cons M w→args.length=vs.length→(∀ i c g,O i c=some g→i=true∧g<w.heap.size)→(∀ c c' g,O true c=some g→O true c'=some g→c=c') →
  (∀ (j:Nat) c v,args[j]? = some c→vs[j]? = some v→ValOk O M w c.strip v)→(∀ id x,look hp id=some x→Sat O M w id x undef) →
  Calls P f vs.toArray w fun e w'=>∃ v M' O',e=.returned v∧BelowD (fun k=>k<w.heap.size∧∀ c,O true c≠some k) w w'∧Sub M M'∧Cons M' w'∧(∀ b o,b<w.heap.size→(∀ c,O true c≠some b)→M' b o=M b o) ∧
   (∀ i c g,O' i c=some g→g<w'.heap.size∧(w.heap.size≤g∨∃ c',O true c'=some g))∧(∀ i i' c c' g,O' i c=some g→O' i' c'=some g→i=i'∧c=c')∧(∀ c,2000000≤c→c<3000000→Gh.Eq1 O O' c) ∧
   ValOk O' M' w' r v∧∀ id x,look hp' id=some x→Sat O' M' w' id x undef
theorem NV {w w':World} (h:Below w.heap.size w w'):w.grownBy w' none:=⟨h.os,h.tape,h.output,h.size,fun k hk _=>h.block k hk⟩
theorem Vq (h : Inv bs n M O env a w) {o : Oper} {fo : Operand} {as : Array Operand} {ats : Array TypeId} (ho : o.op = .call { callee := .value fo, args := as, argTypes := ats }) {g : Nat} {caps l : List AV} (hf : aop env fo = some (.clo g caps)) (hl : optAll (as.toList.map (aop env)) = some l) {fn : Func} (hfn : P.funcs[g]? = some fn) (hb1 : (fn.name != "runtime.NumGoroutine") = true) (hb2 : fn.body.isSome = true) :
  ∃ us cvs:List Value,(execOp a.eval o).run P w=.ok (.enter g (us++cvs).toArray) w∧l.length=us.length∧(∀ (j:Nat) c v,l[j]? = some c→us[j]? = some v→ValOk O M w c v)∧caps.length=cvs.length∧∀ (j:Nat) c v,caps[j]? = some c→cvs[j]? = some v→R M c v:=by
 have hfv:=(qo h hf).1
 obtain⟨cvs,e1,e2,e3⟩:∃ cvs:List Value,a.eval fo=.func (.func g) #[] cvs.toArray∧caps.length=cvs.length∧∀ (j:Nat) c v,caps[j]? = some c→cvs[j]? = some v→R M c v:=by
  generalize a.eval fo=y at hfv
  cases hfv with
  | clo h1 h2=>exact⟨_,rfl,h1,h2⟩
 obtain⟨l1,l2⟩:=Um h hl;refine⟨as.toList.map a.eval,cvs,?_,l1,l2,e2,e3⟩;unfold execOp;rw[ho];simp only[resolve,Sem.run_bind,e1,Deferred.ofValue,Sem.run_pure,Result.andThen_ok,invoke];unfold callFunc
 have hne : (fn.name == "runtime.NumGoroutine") = false := by simpa [bne] using hb1
 simp only[Sem.run_bind,run_program,Result.andThen_ok,hfn,hne,Bool.false_eq_true,if_false]
 have:fn.body.isNone=false:=by
  cases hbd:fn.body with
  | none=>rw[hbd]at hb2;cases hb2
  | some c=>rfl
 rw[this];simp only[Bool.false_eq_true,if_false,Sem.run_pure]
 congr 2
 apply Array.ext'
 simp
theorem Vu {Q:AV→Value→Prop} {l caps:List AV} {us cvs:List Value} (hlen:l.length=us.length) (h1:∀ (j:Nat) c v,l[j]? = some c→us[j]? = some v→Q c v) (h2:∀ (j:Nat) c v,caps[j]? = some c→cvs[j]? = some v→Q c v) :
  ∀ (j:Nat) c v,(l++caps)[j]? = some c→(us++cvs)[j]? = some v→Q c v:=by
 intro j c v hc hv
 by_cases hj:j<l.length
 ·rw[List.getElem?_append_left hj]at hc;rw[List.getElem?_append_left (by rw[← hlen];exact hj)]at hv;exact h1 j c v hc hv
 ·rw[List.getElem?_append_right (Nat.le_of_not_lt hj)]at hc;rw[List.getElem?_append_right (by rw[← hlen];exact Nat.le_of_not_lt hj),← hlen]at hv;exact h2 _ c v hc hv
theorem qbl (h:Inv bs n M O env a w) {o:Oper} {f:Nat} {args:List AV} (hc:acallee P o env=some (f,args)) :
  ∃ vs:List Value,(execOp a.eval o).run P w=.ok (.enter f vs.toArray) w∧args.length=vs.length∧∀ (j:Nat) c v,args[j]? = some c→vs[j]? = some v→R M c v:=by
 unfold acallee at hc
 split at hc
 case h_2=>cases hc
 rename_i fo as ats ho
 split at hc
 case h_2=>cases hc
 rename_i g caps l hf hl
 split at hc
 case h_2=>cases hc
 rename_i fn hfn
 split at hc
 case h_2=>cases hc
 rename_i hb;cases hc;simp only[Bool.and_eq_true]at hb;obtain⟨⟨hb1,hb2⟩,hb3⟩:=hb;obtain⟨us,cvs,h1,h2,h3,h4,h5⟩:=Vq h ho hf hl hfn hb1 hb2;refine⟨us++cvs,h1,by simp;omega,Vu (by simpa using h2) (fun j c v hc hv=>?_) h5⟩;rw[List.getElem?_map]at hc
 cases hz:l[j]? with
 | none=>rw[hz]at hc;cases hc
 | some z =>
  rw[hz]at hc;cases hc;have:=h3 j z v hz hv;simp only[List.all_eq_true]at hb3;have hz3:=hb3 z (List.mem_of_getElem? hz);refine (this.r (fun s=>?_) (fun _ _ e=>by subst e;cases hz3) fun _ e=>by subst e;cases hz3).strip
  cases z <;> first | rfl | cases hz3
def memX (M:Mem) (O:Gh) (env:Env) (w:World):Mem:=fun b o=>mc w b o
theorem Xc (h:Inv bs n M O env a w):Sub M (memX M O env w):=fun b o u hu=>h.cons b o u hu
theorem qeN (h:Inv bs n M O env a w):Cons (memX M O env w) w:=fun b o u hu=>hu
theorem qdU (h:Inv bs n M O env a w) {id e e' k off m:Nat} {xs:List AV} {v:Value} (hx:SbOk O id k off m v) (hl:look env id=some (.obj e' k xs)):R (memX M O env w) (.lst e k none (snapA off m xs)) v:=by
 obtain⟨h0,h3,h4,h5⟩:=h.slots id _ hl;obtain⟨q1,q2⟩:=hx
 have hlen:(snapA off m xs).length=m:=by unfold snapA;simp;omega
 have hsub:∀ y,y∈snapA off m xs→y∈xs:=fun y hy=>List.mem_of_mem_drop (List.mem_of_mem_take hy)
 rcases q2 with ⟨rfl,ad,rfl⟩ | ⟨g,cap,rfl,k1,k2,k3,k4⟩
 ·have:snapA off 0 xs=[]:=by simp[snapA]
  rw[this]
  cases ad with
  | none=>exact .lstn _ _ _
  | some ad=>exact .lste _ _ _ _ _
 ·rcases h5 with ⟨rfl,hn⟩ | ⟨g',cur,f1,f2,f3,f4,f5,f6⟩
  ·rw[hn]at k1;cases k1
  have:g'=g:=by rw[f1]at k1;exact Option.some.inj k1
  subst this
  have hty:∀ y,y∈xs→y.cells.length=k:=fun y hy=>(h3 y hy).1
  have hcell:∀ (j:Nat) c,(flat (snapA off m xs))[j]? = some c→cur[off * k+j]? = some (cur.getD (off * k+j) undef)∧R M c (cur.getD (off * k+j) undef):=by
   intro j c hj
   have hj2:(flat xs)[off * k+j]? = some c:=by
    unfold snapA at hj;rw[Xu (k:=k) m (fun y hy=>hty y (List.mem_of_mem_drop hy)),Xv off hty,List.getElem?_take]at hj
    split at hj
    ·rw[List.getElem?_drop]at hj;exact hj
    ·cases hj
   have hlt:=(List.getElem?_eq_some_iff.1 hj2).1;rw[qW hty]at hlt
   have e1:cur[off * k+j]? = some (cur.getD (off * k+j) undef):=by
    have:off * k+j<cur.size:=by omega
    simp[this]
   exact⟨e1,f6 _ _ _ hj2 e1⟩
  have:=R.lst (M:=memX M O env w) (e:=e) (k:=k) (l:=none) (xs:=snapA off m xs) (b:=g') (off:=off * k) (cap:=cap) (fun j=>cur.getD (off * k+j) undef) (by rw[hlen];exact k3) (fun y hy=>hty y (hsub y hy)) (fun y hy=>(h3 y (hsub y hy)).2)
   (fun j c hj=>by
    unfold memX;rw[mcRowAt f2]
    exact Jd (hcell j c hj).1 (QR ((hcell j c hj).2.one (Zp (fun y hy=>(h3 y (hsub y hy)).2) hj)))) (fun j c hj=>(hcell j c hj).2.mono (Xc h))
  rw[hlen]at this;exact this
theorem qcu (h:Inv bs n M O env a w) {s g:Nat} {cs:List AV} (hl:look env s=some (.box cs)) (hO:O true s=some g) {y:AV} (hy:y.cells=cs.map AV.strip):R (memX M O env w) (.ptr y) (.pointer (some ⟨g,0,none⟩)):=by
 obtain⟨cur,el,h1,h2,h3,h4⟩:=Zr h hl hO
 have hcell:∀ (j:Nat) c,y.cells[j]? = some c→cur[j]? = some (cur.getD j undef)∧R M c (cur.getD j undef)∧isTup (cur.getD j undef)=false:=by
  intro j c hc;rw[hy,List.getElem?_map]at hc
  cases hz:cs[j]? with
  | none=>rw[hz]at hc;cases hc
  | some z =>
   rw[hz]at hc;cases hc;obtain⟨q1,q2,q3,_⟩:=h4 j z hz
   have hj:j<cur.size:=by rw[h2];exact (List.getElem?_eq_some_iff.1 hz).1
   exact⟨by simp[hj],q3.strip,QR (q3.one q2)⟩
 refine R.ptr (fun j=>cur.getD j undef) (fun j c hc=>?_) (fun j c hc=>(hcell j c hc).2.1.mono (Xc h)) fun j c hc=>(hcell j c hc).2.2
 unfold memX;rw[mcRow h1,Nat.zero_add];exact Jd (hcell j c hc).1 (hcell j c hc).2.2
theorem qfQ (h:Inv bs n M O env a w) {id g:Nat} {ks vs:List AV} (hl:look env id=some (.hob 0 ks vs)) (h1:O true id=some g):R (memX M O env w) (.mpv ks vs) (.map (some g)):=by
 obtain⟨g',k1,k2,es,clock,k3,k4⟩:=h.slots id _ hl
 have:g'=g:=by rw[k1]at h1;exact Option.some.inj h1
 subst this;obtain⟨q1,q2,q3,q4,q5,q6⟩:=k4
 exact .mpv (Zj k3) q1 q2 q3 q4 q5 fun j v e hv he=>(q6 j v e hv he).mono (Xc h)
theorem qdM {z c:AV} (h:asnapC env z=some c):c.one=true:=by
 unfold asnapC at h
 split at h
 ·split at h
  ·cases h;rfl
  ·cases h
 ·split at h
  ·split at h
   ·cases h;rfl
   ·cases h
  ·cases h
 ·split at h
  ·rename_i h1;cases h;exact JS h1
  ·cases h
theorem UW (h:Inv bs n M O env a w) {t:Nat} {x y:AV} {v:Value} (hx:CellR O M t x v) (hs:asnapC env x=some y):R (memX M O env w) y v:=by
 unfold asnapC at hs
 split at hs
 ·rename_i id
  split at hs
  case h_2=>cases hs
  rename_i ks vs hl;cases hs;obtain⟨_,g,h1,h2⟩:=hx;rw[h2];exact qfQ h hl h1
 ·rename_i id e k off m
  split at hs
  case h_2=>cases hs
  rename_i e' k2 xs hl
  split at hs
  case h_2=>cases hs
  rename_i hk;have hk:=Nat.eq_of_beq_eq_true hk;subst hk;cases hs;exact qdU h hx hl
 ·split at hs
  ·rename_i h1;cases hs;exact (hx.to_r h1).mono (Xc h)
  ·cases hs
theorem UV (h:Inv bs n M O env a w) {x y:AV} {v:Value} (hx:CapOk O M x v) (hs:asnapP env x=some y):R (memX M O env w) y v:=by
 unfold asnapP at hs
 split at hs
 ·cases hs;exact R.mono (Xc h) hx
 ·rename_i s;obtain⟨g,h1,h2⟩:=hx;subst h1
  split at hs
  ·rename_i c hl;cases hs;refine qcu h hl h2 ?_;obtain⟨cur,el,k1,k2,k3,k4⟩:=Zr h hl h2;have:=(k4 0 c rfl).2.1;rw[XT (JS this)];rfl
  ·rename_i cs _ hl;cases hs;exact qcu h hl h2 rfl
  ·rename_i cs hl;obtain⟨g',cur,el,k1,k2,k3,k4,k5,k6⟩:=h.slots s _ hl
   have:g'=g:=by rw[k2]at h2;exact Option.some.inj h2
   subst this
   have key:∀ (l:List AV) (y:AV),optAll (cs.map (asnapC env))=some l→y.cells=l→R (memX M O env w) (.ptr y) (.pointer (some ⟨g',0,none⟩)):=by
    intro l y hl' hy;have hsp:=jH hl'
    have hlen:cs.length=l.length:=by simpa using congrArg List.length hsp
    have hcell:∀ (j:Nat) c,y.cells[j]? = some c→cur[j]? = some (cur.getD j undef)∧R (memX M O env w) c (cur.getD j undef)∧isTup (cur.getD j undef)=false:=by
     intro j c hc;rw[hy]at hc;have hjj:=congrArg (fun q=>q[j]?) hsp;simp only[List.getElem?_map,hc,Option.map_some]at hjj
     cases hz:cs[j]? with
     | none=>rw[hz]at hjj;cases hjj
     | some z =>
      rw[hz]at hjj;have hz2:asnapC env z=some c:=Option.some.inj hjj
      have hj:j<cur.size:=by rw[k4];exact (List.getElem?_eq_some_iff.1 hz).1
      have e:cur[j]? = some (cur.getD j undef):=by simp[hj]
      have q:=k6 j z _ hz e;exact⟨e,UW h q hz2,QR q.one⟩
    refine R.ptr (fun j=>cur.getD j undef) (fun j c hc=>?_) (fun j c hc=>(hcell j c hc).2.1) fun j c hc=>(hcell j c hc).2.2
    unfold memX;rw[mcRow k3,Nat.zero_add];exact Jd (hcell j c hc).1 (hcell j c hc).2.2
   split at hs
   ·rename_i c hl';cases hs;refine key [c] c hl' ?_;have hsp:=jH hl';have h0:=congrArg (fun q=>q[0]?) hsp
    cases hc0:cs[0]? with
    | none=>simp[hc0]at h0
    | some z =>
     simp[hc0]at h0
     exact XT (qdM h0)
   ·rename_i l _ hl';cases hs;exact key l _ hl' rfl
   ·cases hs
  ·cases hs
 ·cases hs
theorem qcA (h:Inv bs n M O env a w) {x y:AV} {v:Value} (hx:ValOk O M w x v) (hs:asnap env x=some y):R (memX M O env w) y v:=by
 cases x with
 | sb id e k off m =>
  simp only[asnap]at hs
  split at hs
  case h_2=>cases hs
  rename_i e' k2 xs hl
  split at hs
  case h_2=>cases hs
  rename_i hk;have hk:=Nat.eq_of_beq_eq_true hk;subst hk;cases hs;exact qdU h hx hl
 | mb kd id =>
  cases kd with
  | succ kd=>simp[asnap]at hs
  | zero =>
   simp only[asnap]at hs
   split at hs
   case h_2=>cases hs
   rename_i ks vs hl;cases hs;obtain⟨g,h1,h2⟩:=hx;obtain⟨g',k1,k2,es,clock,k3,k4⟩:=h.slots id _ hl
   have:g'=g:=by rw[k1]at h1;exact Option.some.inj h1
   subst this;obtain⟨q1,q2,q3,q4,q5,q6⟩:=k4;rw[h2]
   exact .mpv (Zj k3) q1 q2 q3 q4 q5 fun j v e hv he=>(q6 j v e hv he).mono (Xc h)
 | clb f caps =>
  simp only[asnap]at hs
  split at hs
  case h_2=>cases hs
  rename_i l hl;cases hs;obtain⟨vs,h1,h2,h3⟩:=hx;subst h1;have hsp:=jH hl
  have hlen:caps.length=l.length:=by simpa using congrArg List.length hsp
  refine .clo (by omega) fun j c v hc hv=>?_
  have hjj:=congrArg (fun q=>q[j]?) hsp;simp only[List.getElem?_map,hc,Option.map_some]at hjj
  cases hz:caps[j]? with
  | none=>rw[hz]at hjj;cases hjj
  | some z =>
   rw[hz]at hjj;exact UV h (h3 j z v hz hv) (Option.some.inj hjj)
 | box cs=>cases hs
 | obj e k xs=>cases hs
 | hob kd ks vs=>cases hs
 | bxg cs=>cases hs
 | slf=>cases hs
 | agr cs =>
  simp only[asnap]at hs
  split at hs
  case h_2=>cases hs
  rename_i l hl;cases hs;obtain⟨us,h1,h2,h3⟩:=hx;subst h1;have hsp:=jH hl
  have hlen:cs.length=l.length:=by simpa using congrArg List.length hsp
  refine R.agg (by omega) fun j c v hc hv=>?_
  have hjj:=congrArg (fun q=>q[j]?) hsp;simp only[List.getElem?_map,hc,Option.map_some]at hjj
  cases hz:cs[j]? with
  | none=>rw[hz]at hjj;cases hjj
  | some z =>
   rw[hz]at hjj;exact UW h (h3 j z v hz hv).1 (Option.some.inj hjj)
 | pb s o =>
  simp only[asnap]at hs;exact UV h (x:=.pb s o) hx hs
 | pe s k j o=>cases hs
 | tpr id e k off m rest=>cases hs
 | _ =>
  simp only[asnap,Option.some.injEq]at hs;subst hs;exact (hx.1.mono (Xc h)).strip
theorem DD (h:Inv bs n M O env a w) {o:Oper} {f:Nat} {args:List AV} (hc:Qr P o env=some (f,args)) :
  ∃ vs:List Value,(execOp a.eval o).run P w=.ok (.enter f vs.toArray) w∧args.length=vs.length∧∀ (j:Nat) c v,args[j]? = some c→vs[j]? = some v→R (memX M O env w) c v:=by
 unfold Qr at hc
 split at hc
 case h_2=>cases hc
 rename_i fo as ats ho
 split at hc
 case h_2=>cases hc
 rename_i g caps l hf hl
 split at hc
 case h_2=>cases hc
 rename_i fn hfn
 split at hc
 case h_2=>cases hc
 rename_i l' hb hl';cases hc;simp only[Bool.and_eq_true]at hb;obtain⟨hb1,hb2⟩:=hb;obtain⟨us,cvs,h1,h2,h3,h4,h5⟩:=Vq h ho hf hl hfn hb1 hb2;have hsp:=jH hl'
 have hlen:l.length=l'.length:=by simpa using congrArg List.length hsp
 refine⟨us++cvs,h1,by simp;omega,Vu (by omega) (fun j c v hc hv=>?_) fun j c v hc hv=>(h5 j c v hc hv).mono (Xc h)⟩;have hjj:=congrArg (fun q=>q[j]?) hsp;simp only[List.getElem?_map,hc,Option.map_some]at hjj
 cases hz:l[j]? with
 | none=>rw[hz]at hjj;cases hjj
 | some z =>
  rw[hz]at hjj;exact qcA h (h3 j z v hz hv) (Option.some.inj hjj)
theorem qgE {M M':Mem} {x:AV} {v:Value} (hp:x.plain=true) (h:R M x v):R M' x v:=by
 cases h with
 | int k n=>exact .int k n
 | bool b=>exact .bool b
 | str s=>exact .str s
 | @agg cs vs hl hr =>
  refine .agg hl fun j c u hc hu=>?_
  simp only[AV.plain,List.all_eq_true]at hp;have h1:=hp c (List.mem_of_getElem? hc);have h2:=hr j c u hc hu
  cases h2 <;> first | exact .int _ _ | exact .bool _ | exact .str _ | cases h1
 | @tup cs vs hl hr =>
  refine .tup hl fun j c u hc hu=>?_
  simp only[AV.plain,List.all_eq_true]at hp;have h1:=hp c (List.mem_of_getElem? hc);have h2:=hr j c u hc hu
  cases h2 <;> first | exact .int _ _ | exact .bool _ | exact .str _ | cases h1
 | _=>cases hp
theorem DY {x:AV} (hp:x.plain=true):x.lab? = none:=by
 cases x <;> first | rfl | cases hp
end
end Go.AM
