import Derived.Test.YtdghpfejmlpjhaaASimF
set_option linter.all false
open Nat renaming le_of_ble_eq_true→A0, eq_of_beq_eq_true→A5, add_mul→A6, le_refl→A7, zero_add→C0, mul_le_mul_right→D3, add_zero→D7, lt_of_lt_of_le→E0
open Bool renaming and_eq_true→A1
open List renaming mem_of_getElem?→A2, eq_nil_of_length_eq_zero→A4, append_assoc→A9, getElem?_take→B1, all_eq_true→C7, getElem?_map→D0, getElem?_drop→D2, getElem?_append_left→D4, length_map→D5, any_eq_false→D6, getElem?_append_right→D8, any_map→D9, set_eq_take_append_cons_drop→E8, length_append→E9, take_left→F6, size_toArray→F7, nil_append→F8, getElem?_eq_getElem→F9, take_of_length_le→G0
open Go.Sem renaming run_bind→A3, run_pure→E7
open Array renaming length_toList→A8, toList_append→G1
open Go.Result renaming andThen_ok→D1
namespace Go.AM
open Go.RowKit
variable {p x:Operand} {t:TypeId} {d el g j k off s sz:Nat} {v y:AV} {cur:LO} {cs vs:LJ} {env':Env} {o:Oper}
section
variable {bs:Base} {n:Nat} {M:Mem} {O:Gh} {env:Env} {a:Act} {w:World} {P:Program}
theorem Ha {l:Nat} {x:AV}:(x.relab l none).hasLab l=false:=by
 cases x with
 | lst e k o xs =>
  cases o with
  | none=>rfl
  | some c =>
   simp only[AV.relab];split
   .rfl
   rename_i h;exact h
 | _=>rfl
theorem Zh (l:Nat) (env:Env):labIn l (relabE l none env)=false:=by
 unfold labIn relabE;rw[D9,D6]
 rintro⟨t,x⟩ _
 simp only[Function.comp]
 cases x with
 | box cs =>
  simp only[AV.relabB,AV.hasLabB,D9,Bool.not_eq_true,D6];intro z _;simp only[Function.comp,Ha]
 | agr cs =>
  simp only[AV.relabB,AV.hasLabB,D9,Bool.not_eq_true,D6];intro z _;simp only[Function.comp,Ha]
 | lst e k o xs =>
  have h:=Ha (l:=l) (x:=.lst e k o xs);show ¬ ((AV.lst e k o xs).relab l none).hasLabB l=true
  have:∃ o',(AV.lst e k o xs).relab l none=.lst e k o' xs:=by
   cases o with
   | none=>exact⟨_,rfl⟩
   | some c=>simp only[AV.relab];split <;> exact⟨_,rfl⟩
  obtain⟨o',ho'⟩:=this;rw[ho']at h ⊢;rw[show (AV.lst e k o' xs).hasLabB l=(AV.lst e k o' xs).hasLab l from rfl,h]
  exact fun e=>by cases e
 | _=>exact fun e=>by cases e
theorem qjC (O:Gh) (l:Nat) (m:LR) (s:Nat):relO O l m true s=O true s:=by
 cases m <;> simp[relO,setO]
theorem Hl:∀ {env:Env} {s:Nat} {x:AV},look env s=some x->∃ q∈env,q.1=s/\q.2=x
 | [],s,x,h=>by simp[look]at h
 | (s',z)::r,s,x,h=>by
  simp only[look]at h;split at h
  .rename_i hs;cases h;exact⟨_,List.mem_cons_self ..,A5 hs,rfl⟩
  obtain⟨q,hq,h1,h2⟩:=Hl h;exact⟨q,List.mem_cons_of_mem _ hq,h1,h2⟩
theorem Jx {t:Nat} {env:Env} (h:clearOf t env=true):(∀ x,look env t≠some x)/\∀ s x,look env s=some x->x.refs t=false:=by
 unfold clearOf at h;rw[C7]at h;refine⟨fun x hx=>?_,fun s x hx=>?_⟩
 .obtain⟨q,hq,h1,_⟩:=Hl hx;have:=h q hq;simp only[A1,Bool.not_eq_true']at this;rw[h1]at this;simp at this
 obtain⟨q,hq,_,h2⟩:=Hl hx;have:=h q hq;simp only[A1,Bool.not_eq_true']at this;rw[h2]at this;exact this.2
theorem ji {O:Gh} {t:Nat} {v:LR} (h:t≠d):Gh.Eq1 O (setO O true d v) t:=⟨by simp[jU,h],rfl,rfl⟩
theorem Inv.newEnt (h:Inv bs n M O env a w) (hd:d<n) (hc:clearOf d env=true) {x:AV} (el:TypeId)
  (hsat:Sat (setO O true d (some w.heap.size)) M (w.alloc (.cells cur el)) d x (.pointer (some ⟨w.heap.size,0,none⟩))) :
  Inv bs n M (setO O true d (some w.heap.size)) (ins d x env) (a.put (some d) (.pointer (some ⟨w.heap.size,0,none⟩))) (w.alloc (.cells cur el)):=by
 obtain⟨c1,c2⟩:=Jx hc;have hfresh:=h.fresh (A7 w.heap.size)
 have hsz:(w.alloc (.cells cur el)).heap.size=w.heap.size+1:=by simp
 have hlt:∀ k,bs.D k->k<w.heap.size:=fun k hk=>by have:=h.hB k hk;have:=h.below.size;omega
 refine⟨by simp[Act.put,h.size],h.defers,h.below.step (D':=fun k=>k<w.heap.size) ⟨rfl,rfl,rfl,by simp,fun k hk=>heap_alloc_old w _ hk⟩ hlt,h.hB,ZA h.cons _,h.ext,h.old,?_,?_,⟨h.fix.1,fun c k1 k2=>?_⟩,?_⟩
 .intro i c g hg;rw[jU]at hg;split at hg
  .cases hg;exact⟨hfresh,by rw[hsz];omega⟩
  obtain⟨k1,k2⟩:=h.own i c g hg;exact⟨k1,by rw[hsz];omega⟩
 .intro i i' c c' g hg hg';rw[jU]at hg hg';split at hg <;> split at hg'
  .rename_i e1 e2;exact⟨e1.1.trans e2.1.symm,e1.2.trans e2.2.symm⟩
  .cases hg;have:=(h.own i' c' _ hg').2;omega
  .cases hg';have:=(h.own i c _ hg).2;omega
  exact h.inj i i' c c' g hg hg'
 .obtain⟨e1,e2,e3⟩:=h.fix.2 c k1 k2
  have hne:c≠d:=by have:=h.fix.1;omega
  obtain⟨f1,f2,f3⟩:=ji (O:=O) (v:=some w.heap.size) hne;exact⟨f1.trans e1,f2.trans e2,f3.trans e3⟩
 intro t y hx;rw[je]at hx;rw[qdc (by rw[h.size];exact hd)];by_cases htd:t=d
 .rw[if_pos htd]at hx;cases hx;rw[if_pos htd];subst htd;exact hsat
 rw[if_neg htd]at hx;rw[if_neg htd]
 refine (h.slots t y hx).change2 (Sub.refl M) (fun _=>ji htd) (fun s hs=>ji fun e=>?_) (fun g _ hg=>⟨heap_alloc_old w _ (h.own _ _ _ hg).2,fun _ hm=>hm⟩) fun c g hg=>⟨by simp[setO,hg],heap_alloc_old w _ (h.own _ _ _ hg).2,fun _ hm=>hm⟩
 rw[e]at hs;rw[c2 t y hx]at hs;cases hs
theorem Inv.newBox (h:Inv bs n M O env a w) (hd:d<n) (hc:clearOf d env=true) (el:TypeId) (hl:cs.length=cur.size)
  (hcs:∀ (j:Nat) c u,cs[j]? = some c->cur[j]? = some u->c.one=true/\R M c u/\c.lab? = none) :
  Inv bs n M (setO O true d (some w.heap.size)) (ins d (.box cs) env) (a.put (some d) (.pointer (some ⟨w.heap.size,0,none⟩))) (w.alloc (.cells cur el)):=by
 obtain⟨c1,c2⟩:=Jx hc;have hfresh:=h.fresh (A7 w.heap.size)
 have hsz:(w.alloc (.cells cur el)).heap.size=w.heap.size+1:=by simp
 have hlt:∀ k,bs.D k->k<w.heap.size:=fun k hk=>by have:=h.hB k hk;have:=h.below.size;omega
 refine⟨by simp[Act.put,h.size],h.defers,h.below.step (D':=fun k=>k<w.heap.size) ⟨rfl,rfl,rfl,by simp,fun k hk=>heap_alloc_old w _ hk⟩ hlt,h.hB,ZA h.cons _,h.ext,h.old,?_,?_,⟨h.fix.1,fun c k1 k2=>?_⟩,?_⟩
 .intro i c g hg;rw[jU]at hg;split at hg
  .cases hg;exact⟨hfresh,by rw[hsz];omega⟩
  obtain⟨k1,k2⟩:=h.own i c g hg;exact⟨k1,by rw[hsz];omega⟩
 .intro i i' c c' g hg hg';rw[jU]at hg hg';split at hg <;> split at hg'
  .rename_i e1 e2;exact⟨e1.1.trans e2.1.symm,e1.2.trans e2.2.symm⟩
  .cases hg;have:=(h.own i' c' _ hg').2;omega
  .cases hg';have:=(h.own i c _ hg).2;omega
  exact h.inj i i' c c' g hg hg'
 .obtain⟨e1,e2,e3⟩:=h.fix.2 c k1 k2
  have hne:c≠d:=by have:=h.fix.1;omega
  obtain⟨f1,f2,f3⟩:=ji (O:=O) (v:=some w.heap.size) hne;exact⟨f1.trans e1,f2.trans e2,f3.trans e3⟩
 intro t x hx;rw[je]at hx;rw[qdc (by rw[h.size];exact hd)];by_cases htd:t=d
 .rw[if_pos htd]at hx;cases hx;rw[if_pos htd];subst htd;refine⟨w.heap.size,cur,el,.inl rfl,by simp[setO],heap_alloc_new w _,hl.symm,fun o=>Xb h.cons (A7 _) o,fun j c u hc' hu=>?_⟩;obtain⟨k1,k2,k3⟩:=hcs j c u hc' hu;refine⟨k1,k2,?_⟩
  cases c with
  | lst e k o xs=>cases o with
   | none=>trivial
   | some _=>cases k3
  | _=>trivial
 rw[if_neg htd]at hx;rw[if_neg htd]
 refine (h.slots t x hx).change2 (Sub.refl M) (fun _=>ji htd) (fun s hs=>ji fun e=>?_) (fun g _ hg=>⟨heap_alloc_old w _ (h.own _ _ _ hg).2,fun _ hm=>hm⟩) fun c g hg=>⟨by simp[setO,hg],heap_alloc_old w _ (h.own _ _ _ hg).2,fun _ hm=>hm⟩
 rw[e]at hs;rw[c2 t x hx]at hs;cases hs
theorem VW {x:AV} {env:Env} (he:eput n (some d) x env=some env'):d<n/\env'=ins d x env:=by
 unfold eput at he;simp only at he;split at he
 .rename_i hc;cases he;simp only[A1]at hc;exact⟨A0 hc.1,rfl⟩
 cases he
theorem qhs (h:Inv bs n M O env a w) (ho:o.op=.alloc t) (he:astep P n o env=some env'):Leads P bs n o a w env':=by
 unfold astep at he;rw[ho]at he;simp only at he;split at he
 case h_2=>cases he
 rename_i d hd;split at he
 case h_2=>cases he
 rename_i z hc hz;split at he
 case h_2=>cases he
 rename_i hone;rw[hd]at he;obtain⟨hdn,rfl⟩:=VW he;obtain⟨it,zv,hi,hzz,hzr,hzo⟩:=Xo (M:=M) hz;refine⟨.pointer (some ⟨w.heap.size,0,none⟩),w.alloc (.cells zv.cells t),M,_,.inl ?_,by rw[hd];exact h.newBox hdn hc t hzr.1 fun j c u hc' hu=>⟨(hzo c (A2 hc')).1,hzr.2 j c u hc' hu,(hzo c (A2 hc')).2⟩⟩
 have hx:execOp a.eval o=vS (Instr.alloc t true (.tuple #[])):=by unfold execOp;rw[ho];rfl
 rw[hx];refine NI ?_;unfold Instr.alloc;simp[zeroValue,typeInfo,hi,hzz,newVar,newRow]
theorem qkh (h:Inv bs n M O env a w) (ho:o.op=.box t x) (he:astep P n o env=some env'):Leads P bs n o a w env':=by
 unfold astep at he;rw[ho]at he;simp only at he
 have hexec:(execOp a.eval o).run P w=.ok (.value (.pointer (some ⟨w.heap.size,0,none⟩))) (w.alloc (.cells (a.eval x).cells t)):=by
  have hx:execOp a.eval o=vS (Instr.box t (a.eval x)):=by unfold execOp;rw[ho];rfl
  rw[hx];refine NI ?_;unfold Instr.box;simp[newVar,newRow]
 split at he
 case h_3=>cases he
 case h_1 =>
  rename_i d cs hd hv;obtain⟨us,e1,e2,e3⟩:=qv h hv
  have hcells:(a.eval x).cells=us.toArray:=by rw[e1];rfl
  split at he
  .rename_i hc;simp only[A1]at hc;obtain⟨⟨hc,hone⟩,_⟩:=hc;rw[hd]at he;obtain⟨hdn,rfl⟩:=VW he
   exact⟨_,_,M,_,.inl hexec,by
    rw[hd];refine h.newEnt hdn hc t ⟨w.heap.size,_,t,.inl rfl,by simp[setO],heap_alloc_new w _,by rw[hcells];simp[e2],fun o=>Xb h.cons (A7 _) o,fun j c u hc' hu=>?_⟩
    have hu':us[j]? = some u:=by rw[hcells]at hu;simpa using hu
    obtain⟨k1,k2,k3⟩:=e3 j c u hc' hu';have h1:=List.all_eq_true.1 hone c (A2 hc');refine⟨h1,?_,k2.change fun c' g' _ hg'=>⟨by simp[setO,hg'],heap_alloc_old w _ (h.own _ _ _ hg').2,fun _ hm=>hm⟩⟩;unfold CellR at k1
    cases c <;> first | exact k1.2 | cases h1⟩
  split at he
  case h_2=>cases he
  rename_i hc;simp only[A1]at hc;obtain⟨⟨hc,hok⟩,_⟩:=hc;rw[hd]at he;obtain⟨hdn,rfl⟩:=VW he;have hnr:=(Jx hc).2
  exact⟨_,_,M,_,.inl hexec,by
   rw[hd];refine h.newEnt hdn hc t ⟨w.heap.size,_,t,.inl rfl,by simp[setO],heap_alloc_new w _,by rw[hcells];simp[e2],fun o=>Xb h.cons (A7 _) o,fun j c u hc' hu=>?_⟩
   have hu':us[j]? = some u:=by rw[hcells]at hu;simpa using hu
   rw[D0]at hc'
   cases hz:cs[j]? with
   | none=>rw[hz]at hc';cases hc'
   | some z =>
    rw[hz]at hc';cases hc';obtain⟨k1,k2,k3⟩:=e3 j z u hz hu';have h1:=List.all_eq_true.1 hok z (A2 hz);have hn1:d<1000000:=E0 hdn h.fix.1
    cases z with
    | sb id e' k off m =>
     have:id≠d:=fun e=>by
      have h2:=A0 h1;subst e;exact absurd hn1 (Nat.not_lt_of_le h2)
     exact SbOk.change (show SbOk O id k off m u from k1) (ji this)
    | mb kd id =>
     obtain⟨q1,g,q2,q3⟩:=k1;subst q1
     have:id≠d:=fun e=>by
      have h2:=A0 h1;subst e;exact absurd hn1 (Nat.not_lt_of_le h2)
     exact⟨rfl,g,by rw[(ji (O:=O) this).1];exact q2,q3⟩
    | lst e' k l xs=>exact⟨rfl,k1.2.setLab⟩
    | _=>first | exact k1 | cases h1⟩
 rename_i d v hnag hd hv;split at he
 case h_2=>cases he
 rename_i hc;simp only[A1]at hc;obtain⟨⟨hc,hone⟩,_⟩:=hc;rw[hd]at he;obtain⟨hdn,rfl⟩:=VW he;have hs:=qv h hv;obtain⟨k1,k2,k3⟩:=(VJ hs hone).cells hone
 have hone':∀ c∈v.cells,c.one=true:=by simpa[C7] using hone
 refine⟨.pointer (some ⟨w.heap.size,0,none⟩),w.alloc (.cells (a.eval x).cells t),M,_,.inl hexec,by
  rw[hd]
  refine h.newBox hdn hc t (by simp[k1]) fun j c u hc' hu=>?_
  rw[D0]at hc'
  cases hz:v.cells[j]? with
  | none=>rw[hz]at hc';cases hc'
  | some z =>
   rw[hz]at hc';cases hc'
   exact⟨QQ (hone' z (A2 hz)),(k2 j z u hz hu).strip,by cases z <;> rfl⟩⟩
theorem Inv.setEnt (h:Inv bs n M O env a w) {x x':AV} (hl:look env s=some x) (he:x.ent=true) (he':x'.ent=true) (hO:O true s=some g)
  {w':World} (hw:w.grownBy w' (some g)) (hMg:∀ o,M g o=none) (hsat:Sat O M w' s x' (a.tmps.getD s undef)) :
  Inv bs n M O (ins s x' env) a w':=by
 obtain⟨hgB,hgs⟩:=h.own true s g hO
 have hlt:∀ k,bs.D k->k<w.heap.size:=fun k hk=>by have:=h.hB k hk;have:=h.below.size;omega
 have hother:∀ i c g',O i c=some g'->¬ (i=true/\c=s)->w'.heap[g']? = w.heap[g']?:=by
  intro i c g' hg1 hne
  refine hw.block g' (h.own _ _ _ hg1).2 fun e=>?_
  cases e;exact hne (h.inj _ _ _ _ g hg1 hO)
 refine⟨h.size,h.defers,?_,h.hB,?_,h.ext,h.old,fun i c g' hg1=>⟨(h.own i c g' hg1).1,E0 (h.own i c g' hg1).2 hw.size⟩,h.inj,h.fix,?_⟩
 .refine⟨hw.os.trans h.below.os,hw.tape.trans h.below.tape,hw.output.trans h.below.output,Nat.le_trans h.below.size hw.size,fun k hk=>?_⟩;exact (hw.block k (hlt k hk) fun e=>by cases e;exact hgB hk).trans (h.below.block k hk)
 .intro b o u hu;have hb:=NJ (h.cons b o u hu)
  have hne:b≠g:=fun e=>by subst e;rw[hMg]at hu;cases hu
  rw[Qd (hw.block b hb (fun e=>hne (Option.some.inj e)))];exact h.cons b o u hu
 intro t y hy;rw[je]at hy;by_cases hts:t=s
 .subst hts;rw[if_pos rfl]at hy;cases hy;exact hsat
 rw[if_neg hts]at hy
 exact (h.slots t y hy).change2 (Sub.refl M) (fun _=>Gh.Eq1.refl O t) (fun c _=>Gh.Eq1.refl O c) (fun g' _ hg1=>⟨hother true t g' hg1 (fun e=>hts e.2),fun _ hm=>hm⟩) fun c g' hg1=>⟨hg1,hother false c g' hg1 (fun e=>by cases e.1),fun _ hm=>hm⟩
theorem Inv.setBox (h:Inv bs n M O env a w) {cs':LJ} (hl:look env s=some (.box cs)) (hO:O true s=some g) {cur':LO} (hg:w.heap[g]? = some (.cells cur el (0,0)))
  {w':World} (hw:w.grownBy w' (some g)) (hg':w'.heap[g]? = some (.cells cur' el (0,0))) (hlen:cur'.size=cs'.length)
  (hcs:∀ (j:Nat) c u,cs'[j]? = some c->cur'[j]? = some u->c.one=true/\R M c u/\OwnV O M w c u) (hMg:∀ o,M g o=none) :
  Inv bs n M O (ins s (.box cs') env) a w':=by
 refine h.setEnt hl rfl rfl hO hw hMg ?_;obtain⟨g1,cur1,el1,e1,e2,_⟩:=h.slots s _ hl
 have:g1=g:=by rw[e2]at hO;exact Option.some.inj hO
 subst this;refine⟨g1,cur',el,e1,e2,hg',hlen,hMg,fun j c u hc hu=>⟨(hcs j c u hc hu).1,(hcs j c u hc hu).2.1,(hcs j c u hc hu).2.2.change fun c' g' _ hg2=>⟨hg2,?_,fun _ hm=>hm⟩⟩⟩
 refine hw.block g' (h.own _ _ _ hg2).2 fun e=>?_
 cases e;cases (h.inj _ _ _ _ g1 hg2 hO).1
theorem Ub {t:Nat} {v:Value} (hsz:tSize P t=some sz) (hv:v.cells.size=sz) (hg:w.heap[g]? = some (.cells cur el (0,0))) (hle:off+v.cells.size<=cur.size) (h1:∀ u∈v.cells,u.oneCell'=true) :
  (Instr.storeAt t (.pointer (some ⟨g,off,none⟩)) v).run P w=.ok () (w.setRow g (cur.toList.take off++v.cells.toList++cur.toList.drop (off+v.cells.size)).toArray):=by
 unfold Instr.storeAt;simp only[Instr.sureAddr,A3,E7,D1];unfold storeVar;simp only[A3,Jl hsz,D1,hv,ne_eq,not_true_eq_false,if_false];have:=run_storeCells_at (P:=P) g off el v.cells.toList 0 cur w hg (by simpa using hle) (fun u hu=>h1 u (by simpa using hu));simp only[D7,A8,hv]at this;exact this
theorem qgl {env:Env} (h:putRow s env off vs=some env'):vs.all AV.one=true/\((∃ cs,look env s=some (.box cs)/\off+vs.length<=cs.length/\env'=ins s (.box (cs.take off++vs.map AV.strip++cs.drop (off+vs.length))) env) \/
  ∃ ks cs,look env s=some (.hob 3 ks cs)/\off+vs.length<=cs.length/\env'=ins s (.hob 3 ks (cs.take off++vs.map AV.strip++cs.drop (off+vs.length))) env):=by
 unfold putRow at h;split at h
 .cases h
 rename_i ho;split at h
 case h_3=>cases h
 case h_2 =>
  rename_i ks cs hl;split at h
  case h_2=>cases h
  rename_i hle;cases h;exact⟨ho,.inr ⟨ks,cs,hl,A0 hle,rfl⟩⟩
 rename_i cs hl;split at h
 case h_2=>cases h
 rename_i hle;cases h;exact⟨ho,.inl ⟨cs,hl,A0 hle,rfl⟩⟩
theorem XC {α:Type} {cs vs:List α} (h:off+vs.length<=cs.length) (j:Nat):(cs.take off++vs++cs.drop (off+vs.length))[j]? = if off<=j/\j<off+vs.length then vs[j - off]? else cs[j]?:=by
 by_cases h1:j<off
 .rw[if_neg (by omega),A9,D4 (by simp;omega),B1,if_pos h1]
 by_cases h2:j<off+vs.length
 .rw[if_pos ⟨by omega,h2⟩,A9,D8 (by simp;omega),D4 (by simp;omega)]
  congr 1
  simp;omega
 rw[if_neg (by omega),D8 (by simp;omega),D2]
 congr 1
 simp;omega
theorem Xi (w:World) (g:Nat) (cs:LO):w.grownBy (w.setRow g cs) (some g) :=
 ⟨rfl,rfl,rfl,by simp,fun k hk hne=>setRow_other w g k cs (fun e=>hne (by rw[e]))⟩
theorem Hb (a:Act) (v:Value):a.put none v=a:=rfl
theorem Vx {k:Nat}:∀ {xs:LJ} (i:Nat),(∀ x,x∈xs->x.cells.length=k)->flat (xs.take i)=(flat xs).take (i * k)
 | [],i,_=>by simp[flat]
 | x::xs,0,_=>by simp[flat]
 | x::xs,i+1,h=>by
  have h1:=h x (by simp);have h2:=Vx (xs:=xs) i (fun y hy=>h y (by simp[hy]));simp only[flat,List.take_succ_cons,List.flatMap_cons]at h2 ⊢;rw[h2,List.take_append,G0 (l:=x.cells) (by rw[h1,A6];omega),h1]
  congr 2
  rw[A6];omega
theorem qlh {xs:LJ} (h:∀ x,x∈xs->x.cells.length=k) (hj:j<xs.length):flat (xs.set j y)=(flat xs).take (j * k)++y.cells++(flat xs).drop (j * k+k):=by
 rw[E8,if_pos hj];have e1:=Vx (xs:=xs) j h;have e2:=Zu (xs:=xs) (j+1) h;simp only[flat,List.flatMap_append,List.flatMap_cons]at e1 e2 ⊢;rw[e1,e2,A6,Nat.one_mul,A9]
theorem qfu {y':AV} (hy:y.cells.all AV.one=true) (h:putElem y off vs=some y') :
  vs.all AV.one=true/\off+vs.length<=y.cells.length/\y'.cells=y.cells.take off++vs.map AV.strip++y.cells.drop (off+vs.length)/\y'.cells.all AV.one=true:=by
 unfold putElem at h;split at h
 .cases h
 rename_i hc;simp only[A1]at hc;obtain⟨h1,h2⟩:=hc;have h2:=A0 h2
 have hvs:(vs.map AV.strip).all AV.one=true:=by
  simp only[C7,List.mem_map]at h1 ⊢
  rintro x ⟨z,hz,rfl⟩
  exact QQ (h1 z hz)
 have key:y'.cells=y.cells.take off++vs.map AV.strip++y.cells.drop (off+vs.length)->y'.cells.all AV.one=true:=by
  intro e;rw[e];simp only[List.all_append,A1];simp only[C7]at hy hvs ⊢;exact⟨⟨fun x hx=>hy x (List.mem_of_mem_take hx),hvs⟩,fun x hx=>hy x (List.mem_of_mem_drop hx)⟩
 refine⟨h1,h2,?_⟩;split at h
 .cases h;exact⟨rfl,key rfl⟩
 rename_i hna;split at h
 .rename_i v _;cases h
  have hv1:v.one=true:=by simpa using h1
  have hlen:y.cells.length=1:=by
   cases y with
   | agg cs=>exact absurd rfl (hna cs)
   | _=>rfl
  have h0:off=0:=by simp at h2;omega
  subst h0
  have e:v.strip.cells=y.cells.take 0++[v].map AV.strip++y.cells.drop (0 + [v].length):=by
   rw[ZB (QQ hv1),List.drop_of_length_le (by rw[hlen];simp)];simp
  exact⟨e,key e⟩
 cases h
theorem VC (g o:Nat) (t:TypeId) (fz:Nat×Nat):∀ (vs:LT) (i:Nat) (cur:LO) (w:World),w.heap[g]? = some (.cells cur t fz)->cur.size<=fz.1->o+i+vs.length<=cur.size->(∀ v∈vs,v.oneCell'=true) ->
  (storeCells ⟨g,o,none⟩ vs i).run P w=.ok () (w.setRow g (cur.toList.take (o+i)++vs++cur.toList.drop (o+i+vs.length)).toArray)
 | [],i,cur,w,hg,_,_,_=>by
  simp only[storeCells,List.append_nil,List.length_nil,D7,List.take_append_drop,Array.toArray_toList];rw[setRow_self w g cur t fz hg];rfl
 | v::rest,i,cur,w,hg,hf,hl,h1=>by
  have hi:o+i<cur.size:=by simp at hl;omega
  have hadd:(⟨g,o,none⟩:Addr).add i=⟨g,o+i,none⟩:=by unfold Addr.add;split <;> simp_all
  have hcell:w.cell? ⟨g,o+i,none⟩=some cur[o+i]:=by simp[World.cell?,hg,hi]
  have hfro:w.frozen? ⟨g,o+i,none⟩=false:=by
   unfold World.frozen?;rw[hg];simp only[Bool.and_eq_false_iff,decide_eq_false_iff_not];exact .inl oM
  have hst:(store ((⟨g,o,none⟩:Addr).add i) v).run P w=.ok () (w.setRow g (cur.setIfInBounds (o+i) v)):=by
   rw[hadd,run_store P w _ v _ (h1 v (by simp)),hcell];simp[hfro,setCell_eq_setRow w g (o+i) cur t fz v hg]
  have ih:=VC g o t fz rest (i+1) (cur.setIfInBounds (o+i) v) (w.setRow g (cur.setIfInBounds (o+i) v)) (setRow_heap w g cur _ t _ hg) (by simpa using hf) (by simp at hl ⊢;omega) (fun x hx=>h1 x (by simp[hx]));simp only[storeCells,A3,hst,D1,ih,setRow_setRow]
  congr 3
  have e:=list_seg_step cur.toList (o+i) v rest (by simp at hl ⊢;omega)
  simpa[Array.toList_setIfInBounds,Nat.add_assoc] using e
theorem qfn {t:Nat} {v:Value} {e:Nat} (hsz:tSize P t=some sz) (hv:v.cells.size=sz) (hg:RowAt w g cur e) (hle:off+v.cells.size<=cur.size) (h1:∀ u∈v.cells,u.oneCell'=true) :
  (Instr.storeAt t (.pointer (some ⟨g,off,none⟩)) v).run P w=.ok () (w.setRow g (cur.toList.take off++v.cells.toList++cur.toList.drop (off+v.cells.size)).toArray):=by
 obtain⟨el,fz,hg,h2 | h2⟩:=hg
 .obtain⟨rfl,rfl⟩:=h2;exact Ub hsz hv hg hle h1
 unfold Instr.storeAt;simp only[Instr.sureAddr,A3,E7,D1];unfold storeVar;simp only[A3,Jl hsz,D1,hv,ne_eq,not_true_eq_false,if_false];have:=VC (P:=P) g off el fz v.cells.toList 0 cur w hg h2.2 (by simpa using hle) (fun u hu=>h1 u (by simpa using hu));simp only[D7,A8,hv]at this;exact this
theorem RowAt.setRow {g e:Nat} {cur cs:LO} (h:RowAt w g cur e) (hs:cs.size=cur.size):RowAt (w.setRow g cs) g cs e:=by
 obtain⟨el,fz,h1,h2⟩:=h;refine⟨el,fz,setRow_heap w g cur cs el fz h1,?_⟩;rw[hs];exact h2
theorem qcx (h:Inv bs n M O env a w) (ho:o.op=.store t p x) (hd:o.dst=none) {id:Nat} (hp:aop env p=some (.pe id k j off)) (hx:aop env x=some v) (hsz:tSize P t=some sz) (hlen:v.cells.length=sz) (he:putObj id k j env off v.cells=some env'):Leads P bs n o a w env':=by
 obtain⟨g,hpv,hO⟩:=qv h hp;have hxv:=qv h hx;unfold putObj at he;split at he
 case h_2=>cases he
 rename_i e k' xs hl;split at he
 case h_2=>cases he
 rename_i hk;have hk:=A5 hk;subst hk;split at he
 case h_2=>cases he
 rename_i y hy;split at he
 case h_2=>cases he
 rename_i y' hy';cases he;obtain⟨h0,h3,h4,h5⟩:=h.slots id _ hl
 rcases h5 with ⟨rfl,_⟩ | ⟨g',cur,k1,k2,k3,k4,k5,k6⟩
 .simp at hy
 have:g'=g:=by rw[k1]at hO;exact Option.some.inj hO
 subst this
 have hty:∀ z,z∈xs->z.cells.length=k:=fun z hz=>(h3 z hz).1
 have hym:=A2 hy;obtain⟨p1,p2,p3,p4⟩:=qfu (h3 y hym).2 hy';have hyk:=hty y hym;have hjl:=(List.getElem?_eq_some_iff.1 hy).1;have hR:R M v (a.eval x):=VJ hxv p1;obtain⟨c1,c2,c3⟩:=hR.cells p1;have hjk:(j+1) * k<=xs.length * k:=D3 k hjl;rw[A6,Nat.one_mul]at hjk
 have hfit:j * k+off+v.cells.length<=cur.size:=by omega
 have hrun:=qfn (P:=P) (t:=t) (g:=g') (off:=j * k+off) (v:=a.eval x) hsz (by rw[c1,hlen]) k2 (by rw[c1];exact hfit) c3
 have hex:(execOp a.eval o).run P w=.ok .skip (w.setRow g' (cur.toList.take (j * k+off)++(a.eval x).cells.toList++cur.toList.drop (j * k+off+(a.eval x).cells.size)).toArray):=by
  have:execOp a.eval o=(do Instr.storeAt t (a.eval p) (a.eval x);pure .skip):=by unfold execOp;rw[ho]
  rw[this,A3,hpv,hrun];rfl
 refine⟨undef,_,M,O,.inr ⟨hex,rfl⟩,?_⟩;rw[hd,Hb];refine h.setEnt hl rfl rfl k1 (Xi w g' _) k5 ?_
 have hy'k:y'.cells.length=k:=by rw[p3];simp;omega
 refine⟨h0,fun z hz=>?_,by simpa using h4,.inr ⟨g',_,k1,k2.setRow ?_,?_,?_,k5,fun q c u hc hu=>?_⟩⟩
 .rcases List.mem_or_eq_of_mem_set hz with hz | rfl
  .exact h3 z hz
  exact⟨hy'k,p4⟩
 .simp[c1];omega
 .simp[c1];omega
 .simp[c1];omega
 rw[qlh hty hjl]at hc;have hfl:=jh hty;have e1:=XC (cs:=flat xs) (vs:=y'.cells) (off:=j * k) (by rw[hy'k,hfl];omega) q;rw[hy'k]at e1;rw[e1]at hc
 have hu':(cur.toList.take (j * k+off)++(a.eval x).cells.toList++cur.toList.drop (j * k+off+(a.eval x).cells.size))[q]? = some u:=by simpa using hu
 have e2:=XC (cs:=cur.toList) (vs:=(a.eval x).cells.toList) (off:=j * k+off) (by simp[c1];omega) q;simp only[A8,c1]at e2;rw[c1,e2]at hu'
 have keep:∀ c,(flat xs)[q]? = some c->¬ (j * k+off<=q/\q<j * k+off+v.cells.length)->R M c u:=by
  intro c hc hne;rw[if_neg hne]at hu';exact k6 q c u hc (by simpa using hu')
 split at hc
 .rename_i hq;rw[p3]at hc;have e3:=XC (cs:=y.cells) (vs:=v.cells.map AV.strip) (off:=off) (by simpa using p2) (q - j * k);simp only[D5]at e3;rw[e3]at hc;split at hc
  .rename_i hq2;rw[if_pos (by omega)]at hu';rw[D0]at hc
   have e4:q - j * k - off=q - (j * k+off):=by omega
   rw[e4]at hc
   cases hz:v.cells[q - (j * k+off)]? with
   | none=>rw[hz]at hc;cases hc
   | some z =>
    rw[hz]at hc;cases hc;exact (c2 _ z u hz (by simpa using hu')).strip
  rename_i hq2;refine keep c ?_ oM;have:=Yu hty hy (q - j * k) oM
  have e5:j * k+(q - j * k)=q:=by omega
  rw[e5]at this;rw[this];exact hc
 rename_i hq;exact keep c hc oM
theorem qlv {O:Gh} {M:Mem} {w:World} {t:Nat} {u:Value} (h:ValOk O M w v u) (hc:v.cellOk=true):CellR O M t v.strip u:=by
 cases v with
 | sb id e k off n=>exact h
 | mb kd id =>
  cases kd with
  | zero=>obtain⟨g,h1,h2⟩:=h;exact⟨rfl,g,h1,h2⟩
  | succ kd=>cases hc
 | pb s off=>cases hc
 | pe s k j o=>cases hc
 | tpr s e k off n rest=>cases hc
 | clb f caps=>cases hc
 | box cs=>exact h.elim
 | obj e k xs=>exact h.elim
 | hob kd ks vs=>exact h.elim
 | bxg cs=>exact h.elim
 | slf=>exact h.elim
 | agr cs=>cases hc
 | _=>exact CellR.of_one hc h.1
theorem CellR.cells {O:Gh} {M:Mem} {t:Nat} {c:AV} {u:Value} (h:CellR O M t c u):u.cells=#[u]:=by
 have:=h.one
 cases u <;> first | rfl | cases this
theorem Na (h:Inv bs n M O env a w) (ho:o.op=.store t p x) {xv:AV} (hd:o.dst=none) (hp:aop env p=some (.pb s off)) (hx:aop env x=some xv) (hsz:tSize P t=some sz) (hlen:xv.cells.length=sz) (he:putG s env off xv=some env'):Leads P bs n o a w env':=by
 unfold putG at he;split at he
 .cases he
 rename_i hcell
 have hs1:sz=1:=by
  rw[<- hlen]
  cases xv <;> first | rfl | cases hcell
 subst hs1;obtain⟨g,hpv,hO⟩:=qv h hp;have hxv:CellR O M s xv.strip (a.eval x):=qlv (qv h hx) hcell
 have hex:∀ w',(Instr.storeAt t (a.eval p) (a.eval x)).run P w=.ok () w'->(execOp a.eval o).run P w=.ok .skip w':=by
  intro w' hr
  have:execOp a.eval o=(do Instr.storeAt t (a.eval p) (a.eval x);pure .skip):=by unfold execOp;rw[ho]
  rw[this,A3,hr];rfl
 obtain⟨y,cs,cur,el,hl,hy,hv,h3,h4,h5,h6,hoff,rfl⟩:∃ (y:AV) (cs:LJ) (cur:LO) (el:Nat),look env s=some y/\y.ent=true/\(a.tmps.getD s undef=.pointer (some ⟨g,0,none⟩)\/1000000<=s)/\w.heap[g]? = some (.cells cur el (0,0))/\cur.size=cs.length/\(∀ o,M g o=none) /\
   (∀ (j:Nat) c u,cs[j]? = some c->cur[j]? = some u->CellR O M s c u)/\off<cs.length/\env'=ins s (.bxg (cs.set off xv.strip)) env:=by
  split at he
  .rename_i cs hl;split at he
   case h_2=>cases he
   rename_i hc;cases he;obtain⟨g1,cur,el,k1,k2,k3,k4,k5,k6⟩:=h.slots s _ hl
   have:g1=g:=by rw[k2]at hO;exact Option.some.inj hO
   subst this;have hlt:off<cs.length:=A0 hc;refine⟨_,cs.map AV.strip,cur,el,hl,rfl,k1,k3,by simpa using k4,k5,fun j c u hc hu=>?_,by simpa using hlt,rfl⟩;rw[D0]at hc
   cases hz:cs[j]? with
   | none=>rw[hz]at hc;cases hc
   | some z =>
    rw[hz]at hc;cases hc;obtain⟨q1,q2,_⟩:=k6 j z u hz hu;exact CellR.of_one q1 q2
  .rename_i cs hl;split at he
   case h_2=>cases he
   rename_i hc;cases he;obtain⟨g1,cur,el,k1,k2,k3,k4,k5,k6⟩:=h.slots s _ hl
   have:g1=g:=by rw[k2]at hO;exact Option.some.inj hO
   subst this;have hlt:off<cs.length:=A0 hc;exact⟨_,cs,cur,el,hl,rfl,k1,k3,k4,k5,k6,hlt,rfl⟩
  cases he
 have c1:=hxv.cells;have c2:=hxv.one;have hrun:=Ub (P:=P) (t:=t) (g:=g) (off:=off) (v:=a.eval x) hsz (by rw[c1];rfl) h3 (by rw[c1,h4];simp;omega) (by rw[c1];intro u hu;simp at hu;rw[hu];exact c2);refine⟨undef,_,M,O,.inr ⟨hex _ (by rw[hpv];exact hrun),rfl⟩,?_⟩;rw[hd,Hb]
 have hsp:∀ j,(cur.toList.take off++(a.eval x).cells.toList++cur.toList.drop (off+(a.eval x).cells.size))[j]? = if j=off then some (a.eval x) else cur[j]?:=by
  intro j;have:=XC (cs:=cur.toList) (vs:=(a.eval x).cells.toList) (off:=off) (by rw[c1];simp;omega) j;simp only[A8]at this;rw[this,c1];by_cases hj:j=off
  .subst hj;rw[if_pos ⟨A7 _,by simp⟩,if_pos rfl];simp
  rw[if_neg hj,if_neg (by simp;omega)];simp
 refine h.setEnt hl hy rfl hO (Xi w g _) h5 ⟨g,_,el,hv,hO,setRow_heap w g cur _ el _ h3,?_,h5,fun j c u hc hu=>?_⟩
 .simp[c1,h4];omega
 have hu':=hsp j
 have hu2:(cur.toList.take off++(a.eval x).cells.toList++cur.toList.drop (off+(a.eval x).cells.size))[j]? = some u:=by simpa using hu
 rw[hu']at hu2;rw[List.getElem?_set]at hc;split at hc
 .rename_i e1;subst e1;rw[if_pos rfl]at hu2;cases hu2;cases hc;exact hxv
 rename_i e1;rw[if_neg (fun e=>e1 e.symm)]at hu2;exact h6 j c u hc hu2
theorem qas (h:Inv bs n M O env a w) (ho:o.op=.store t p x) (hd:o.dst=none) (hp:aop env p=some (.pb s off)) (hx:R M v (a.eval x)) (hsz:tSize P t=some sz) (hlen:v.cells.length=sz) (hone:v.cells.all AV.one=true)
  {ks cs:LJ} (hl:look env s=some (.hob 3 ks cs)) (hle:off+v.cells.length<=cs.length):Leads P bs n o a w (ins s (.hob 3 ks (cs.take off++v.cells.map AV.strip++cs.drop (off+v.cells.length))) env):=by
 obtain⟨g,hpv,hO⟩:=qv h hp;obtain⟨g',q1,q2,cur,el,q3,q4,q5⟩:=h.slots s _ hl
 have:g'=g:=by rw[q1]at hO;exact Option.some.inj hO
 subst this;obtain⟨k1,k2,k3⟩:=hx.cells hone;have hrun:=Ub (P:=P) (t:=t) (g:=g') (off:=off) (v:=a.eval x) hsz (by rw[k1];exact hlen) q3 (by rw[k1,q4];exact hle) k3
 have hex:(execOp a.eval o).run P w=.ok .skip (w.setRow g' (cur.toList.take off++(a.eval x).cells.toList++cur.toList.drop (off+(a.eval x).cells.size)).toArray):=by
  have:execOp a.eval o=(do Instr.storeAt t (a.eval p) (a.eval x);pure .skip):=by unfold execOp;rw[ho]
  rw[this,A3,hpv,hrun];rfl
 refine⟨undef,_,M,O,.inr ⟨hex,rfl⟩,?_⟩;rw[hd,Hb]
 have hcl:(a.eval x).cells.toList.length=(v.cells.map AV.strip).length:=by simp[k1]
 refine h.setEnt hl rfl rfl q1 (Xi w g' _) q2 ⟨g',q1,q2,_,el,setRow_heap w g' cur _ el _ q3,?_,fun j c u hc hu=>?_⟩
 .simp[k1];omega
 have e0:off+v.cells.length=off+(v.cells.map AV.strip).length:=by rw[D5]
 rw[e0,XC (by rw[D5];exact hle)]at hc
 have hu':(cur.toList.take off++(a.eval x).cells.toList++cur.toList.drop (off+(a.eval x).cells.size))[j]? = some u:=by simpa using hu
 have hsp:=XC (cs:=cur.toList) (vs:=(a.eval x).cells.toList) (off:=off) (by rw[hcl];simp[q4];omega) j;simp only[A8]at hsp;rw[hsp]at hu';split at hc
 .rename_i hj;rw[if_pos (by rw[D5]at hj;omega)]at hu';rw[D0]at hc
  cases hz:v.cells[j - off]? with
  | none=>rw[hz]at hc;cases hc
  | some z =>
   rw[hz]at hc;cases hc;have hz1:z.one=true:=List.all_eq_true.1 hone z (A2 hz);exact⟨QQ hz1,(by cases z <;> rfl),(k2 _ z u hz (by simpa using hu')).strip⟩
 rename_i hj;rw[if_neg (by rw[D5]at hj;omega)]at hu';exact q5 j c u hc (by simpa using hu')
theorem qfR (h:Inv bs n M O env a w) (ho:o.op=.store t p x) (he:astep P n o env=some env'):Leads P bs n o a w env':=by
 unfold astep at he;rw[ho]at he;simp only at he;split at he
 case h_3=>cases he
 case h_2 =>
  rename_i id k j off v sz hd hp hx hsz;split at he
  case h_2=>cases he
  rename_i hlen;exact qcx h ho hd hp hx hsz (A5 hlen) he
 rename_i s off v sz hd hp hx hsz;split at he
 case h_2=>cases he
 rename_i hlen;have hlen:=A5 hlen;obtain⟨g,hpv,hO⟩:=qv h hp;have hxv:=qv h hx
 have hex:∀ w',(Instr.storeAt t (a.eval p) (a.eval x)).run P w=.ok () w'->(execOp a.eval o).run P w=.ok .skip w':=by
  intro w' hr
  have:execOp a.eval o=(do Instr.storeAt t (a.eval p) (a.eval x);pure .skip):=by unfold execOp;rw[ho]
  rw[this,A3,hr];rfl
 have core:∀ (O1:Gh) (env1:Env) (vs vs':LJ),Inv bs n M O1 env1 a w->(∀ s',O1 true s'=O true s')->v.cells=vs->vs.all AV.one=true->vs'.length=vs.length->R M v (a.eval x) ->
   (∀ (j:Nat) c u,vs'[j]? = some c->(a.eval x).cells[j]? = some u->c.one=true/\R M c u/\OwnV O1 M w c u) ->
   ∀ cs,look env1 s=some (.box cs)->off+vs.length<=cs.length->Leads P bs n o a w (ins s (.box (cs.take off++vs'++cs.drop (off+vs'.length))) env1):=by
  intro O1 env1 vs vs' h1 hO1 hvs hone hl' hR hcells cs hl hle;obtain⟨k1,k2,k3⟩:=hR.cells (by rw[hvs];exact hone);rw[hvs]at k1 k2
  have hO':O1 true s=some g:=by rw[hO1];exact hO
  obtain⟨cur,el,c1,c2,c3,c4⟩:=UW h1 hl hO';have hrun:=Ub (P:=P) (t:=t) (g:=g) (off:=off) (v:=a.eval x) hsz (by rw[k1,<- hvs];exact hlen) c1 (by rw[k1,c2];exact hle) k3;refine⟨undef,_,M,O1,.inr ⟨hex _ (by rw[hpv];exact hrun),rfl⟩,?_⟩;rw[hd,Hb]
  have hcl:(a.eval x).cells.toList.length=vs'.length:=by simp[k1,hl']
  refine h1.setBox hl hO' c1 (Xi w g _) (setRow_heap w g cur _ el _ c1) ?_ ?_ c3
  .simp[k1];omega
  intro j c u hc hu;rw[XC (by rw[hl'];exact hle)]at hc
  have hu':(cur.toList.take off++(a.eval x).cells.toList++cur.toList.drop (off+(a.eval x).cells.size))[j]? = some u:=by simpa using hu
  have hsp:=XC (cs:=cur.toList) (vs:=(a.eval x).cells.toList) (off:=off) (by rw[hcl];simp[c2];omega) j;simp only[A8]at hsp;rw[hsp]at hu';split at hc
  .rename_i hj;rw[if_pos (by omega)]at hu';exact hcells _ c u hc (by simpa using hu')
  rename_i hj;rw[if_neg (by omega)]at hu';obtain⟨d1,d2,d3,d4⟩:=c4 j c hc
  have:cur.getD j undef=u:=by
   have hu2:cur[j]? = some u:=by simpa using hu'
   simp[hu2]
  rw[this]at d3 d4;exact⟨d2,d3,d4⟩
 split at he
 .
  rename_i cs1 _;obtain⟨hone,⟨cs,hl,hle,rfl⟩ | ⟨ks,cs,hl,hle,rfl⟩⟩:=qgl he
  case h_1.inr=>exact qas h ho hd hp hxv.1 hsz hlen hone hl hle
  have:=core O env cs1 (cs1.map AV.strip) h (fun _=>rfl) rfl hone (by simp) hxv.1 (fun j c u hc hu=>by
   rw[D0]at hc
   cases hz:cs1[j]? with
   | none=>rw[hz]at hc;cases hc
   | some z =>
    rw[hz]at hc;cases hc;obtain⟨_,k2,_⟩:=hxv.1.cells (show (AV.agg cs1).cells.all AV.one=true from hone)
    have hz1:z.one=true:=by simp only[C7]at hone;exact hone z (A2 hz)
    exact⟨QQ hz1,(k2 j z u hz hu).strip,YB _ _⟩) cs hl hle
  simpa using this
 .exact Na h ho hd hp hx hsz hlen he
 exact Na h ho hd hp hx hsz hlen he
 
 split at he
 .exact Na h ho hd hp hx hsz hlen he
 unfold putCell at he;split at he
 .cases he
 rename_i hone;have hcs:=ZB hone;have hR:R M v (a.eval x):=VJ hxv (by rw[hcs];simp[hone]);split at he
 case h_3=>cases he
 case h_2 =>
  rename_i ks cs hl;split at he
  case h_2=>cases he
  rename_i hlt;cases he;have hlt:off<cs.length:=A0 hlt;have:=qas h ho hd hp hR hsz hlen (by rw[hcs];simp[hone]) hl (by rw[hcs];simp;omega)
  have e:cs.take off++v.cells.map AV.strip++cs.drop (off+v.cells.length)=cs.set off v.strip:=by
   rw[hcs,E8,if_pos hlt];simp
  rw[e]at this;exact this
 rename_i cs hl;split at he
 case h_2=>cases he
 rename_i hlt;cases he;have hlt:off<cs.length:=A0 hlt
 have hown:OwnV O M w v (a.eval x):=by
  cases v with
  | box cs=>exact hxv.elim
  | obj e k xs=>exact hxv.elim
  | pb s o=>cases hone
  | sb s e k off m=>cases hone
  | tpr s e k off m rest=>cases hone
  | pe s k j o=>cases hone
  | hob kd ks vs=>cases hone
  | mb kd s=>cases hone
  | bxg cs=>cases hone
  | slf=>cases hone
  | agr cs=>cases hone
  | clb f caps=>cases hone
  | _=>exact hxv.2
 have:=core O env [v] [v] h (fun _=>rfl) hcs (by simp[hone]) rfl hR (fun j c u hc hu=>by
  cases j with
  | succ j=>simp at hc
  | zero =>
   simp at hc;subst hc
   have hu':u=a.eval x:=by
    have hone2:=hR.one hone;generalize a.eval x=y at hu hone2
    cases y <;> first | (simp[Value.cells]at hu;exact hu.symm) | cases hone2
   subst hu'
   exact⟨hone,hR,hown⟩) cs hl (by simp;omega)
 have e:cs.take off++[v]++cs.drop (off + [v].length)=cs.set off v:=by
  rw[E8,if_pos hlt];simp
 rw[e]at this;exact this
end
end Go.AM
namespace Go.AM
open Go.RowKit
variable {d e g o s t:Nat} {i:TypeInfo} {z:Value} {cur:LO} {xs:LJ}
section
variable {bs:Base} {n:Nat} {M:Mem} {O:Gh} {env:Env} {a:Act} {w:World} {P:Program}
def addPart (M:Mem) (g len:Nat) (us:LO):Mem:=fun b o=>if b=g/\o<len then cellsAt us o else M b o
theorem qbQ (xs ys:LJ):flat (xs++ys)=flat xs++flat ys:=by simp[flat]
theorem qbm (w:World) (t ty e:TypeId) (i:TypeInfo) (ht:P.underlying t=some (.slice e)) (hi:P.info? e=some i)
  (g off sLen sCap:Nat) (cur:LO) (hg:w.heap[g]? = some (.cells cur e (0,0)))
  (a:Addr) (m c:Nat) (news:LT) (hl:news.length=m * i.size) (hnews:∀ j u,news[j]? = some u->w.cell? (a.add j)=some u) (h1:∀ u∈news,u.oneCell'=true)
  (hroom:sLen+m<=sCap) (hfit:off+sLen * i.size+news.length<=cur.size) :
  (Builtin.append_ #[t,t] ty #[.slice (some ⟨g,off,none⟩) sLen sCap,.slice (some a) m c]).run P w =
   .ok (.slice (some ⟨g,off,none⟩) (sLen+m) sCap) (w.setRow g (cur.toList.take (off+sLen * i.size)++news++cur.toList.drop (off+sLen * i.size+news.length)).toArray):=by
 have hf:=run_firstCells_some (P:=P) w i.size m a m c news hl hnews;have hst:=run_storeCells_at P g (off+sLen * i.size) e news 0 cur w hg (by simpa using hfit) h1;simp only[D7]at hst;simp[Builtin.append_,run_underlying ht,sizeOf,typeInfo,hi,Builtin.lenOf,hroom,hf,Addr.add_lit,hst]
theorem qba (ty:Nat) (ht:P.underlying t=some (.slice e)) (hi:P.info? e=some i) (hz:i.zero=some z) (hsz:i.size=s) (hs0:0<s) (hzs:z.cells.size=s)
  {sv yv:Value} {xn m:Nat} {olds news:LT} (hol:olds.length=xn * s) (hnl:news.length=m * s)
  (hsv:(sv=.slice none 0 0/\xn=0)\/∃ g off cap cur,sv=.slice (some ⟨g,off,none⟩) xn cap/\w.heap[g]? = some (.cells cur e (0,0))/\cur.size=off+cap * s/\xn<=cap/\cap<=maxLen/\(cur.toList.drop off).take (xn * s)=olds)
  (hyv:(yv=.slice none 0 0/\m=0)\/∃ ad c,yv=.slice (some ad) m c/\∀ (j:Nat) u,news[j]? = some u->w.cell? (ad.add j)=some u)
  (h1:∀ u∈news,u.oneCell'=true) (hb1:(xn+m) * i.bytes<=140737488355328) (hb2:xn+m<=140737488355328) :
  ∃ v' w',(Builtin.append_ #[t,t] ty #[sv,yv]).run P w=.ok v' w' /\
   ((v'=.slice none 0 0/\xn+m=0/\w'=w) \/
    (∃ g off cap cur cur',sv=.slice (some ⟨g,off,none⟩) xn cap/\w.heap[g]? = some (.cells cur e (0,0))/\v'=.slice (some ⟨g,off,none⟩) (xn+m) cap/\w'=w.setRow g cur'/\cur'.size=off+cap * s/\xn+m<=cap/\cap<=maxLen/\(cur'.toList.drop off).take ((xn+m) * s)=olds++news/\cur'.toList.take off=cur.toList.take off) \/
    (∃ cap cur',v'=.slice (some ⟨w.heap.size,0,none⟩) (xn+m) cap/\w'=w.drew.alloc (.cells cur' e)/\cur'.size=cap * s/\xn+m<=cap/\cap<=maxLen/\cur'.toList.take ((xn+m) * s)=olds++news)):=by
 subst hsz
 have hmax:xn+m<=maxLen:=by unfold maxLen;omega
 rcases hyv with ⟨rfl,rfl⟩ | ⟨ad,c,rfl,hnews'⟩
 .
  have hn:news=[]:=A4 (by simpa using hnl);subst hn
  rcases hsv with ⟨rfl,rfl⟩ | ⟨g,off,cap,cur,rfl,hg,hcs,hxc,hcm,htk⟩
  .refine⟨.slice none 0 0,w,?_,.inl ⟨rfl,rfl,rfl⟩⟩;simp[Builtin.append_,run_underlying ht,sizeOf,typeInfo,hi,Builtin.lenOf,Builtin.firstCells]
  refine⟨.slice (some ⟨g,off,none⟩) xn cap,w,?_,.inr (.inl ⟨g,off,cap,cur,cur,rfl,hg,rfl,?_,hcs,hxc,hcm,by simpa using htk,rfl⟩)⟩
  .simp[Builtin.append_,run_underlying ht,sizeOf,typeInfo,hi,Builtin.lenOf,Builtin.firstCells,hxc,storeCells]
  rw[setRow_self w g cur e (0,0) hg]
 have htake:∀ (k:Nat),(olds.toArray++news.toArray++Builtin.zeroCells z.cells k).toList.take ((xn+m) * i.size)=olds++news:=by
  intro k;simp only[G1,A9];rw[<- A9]
  have:(xn+m) * i.size=(olds++news).length:=by rw[E9,hol,hnl,A6]
  rw[this];exact F6
 have hsize:∀ (k:Nat),(olds.toArray++news.toArray++Builtin.zeroCells z.cells k).size=(xn+m+k) * i.size:=by
  intro k;simp only[Array.size_append,F7,size_zeroCells,hzs,hol,hnl,A6]
 rcases hsv with ⟨rfl,rfl⟩ | ⟨g,off,cap,cur,rfl,hg,hcs,hxc,hcm,htk⟩
 .have ho:olds=[]:=A4 (by simpa using hol);subst ho;by_cases hm:m=0
  .subst hm;have hn:news=[]:=A4 (by simpa using hnl);subst hn;refine⟨.slice none 0 0,w,?_,.inl ⟨rfl,rfl,rfl⟩⟩;simp[Builtin.append_,run_underlying ht,sizeOf,typeInfo,hi,Builtin.lenOf,Builtin.firstCells,loadCells,loadCellsFrom]
  have hr:=run_append_nil (P:=P) w t ty e i z ht hi hz ad m c news hnl hnews' oM (by unfold maxLen at hmax;omega) (by simp only[C0]at hb1;omega);have hge:=grownCap_ge w m 0 e;have hcm:=grownCap_le_maxLen w m 0 e (by simpa using hmax);refine⟨_,_,hr,.inr (.inr ⟨_,_,by rw[C0],rfl,?_,by rw[C0];exact hge,hcm,?_⟩)⟩
  .have:=hsize (grownCap w m 0 e - m);simp only[C0]at this
   have e1:m+(grownCap w m 0 e - m)=grownCap w m 0 e:=by omega
   rw[e1]at this
   simpa using this
  simpa using htake (grownCap w m 0 e - m)
 by_cases hroom:xn+m<=cap
 .have hfit0:xn * i.size+news.length<=cap * i.size:=by rw[hnl,<- A6];exact D3 _ hroom
  have hfit:off+xn * i.size+news.length<=cur.size:=by rw[hcs];omega
  have hr:=qbm (P:=P) w t ty e i ht hi g off xn cap cur hg ad m c news hnl hnews' h1 hroom hfit
  have hcut:cur.toList.take (off+xn * i.size)=cur.toList.take off++olds:=by rw[List.take_add,htk]
  have hoff:(cur.toList.take off).length=off:=by rw[List.length_take,A8];omega
  refine⟨_,_,hr,.inr (.inl ⟨g,off,cap,cur,_,rfl,hg,rfl,rfl,?_,hroom,hcm,?_,?_⟩)⟩
  .simp only[F7,E9,List.length_take,List.length_drop,A8];omega
  .rw[hcut];simp only[A9];rw[List.drop_append_of_le_length (by omega),List.drop_eq_nil_of_le (by omega),F8,<- A9]
   have:(xn+m) * i.size=(olds++news).length:=by rw[E9,hol,hnl,A6]
   rw[this];exact F6
  rw[hcut];simp only[A9];rw[List.take_append_of_le_length (by omega),G0 (by omega)]
 have holds:∀ (j:Nat) u,olds[j]? = some u->w.cell? ((⟨g,off,none⟩:Addr).add j)=some u:=by
  intro j u hu;rw[QC];unfold World.cell?;rw[hg];rw[<- htk,B1]at hu;split at hu
  .rw[D2]at hu
   simpa using hu
  cases hu
 have hr:=run_append_grow (P:=P) w t ty e i z ht hi hz ⟨g,off,none⟩ xn cap olds hol holds ad m c news hnl hnews' oM (by unfold maxLen at hmax;omega) (growslice_fits oM hb1);have hge:=grownCap_ge w (xn+m) cap e;have hcm':=grownCap_le_maxLen w (xn+m) cap e hmax;refine⟨_,_,hr,.inr (.inr ⟨_,_,rfl,rfl,?_,hge,hcm',htake _⟩)⟩;rw[hsize]
 congr 1
 omega
theorem qca (ty:Nat) (ht:P.underlying t=some (.slice e)) (hi:P.info? e=some i) (hz:i.zero=some z) (hsz:i.size=s) (hs0:0<s) (hzs:z.cells.size=s)
  {sv yv:Value} {xn m:Nat} {olds news:LT} (hol:olds.length=xn * s) (hnl:news.length=m * s)
  (hsv:(sv=.slice none 0 0/\xn=0)\/∃ g cap cur,sv=.slice (some ⟨g,0,none⟩) xn cap/\w.heap[g]? = some (.cells cur e (0,0))/\cur.size=cap * s/\xn<=cap/\cap<=maxLen/\cur.toList.take (xn * s)=olds)
  (hyv:(yv=.slice none 0 0/\m=0)\/∃ ad c,yv=.slice (some ad) m c/\∀ (j:Nat) u,news[j]? = some u->w.cell? (ad.add j)=some u)
  (h1:∀ u∈news,u.oneCell'=true) (hb1:(xn+m) * i.bytes<=140737488355328) (hb2:xn+m<=140737488355328) :
  ∃ v' w',(Builtin.append_ #[t,t] ty #[sv,yv]).run P w=.ok v' w' /\
   ((v'=.slice none 0 0/\xn+m=0/\w'=w) \/
    (∃ g cap cur cur',sv=.slice (some ⟨g,0,none⟩) xn cap/\w.heap[g]? = some (.cells cur e (0,0))/\v'=.slice (some ⟨g,0,none⟩) (xn+m) cap/\w'=w.setRow g cur'/\cur'.size=cap * s/\xn+m<=cap/\cap<=maxLen/\cur'.toList.take ((xn+m) * s)=olds++news) \/
    (∃ cap cur',v'=.slice (some ⟨w.heap.size,0,none⟩) (xn+m) cap/\w'=w.drew.alloc (.cells cur' e)/\cur'.size=cap * s/\xn+m<=cap/\cap<=maxLen/\cur'.toList.take ((xn+m) * s)=olds++news)):=by
 obtain⟨v',w',h,hw⟩:=qba (w:=w) (P:=P) ty ht hi hz hsz hs0 hzs (sv:=sv) hol hnl (by
  rcases hsv with hsv | ⟨g,cap,cur,q1,q2,q3,q4,q5,q6⟩
  .exact .inl hsv
  exact .inr ⟨g,0,cap,cur,q1,q2,by omega,q4,q5,by simpa using q6⟩) hyv h1 hb1 hb2
 refine⟨v',w',h,?_⟩
 rcases hw with hw | ⟨g,off,cap,cur,cur',q1,q2,q3,q4,q5,q6,q7,q8,_⟩ | hw
 .exact .inl hw
 .rcases hsv with ⟨rfl,_⟩ | ⟨g0,cap0,cur0,p1,_⟩
  .cases q1
  rw[p1]at q1;cases q1;exact .inr (.inl ⟨g,cap,cur,cur',p1,q2,q3,q4,by omega,q6,q7,by simpa using q8⟩)
 exact .inr (.inr hw)
theorem qbb (ty:Nat) (ht:P.underlying t=some (.slice e)) (hi:P.info? e=some i) (hz:i.zero=some z) (hsz:i.size=s) (hs0:0<s) (hzs:z.cells.size=s)
  {ad:Option Addr} {yv:Value} {m:Nat} {news:LT} (hnl:news.length=m * s)
  (hyv:(yv=.slice none 0 0/\m=0)\/∃ ad c,yv=.slice (some ad) m c/\∀ (j:Nat) u,news[j]? = some u->w.cell? (ad.add j)=some u)
  (h1:∀ u∈news,u.oneCell'=true) (hb1:(0+m) * i.bytes<=140737488355328) (hb2:0+m<=140737488355328) :
  ∃ v' w',(Builtin.append_ #[t,t] ty #[.slice ad 0 0,yv]).run P w=.ok v' w' /\
   ((m=0/\(∃ ad,v'=.slice ad 0 0)/\w'=w) \/
    (∃ cap cur',v'=.slice (some ⟨w.heap.size,0,none⟩) (0+m) cap/\w'=w.drew.alloc (.cells cur' e)/\cur'.size=cap * s/\0+m<=cap/\cap<=maxLen/\cur'.toList.take ((0+m) * s)=[]++news)):=by
 cases ad with
 | none =>
  obtain⟨v',w',hr,hw⟩:=qca (w:=w) (P:=P) (olds:=[]) ty ht hi hz hsz hs0 hzs (by simp) hnl (.inl ⟨rfl,rfl⟩) hyv h1 hb1 hb2;refine⟨v',w',hr,?_⟩
  rcases hw with ⟨q1,q2,q3⟩ | ⟨g,cap,cur,cur',q1,_⟩ | q
  .exact .inl ⟨by omega,⟨none,q1⟩,q3⟩
  .cases q1
  exact .inr q
 | some ad =>
  subst hsz;by_cases hm:m=0
  .subst hm;have hn:news=[]:=A4 (by simpa using hnl);subst hn;refine⟨.slice (some ad) 0 0,w,?_,.inl ⟨rfl,⟨_,rfl⟩,rfl⟩⟩
   rcases hyv with ⟨rfl,_⟩ | ⟨ad',c,rfl,_⟩
   .simp[Builtin.append_,run_underlying ht,sizeOf,typeInfo,hi,Builtin.lenOf,Builtin.firstCells,storeCells]
   simp[Builtin.append_,run_underlying ht,sizeOf,typeInfo,hi,Builtin.lenOf,Builtin.firstCells,loadCells,loadCellsFrom,storeCells]
  rcases hyv with ⟨_,h0⟩ | ⟨ad',c,rfl,hnews'⟩
  .exact absurd h0 hm
  have hr:=run_append_grow (P:=P) w t ty e i z ht hi hz ad 0 0 [] (by simp) (by simp) ad' m c news hnl hnews' oM oM (growslice_fits oM (by simpa using hb1));have hge:=grownCap_ge w m 0 e;have hcm:=grownCap_le_maxLen w m 0 e (by unfold maxLen;omega);refine⟨_,_,hr,.inr ⟨_,_,rfl,rfl,?_,by simpa using hge,by simpa using hcm,?_⟩⟩
  .simp only[Array.size_append,F7,size_zeroCells,hzs,hnl,F8,C0,List.length_nil];rw[<- A6]
   congr 1
   omega
  simp only[G1,F8,C0];rw[<- hnl];exact F6
theorem qhY {env:Env} (hn:labIn d env=false) {x:AV} (h:look env t=some x):x.hasLabB d=false:=by
 obtain⟨q,hq,_,h2⟩:=Hl h;unfold labIn at hn;rw[D6]at hn;have:=hn q hq;rw[h2]at this
 simpa using this
theorem Inv.setOwn (h:Inv bs n M O env a w) (hn:labIn d env=false) (hd:O false d=none) (hg:∀ i c,O i c≠some g) (hB:¬ bs.D g) (hs:g<w.heap.size):Inv bs n M (setO O false d (some g)) env a w:=by
 have hmono:∀ i c g',O i c=some g'->setO O false d (some g) i c=some g':=by
  intro i c g' hg';rw[jU];split
  .rename_i e;rw[e.1,e.2,hd]at hg';cases hg'
  exact hg'
 refine⟨h.size,h.defers,h.below,h.hB,h.cons,h.ext,h.old,?_,?_,⟨h.fix.1,fun c k1 k2=>?_⟩,fun t x hx=>(h.slots t x hx).change (Sub.refl M) (Jq O d (some g)) fun i c g' hg'=>⟨hmono i c g' hg',rfl,fun _ hm=>hm⟩⟩
 .intro i c g' hg';rw[jU]at hg';split at hg'
  .cases hg';exact⟨hB,hs⟩
  exact h.own i c g' hg'
 .intro i i' c c' g' h1 h2;rw[jU]at h1 h2;split at h1 <;> split at h2
  .rename_i e1 e2;exact⟨e1.1.trans e2.1.symm,e1.2.trans e2.2.symm⟩
  .cases h1;exact absurd h2 (hg i' c')
  .cases h2;exact absurd h1 (hg i c)
  exact h.inj i i' c c' g' h1 h2
 obtain⟨e1,e2,e3⟩:=h.fix.2 c k1 k2;exact⟨(Jq O d (some g) c).1.trans e1,e2,e3⟩
theorem mcRow {w:World} {fr:Nat×Nat} (h:w.heap[g]? = some (.cells cur e fr)):mc w g o=cellsAt cur o:=by
 unfold mc;rw[h]
theorem mcRowAt {w:World} (h:RowAt w g cur e):mc w g o=cellsAt cur o:=by
 obtain⟨el,fz,h1,_⟩:=h;exact mcRow h1
theorem DM {us us':LO} (h:us[o]? = us'[o]?):cellsAt us o=cellsAt us' o:=by
 unfold cellsAt;rw[h]
theorem UQ (h:∀ x,x∈xs->x.cells.all AV.one=true) {j:Nat} {c:AV} (hc:(flat xs)[j]? = some c):c.one=true:=by
 obtain⟨x,hx,hcx⟩:=List.mem_flatMap.1 (A2 hc);exact List.all_eq_true.1 (h x hx) c hcx
theorem qdC (h:Inv bs n M O env a w) (hn:labIn d env=false) (hd:O false d=none) {ys:LJ} {olds news:LT} {w':World} {v':Value} {cur':LO} {off cap:Nat} {row:LR}
  (hrow:∀ k,row=some k->k=g) (hfresh:g<w.heap.size->row=some g) (hw:w.grownBy w' row) (hB:¬ bs.D g) (hg:∀ i c,O i c≠some g) (hg':w'.heap[g]? = some (.cells cur' e (0,0))) (hsz:cur'.size=off+cap * s) (hcap:xs.length+ys.length<=cap) (hmax:cap<=maxLen)
  (htake:(cur'.toList.drop off).take ((xs.length+ys.length) * s)=olds++news) (hol:olds.length=xs.length * s)
  (hMg:∀ o,M g o=none\/(o<off+xs.length * s/\M g o=cellsAt cur' o))
  (hxs:∀ x,x∈xs++ys->x.cells.length=s) (hx1:∀ x,x∈xs++ys->x.cells.all AV.one=true)
  (hro:∀ (j:Nat) c u,(flat xs)[j]? = some c->olds[j]? = some u->R M c u) (hrn:∀ (j:Nat) c u,(flat ys)[j]? = some c->news[j]? = some u->R M c u) (hdn:d<n) (hv:v'=.slice (some ⟨g,off,none⟩) (xs.length+ys.length) cap) :
  ∃ M' O',Inv bs n M' O' (ins d (.lst e s (some d) (xs++ys)) env) (a.put (some d) v') w':=by
 subst hv;have hgs:g<w'.heap.size:=(Array.getElem?_eq_some_iff.1 hg').1
 have hle:off+(xs.length+ys.length) * s<=cur'.size:=by rw[hsz];exact Nat.add_le_add_left (D3 _ hcap) _
 have hmul:xs.length * s<=(xs.length+ys.length) * s:=D3 _ (Nat.le_add_right _ _)
 have hcur:∀ j,j<(xs.length+ys.length) * s->cur'[off+j]? = (olds++news)[j]?:=by
  intro j hj;rw[<- htake,B1,if_pos hj,D2];simp
 have hM':Sub M (addPart M g (off+(xs.length+ys.length) * s) cur'):=by
  intro b o u hu;unfold addPart;split
  .rename_i hc;obtain⟨rfl,hlt⟩:=hc
   rcases hMg o with h1 | ⟨h1,h2⟩
   .rw[h1]at hu;cases hu
   rw[<- h2];exact hu
  exact hu
 have hC:Cons (addPart M g (off+(xs.length+ys.length) * s) cur') w':=by
  intro b o u hu;unfold addPart at hu;split at hu
  .rename_i hc;obtain⟨rfl,hlt⟩:=hc;rw[mcRow hg'];exact hu
  rename_i hc;have hb:=NJ (h.cons b o u hu);by_cases hbg:b=g
  .subst hbg
   rcases hMg o with h1 | ⟨h1,h2⟩
   .rw[h1]at hu;cases hu
   exact absurd ⟨rfl,by omega⟩ hc
  rw[Qd (hw.block b hb (fun e=>hbg (hrow b e.symm)))];exact h.cons b o u hu
 have h2:=h.grown (row:=row) (M':=addPart M g (off+(xs.length+ys.length) * s) cur') (fun k hk=>by rw[hrow k hk];exact⟨hB,hg⟩) hw hM' hC (fun b o hb hne=>by
  unfold addPart;rw[if_neg]
  rintro⟨rfl,_⟩
  exact hne (hfresh hb).symm)
 have h3:=h2.setOwn hn hd hg hB hgs
 have hP1:∀ o,o<off+(xs.length+ys.length) * s->addPart M g (off+(xs.length+ys.length) * s) cur' g o=cellsAt cur' o:=by
  intro o ho;unfold addPart;rw[if_pos ⟨rfl,ho⟩]
 have hP2:∀ o,off+(xs.length+ys.length) * s<=o->addPart M g (off+(xs.length+ys.length) * s) cur' g o=M g o:=by
  intro o ho;unfold addPart;rw[if_neg (by omega)]
 generalize addPart M g (off+(xs.length+ys.length) * s) cur'=M' at hM' hC h2 h3 hP1 hP2;refine⟨_,_,h3.put hdn (x:=.lst e s (some d) (xs++ys)) ⟨?_,?_⟩⟩
 .have hlen:xs.length+ys.length=(xs++ys).length:=by simp
  rw[hlen];have hfl:=jh hxs
  have hRR:∀ (j:Nat) c,(flat (xs++ys))[j]? = some c->R M' c (cur'.getD (off+j) undef):=by
   intro j c hc;have hj:=(List.getElem?_eq_some_iff.1 hc).1;rw[hfl,<- hlen]at hj
   have hjc:off+j<cur'.size:=by omega
   have e1:cur'[off+j]? = some (cur'.getD (off+j) undef):=by simp[hjc]
   rw[hcur j hj]at e1;rw[qbQ]at hc
   have hfx:(flat xs).length=xs.length * s:=jh fun x hx=>hxs x (List.mem_append_left _ hx)
   by_cases hjx:j<xs.length * s
   .rw[D4 (by rw[hfx];exact hjx)]at hc;rw[D4 (by rw[hol];exact hjx)]at e1;exact (hro j c _ hc e1).mono hM'
   rw[D8 (by rw[hfx];omega),hfx]at hc;rw[D8 (by rw[hol];omega),hol]at e1;exact (hrn _ c _ hc e1).mono hM'
  refine R.lst (fun j=>cur'.getD (off+j) undef) (by rw[<- hlen];exact hcap) hxs hx1 (fun j c hc=>?_) hRR;have hj:=(List.getElem?_eq_some_iff.1 hc).1;rw[hfl,<- hlen]at hj;rw[hP1 (off+j) (by omega)]
  have:off+j<cur'.size:=by omega
  exact Jy (by simp[this]) (Ye ((hRR j c hc).one (UQ hx1 hc)))
 have hlen:xs.length+ys.length=(xs++ys).length:=by simp
 rw[hlen];refine .inr ⟨g,off,cap,cur',rfl,by simp[setO],hg',hsz,by rw[<- hlen];exact hcap,hmax,fun o ho=>?_⟩;rw[<- hlen]at ho;rw[hP2 o ho]
 rcases hMg o with h1 | ⟨h1,_⟩
 .exact h1
 omega
theorem qkQ {l:Nat} {m:LR}:∀ i c g,relO O l m i c=some g->∃ c',O i c'=some g/\(i=false->(c'=l/\m=some c)\/(c'=c/\c≠l/\m≠some c))/\(i=true->c'=c):=by
 intro i c g hg
 cases i with
 | true=>rw[qjC]at hg;exact⟨c,hg,(fun e=>by cases e),fun _=>rfl⟩
 | false =>
  cases m with
  | none =>
   simp only[relO,setO]at hg;split at hg
   .cases hg
   rename_i hne;exact⟨c,hg,(fun _=>.inr ⟨rfl,(fun e=>hne ⟨trivial,e⟩),(fun e=>by cases e)⟩),fun _=>rfl⟩
  | some c1 =>
   simp only[relO,setO]at hg;split at hg
   .cases hg
   rename_i hne;split at hg
   .rename_i he;exact⟨l,hg,(fun _=>.inl ⟨rfl,by rw[he.2]⟩),fun e=>by cases e⟩
   rename_i he;exact⟨c,hg,(fun _=>.inr ⟨rfl,(fun e=>hne ⟨trivial,e⟩),(fun e=>he ⟨trivial,by cases e;rfl⟩)⟩),fun _=>rfl⟩
theorem qdT (h:Inv bs n M O env a w) {o:Oper} {args:Array Operand} {ats:Array TypeId} (ho:o.op=.call { callee:=.builtin .append,args:=args,argTypes:=ats }) {env':Env} (he:astep P n o env=some env')
  (hO:∀ (x y:Operand) (t t' d id ex kx off m:Nat) (q:AV),args.toList=[x,y]->ats.toList=[t,t']->o.dst=some d->aop env x=some (.sb id ex kx off m)->aop env y=some q->VZ P n t t' d (.sb id ex kx off m) q env=some env'->Leads P bs n o a w env'):Leads P bs n o a w env':=by
 unfold astep at he;rw[ho]at he;simp only at he;split at he
 case h_2=>cases he
 rename_i x y t t' d ha ht hd;split at he
 case h_3=>cases he
 case h_1 =>
  rename_i id ex kx off m q hp hq;exact hO x y t t' d id ex kx off m q ha ht hd hp hq he
 rename_i p q hns hp hq;split at he
 case h_2=>cases he
 rename_i r env1 hap
 have ea:args=#[x,y]:=by apply Array.ext';simpa using ha
 have et:ats=#[t,t']:=by apply Array.ext';simpa using ht
 subst ea;subst et;have hxv:=qv h hp;have hyv:=qv h hq;unfold aappend at hap;split at hap
 case h_2=>cases hap
 rename_i e s hse;obtain⟨hu,hs⟩:=Jp hse;split at hap
 .cases hap
 rename_i hc;simp only[A1]at hc;obtain⟨⟨hc1,hc2⟩,hc3⟩:=hc;have hc1:=A5 hc1;subst hc1;have hc2:0<s:=A0 hc2
 obtain⟨ie,hie,hsz⟩:∃ ie,P.info? e=some ie/\ie.size=s:=by
  unfold tSize at hs
  cases hi:P.info? e with
  | none=>rw[hi]at hs;cases hs
  | some ie=>rw[hi]at hs;exact⟨ie,rfl,Option.some.inj hs⟩
 obtain⟨z,hz,hzs⟩:∃ z,ie.zero=some z/\z.cells.size=s:=by
  rw[hie]at hc3;simp only[Option.bind_some]at hc3
  cases hz:ie.zero with
  | none=>rw[hz]at hc3;cases hc3
  | some z=>rw[hz]at hc3;exact⟨z,rfl,A5 hc3⟩
 have hexec:∀ v' w',(Builtin.append_ #[t,t] o.type #[a.eval x,a.eval y]).run P w=.ok v' w'->(execOp a.eval o).run P w=.ok (.value v') w':=by
  intro v' w' hr;unfold execOp;rw[ho];simp only[resolve,invoke,builtin,A3,E7,D1,List.map_toArray,List.map_cons,List.map_nil,hr]
 split at hap
 .cases hap
 case h_3=>cases hap
 rename_i ey ky lab ys;split at hap
 .cases hap
 rename_i hky;have hky:=A5 hky;subst hky
 obtain⟨news,hnl,hnv,hn1,hnr,hyc,hyo⟩:∃ news:LT,news.length=ys.length * ky/\((a.eval y=.slice none 0 0/\ys.length=0)\/∃ ad c,a.eval y=.slice (some ad) ys.length c/\∀ (j:Nat) u,news[j]? = some u->w.cell? (ad.add j)=some u)/\(∀ u∈news,u.oneCell'=true)/\(∀ (j:Nat) c u,(flat ys)[j]? = some c->news[j]? = some u->R M c u)/\(∀ x,x∈ys->x.cells.length=ky)/\(∀ x,x∈ys->x.cells.all AV.one=true):=by
  rcases hyv.1.lst_inv with ⟨rfl,hv | ⟨ad,cap,hv⟩⟩ | ⟨b,off,cap,us,hv,h1,h2,h3,h4,h5⟩
  .exact⟨[],by simp,.inl ⟨hv,rfl⟩,by simp,by simp[flat],by simp,by simp⟩
  .exact⟨[],by simp,.inr ⟨ad,cap,hv,by simp⟩,by simp,by simp[flat],by simp,by simp⟩
  have hfl:=jh h2;refine⟨(List.range (ys.length * ky)).map us,by simp,.inr ⟨_,cap,hv,fun j u hu=>?_⟩,?_,?_,h2,h5⟩
  .rw[QC];rw[JL]at hu;split at hu
   .rename_i hj;cases hu;have hcj:(flat ys)[j]? = some ((flat ys)[j]'(by rw[hfl];exact hj)):=F9 (by rw[hfl];exact hj);exact JS (h.cons _ _ _ (h3 j _ hcj)) (Ye ((h4 j _ hcj).one (UQ h5 hcj)))
   cases hu
  .intro u hu;obtain⟨j,hj,rfl⟩:=List.mem_map.1 hu
   have hj':j<(flat ys).length:=by rw[hfl];exact List.mem_range.1 hj
   have hjg:=F9 hj';refine (h4 j _ hjg).one ?_;have hm:=A2 hjg;unfold flat at hm;obtain⟨x',hx',hcx⟩:=List.mem_flatMap.1 hm;have:=h5 x' hx';rw[C7]at this;exact this _ hcx
  intro j c u hc hu;rw[JL]at hu;split at hu
  .cases hu;exact h4 j c hc
  cases hu
 have core:∀ (O2:Gh) (env2:Env) (xs:LJ) (olds:LT),Inv bs n M O2 env2 a w->labIn d env2=false->O2 false d=none ->
   olds.length=xs.length * ky->(∀ x,x∈xs->x.cells.length=ky)->(∀ x,x∈xs->x.cells.all AV.one=true)->(∀ (j:Nat) c u,(flat xs)[j]? = some c->olds[j]? = some u->R M c u) ->
   (((∃ ad,a.eval x=.slice ad 0 0)/\xs.length=0)\/∃ g off cap cur,a.eval x=.slice (some ⟨g,off,none⟩) xs.length cap/\w.heap[g]? = some (.cells cur e (0,0))/\cur.size=off+cap * ky/\xs.length<=cap/\cap<=maxLen/\(cur.toList.drop off).take (xs.length * ky)=olds/\¬ bs.D g/\(∀ i c,O2 i c≠some g)/\∀ o,M g o=none\/(o<off+xs.length * ky/\M g o=cellsAt cur o)) ->
   (xs.length+ys.length) * ie.bytes<=140737488355328->xs.length+ys.length<=140737488355328->eput n o.dst (.lst e ky (some d) (xs++ys)) env2=some env'->Leads P bs n o a w env':=by
  intro O2 env2 xs olds h2 hn2 hd2 hol hxc hxo hro hx2 hb1 hb2 he2;rw[hd]at he2;obtain⟨hdn,rfl⟩:=VW he2;have hBle:¬ bs.D w.heap.size:=h.fresh (A7 _)
  have hxs:∀ x,x∈xs++ys->x.cells.length=ky:=fun x hx=>(List.mem_append.1 hx).elim (hxc x) (hyc x)
  have hxo':∀ x,x∈xs++ys->x.cells.all AV.one=true:=fun x hx=>(List.mem_append.1 hx).elim (hxo x) (hyo x)
  have grow:∀ v' w',(Builtin.append_ #[t,t] o.type #[a.eval x,a.eval y]).run P w=.ok v' w'->(∃ cap cur',v'=.slice (some ⟨w.heap.size,0,none⟩) (xs.length+ys.length) cap/\w'=w.drew.alloc (.cells cur' e)/\cur'.size=cap * ky/\xs.length+ys.length<=cap/\cap<=maxLen/\cur'.toList.take ((xs.length+ys.length) * ky)=olds++news)->Leads P bs n o a w (ins d (.lst e ky (some d) (xs++ys)) env2):=by
   rintro v' w' hrun ⟨cap,cur',rfl,rfl,k5,k6,k7,k8⟩
   obtain⟨M',O',hfin⟩:=qdC h2 (row:=none) hn2 hd2 (xs:=xs) (ys:=ys) (olds:=olds) (news:=news) (g:=w.heap.size) (w':=w.drew.alloc (.cells cur' e)) (fun k hk=>by cases hk) (fun hlt=>by omega) ⟨rfl,rfl,rfl,by simp,fun k hk _=>heap_alloc_old w.drew _ hk⟩ hBle
    (fun i c hc=>by have:=(h2.own i c _ hc).2;omega) (heap_alloc_new w.drew _) (off:=0) (by rw[C0];exact k5) k6 k7 (by rw[List.drop_zero];exact k8) hol (fun o=>.inl (Xb h.cons (A7 _) o)) hxs hxo' hro hnr hdn rfl
   exact⟨_,_,M',O',.inl (hexec _ _ hrun),by rw[hd];exact hfin⟩
  rcases hx2 with ⟨⟨ad,hxa⟩,hx0⟩ | hx2
  .have hx0':xs=[]:=A4 hx0;subst hx0';have ho0:olds=[]:=A4 (by simpa using hol);subst ho0;obtain⟨v',w',hrun,hways⟩:=qbb (w:=w) (P:=P) (t:=t) (e:=e) (i:=ie) (z:=z) (s:=ky) (ad:=ad) o.type hu hie hz hsz hc2 hzs (yv:=a.eval y) hnl hnv hn1 (by simpa using hb1) (by simpa using hb2);rw[<- hxa]at hrun
   rcases hways with ⟨hz0,⟨ad',rfl⟩,rfl⟩ | hw
   .have hy0:ys=[]:=A4 hz0;subst hy0;refine⟨_,_,M,O2,.inl (hexec _ _ hrun),?_⟩;rw[hd];refine h2.put hdn ⟨?_,.inl ⟨ad',rfl⟩⟩
    cases ad' with
    | none=>exact R.lstn e ky (some d)
    | some ad'=>exact R.lste e ky (some d) ad' 0
   exact grow v' w' hrun hw
  obtain⟨v',w',hrun,hways⟩:=qba (w:=w) (P:=P) (t:=t) (e:=e) (i:=ie) (z:=z) (s:=ky) o.type hu hie hz hsz hc2 hzs (sv:=a.eval x) (yv:=a.eval y) hol hnl
   (by
    obtain⟨g,off,cap,cur,k1,k2,k3,k4,k5,k6,_⟩:=hx2
    exact .inr ⟨g,off,cap,cur,k1,k2,k3,k4,k5,k6⟩) hnv hn1 hb1 hb2
  rcases hways with ⟨rfl,hz0,rfl⟩ | ⟨g,off,cap,cur,cur',k1,k2,rfl,rfl,k5,k6,k7,k8,k9⟩ | hw
  .have hx0:xs=[]:=A4 oM;have hy0:ys=[]:=A4 oM;subst hx0;subst hy0;refine⟨_,_,M,O2,.inl (hexec _ _ hrun),?_⟩;rw[hd];exact h2.put hdn ⟨R.lstn e ky (some d),.inl ⟨none,rfl⟩⟩
  .obtain⟨g',off',cap',cur1,q1,q2,q3,q4,q5,q6,q7,q8,q9⟩:=hx2
   .rw[q1]at k1;cases k1
    have q9':∀ o,M g o=none\/(o<off+xs.length * ky/\M g o=cellsAt cur' o):=by
     rw[k2]at q2;cases q2;intro o
     rcases q9 o with h0 | ⟨h0,h0'⟩
     .exact .inl h0
     refine .inr ⟨h0,h0'.trans ?_⟩;by_cases ho:o<off
     .have e1:=congrArg (fun l=>l[o]?) k9;simp only[B1,if_pos ho]at e1;exact DM (by simpa using e1.symm)
     have e1:=congrArg (fun l=>l[o - off]?) q6;have e2:=congrArg (fun l=>l[o - off]?) k8
     have hlt1:o - off<xs.length * ky:=by omega
     have hlt2:o - off<(xs.length+ys.length) * ky:=E0 hlt1 (D3 _ (Nat.le_add_right _ _));simp only[B1,if_pos hlt1,D2]at e1;simp only[B1,if_pos hlt2,D2]at e2;rw[D4 (by omega),<- e1]at e2
     have e3:off+(o - off)=o:=by omega
     rw[e3]at e2;exact DM (by simpa using e2.symm)
    obtain⟨M',O',hfin⟩:=qdC h2 (row:=some g) hn2 hd2 (xs:=xs) (ys:=ys) (olds:=olds) (news:=news) (fun k hk=>by cases hk;rfl) (fun _=>rfl) (Xi w g cur') q7 q8 (setRow_heap w g cur cur' e _ k2) k5 k6 k7 k8 hol q9' hxs hxo' hro hnr hdn rfl;exact⟨_,_,M',O',.inl (hexec _ _ hrun),by rw[hd];exact hfin⟩
  exact grow v' w' hrun hw
 have hbytes:((P.info? e).map (·.bytes)).getD 0=ie.bytes:=by rw[hie];rfl
 split at hap
 .
  split at hap
  case isFalse=>cases hap
  rename_i hb;cases hap;rw[hbytes]at hb
  have hx0:a.eval x=.slice none 0 0:=by
   have:=hxv.1;generalize a.eval x=yy at this;cases this;rfl
  have h1:=h.relab d none (fun c e=>by cases e);exact core _ _ [] [] h1 (Zh d env) (by simp[relO,setO]) (by simp) (by simp) (by simp) (by simp[flat]) (.inl ⟨⟨none,hx0⟩,rfl⟩) (by simpa using hb.1) (by simpa using hb.2) (by simpa using he)
 .rename_i ex kx c xs;split at hap
  .cases hap
  rename_i hk;simp only[A1]at hk;obtain⟨hk1,hk2⟩:=hk;have hk1:=A5 hk1;have hk2:=A5 hk2;subst hk1;subst hk2;split at hap
  case isFalse=>cases hap
  rename_i hb;cases hap;rw[hbytes]at hb;have h1:=h.relab c none (fun c e=>by cases e);have h2:=h1.relab d none (fun c e=>by cases e)
  have hO2:∀ i c' g,relO (relO O c none) d none i c'=some g->O i c'=some g/\¬ (i=false/\c'=c):=by
   intro i c' g hg;obtain⟨c1,g1,f1,t1⟩:=qkQ i c' g hg;obtain⟨c2,g2,f2,t2⟩:=qkQ i c1 g g1
   cases i with
   | true =>
    rw[t1 rfl]at t2;rw[t2 rfl]at g2;exact⟨g2,fun e=>by cases e.1⟩
   | false =>
    rcases f1 rfl with ⟨_,e⟩ | ⟨e1,_,_⟩
    .cases e
    rcases f2 rfl with ⟨_,e⟩ | ⟨e2,e3,_⟩
    .cases e
    rw[e1]at e2 e3;rw[e2]at g2;exact⟨g2,fun e=>e3 e.2⟩
  have hd2:relO (relO O c none) d none false d=none:=by simp[relO,setO]
  have hinv:=hxv.1.lst_inv
  rcases hxv.2 with hv | ⟨g,off,cap,cur,q1,q2,q3,q4,q5,q6,q7⟩
  .have hx0:xs=[]:=by
    rcases hinv with ⟨e1,_⟩ | ⟨b,off2,cap,us,hv',_⟩
    .exact e1
    obtain⟨ad,hv⟩:=hv;rw[hv]at hv';have:xs.length=0:=(Value.slice.inj hv').2.1.symm;exact A4 this
   subst hx0;exact core _ _ [] [] h2 (Zh d _) hd2 (by simp) (by simp) (by simp) (by simp[flat]) (.inl ⟨hv,rfl⟩) hb.1 hb.2 (by simpa using he)
  have known:∀ o,M g o=none\/(o<off+xs.length * kx/\M g o=cellsAt cur o):=by
   intro o;by_cases ho:o<off+xs.length * kx
   .cases hm:M g o with
    | none=>exact .inl rfl
    | some u =>
     refine .inr ⟨ho,?_⟩;have:=h.cons _ _ _ hm;rw[mcRow q3]at this;exact this.symm
   exact .inl (q7 o oM)
  rcases hinv with ⟨hx0,hv'⟩ | ⟨b,off2,cap',us,hv',g1,g2,g3,g4,g5⟩
  .subst hx0;refine core _ _ [] [] h2 (Zh d _) hd2 (by simp) (by simp) (by simp) (by simp[flat]) (.inr ⟨g,off,cap,cur,q1,q3,q4,q5,q6,by simp,(h.own _ _ _ q2).1,fun i c' hc'=>?_,fun o=>?_⟩) hb.1 hb.2 (by simpa using he)
   .obtain⟨k1,k2⟩:=hO2 i c' g hc';exact k2 (h.inj _ _ _ _ g k1 q2)
   exact known o
  rw[q1]at hv';cases hv';have hfl:=jh g2
  have hle:off+xs.length * kx<=cur.size:=by rw[q4];exact Nat.add_le_add_left (D3 _ q5) _
  have hcell:∀ j,j<xs.length * kx->cur[off+j]? = some (us j):=by
   intro j hj;have hm:=g3 j _ (F9 (by rw[hfl];exact hj));have:=h.cons _ _ _ hm;rw[mcRow q3]at this;exact (ZU this).1
  have hold:∀ (j:Nat),((cur.toList.drop off).take (xs.length * kx))[j]? = if j<xs.length * kx then some (us j) else none:=by
   intro j;rw[B1];by_cases hj:j<xs.length * kx
   .rw[if_pos hj,if_pos hj,D2]
    simpa using hcell j hj
   rw[if_neg hj,if_neg hj]
  refine core _ _ xs ((cur.toList.drop off).take (xs.length * kx)) h2 (Zh d _) hd2 (by simp;omega) g2 g5 (fun j c' u hc' hu=>?_) (.inr ⟨g,off,cap,cur,q1,q3,q4,q5,q6,rfl,(h.own _ _ _ q2).1,fun i c' hc'=>?_,known⟩) hb.1 hb.2 he
  .rw[hold]at hu;split at hu
   .cases hu;exact g4 j c' hc'
   cases hu
  obtain⟨k1,k2⟩:=hO2 i c' g hc';exact k2 (h.inj _ _ _ _ g k1 q2)
 cases hap
end
end Go.AM
