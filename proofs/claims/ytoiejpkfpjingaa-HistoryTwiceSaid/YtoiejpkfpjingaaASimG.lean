import Derived.Test.YtoiejpkfpjingaaASimF
set_option linter.all false
open Nat renaming le_of_ble_eq_true→A0, le_refl→A4, eq_of_beq_eq_true→B0, add_mul→B5, add_zero→B9
open Go.Sem renaming run_bind→A1
open Bool renaming and_eq_true→A2
open List renaming mem_of_getElem?→A3, getElem?_map→A5, all_eq_true→A7, length_map→A9, any_map→B6, any_eq_false→B7, append_assoc→C0, set_eq_take_append_cons_drop→C2, getElem?_append_left→C4, getElem?_append_right→C5
open Array renaming length_toList→A6
open Go.Result renaming andThen_ok→A8
namespace Go.AM
open Go.RowKit
section
variable {bs:Base} {n:Nat} {M:Mem} {O:Gh} {env:Env} {a:Act} {w:World} {P:Program}
theorem XL {l:Nat} {x:AV}:(x.relab l none).hasLab l=false:=by
 cases x with
 | lst e k o xs =>
  cases o with
  | none=>rfl
  | some c =>
   simp only[AV.relab];split
   ·rfl
   ·rename_i h;exact h
 | _=>rfl
theorem JI (l:Nat) (env:Env):labIn l (relabE l none env)=false:=by
 unfold labIn relabE;rw[B6,B7]
 rintro⟨t,x⟩ _
 simp only[Function.comp]
 cases x with
 | box cs =>
  simp only[AV.relabB,AV.hasLabB,B6,Bool.not_eq_true,B7];intro z _;simp only[Function.comp,XL]
 | agr cs =>
  simp only[AV.relabB,AV.hasLabB,B6,Bool.not_eq_true,B7];intro z _;simp only[Function.comp,XL]
 | lst e k o xs =>
  have h:=XL (l:=l) (x:=.lst e k o xs);show ¬ ((AV.lst e k o xs).relab l none).hasLabB l=true
  have:∃ o',(AV.lst e k o xs).relab l none=.lst e k o' xs:=by
   cases o with
   | none=>exact⟨_,rfl⟩
   | some c=>simp only[AV.relab];split <;> exact⟨_,rfl⟩
  obtain⟨o',ho'⟩:=this;rw[ho']at h ⊢;rw[show (AV.lst e k o' xs).hasLabB l=(AV.lst e k o' xs).hasLab l from rfl,h]
  exact fun e=>by cases e
 | _=>exact fun e=>by cases e
theorem qam (O:Gh) (l:Nat) (m:Option Nat) (s:Nat):relO O l m true s=O true s:=by
 cases m <;> simp[relO,setO]
theorem XP:∀ {env:Env} {s:Nat} {x:AV},look env s=some x→∃ q∈env,q.1=s∧q.2=x
 | [],s,x,h=>by simp[look]at h
 | (s',z)::r,s,x,h=>by
  simp only[look]at h;split at h
  ·rename_i hs;cases h;exact⟨_,List.mem_cons_self ..,B0 hs,rfl⟩
  ·obtain⟨q,hq,h1,h2⟩:=XP h;exact⟨q,List.mem_cons_of_mem _ hq,h1,h2⟩
theorem jj {t:Nat} {env:Env} (h:clearOf t env=true):(∀ x,look env t≠some x)∧∀ s x,look env s=some x→x.refs t=false:=by
 unfold clearOf at h;rw[A7]at h;refine⟨fun x hx=>?_,fun s x hx=>?_⟩
 ·obtain⟨q,hq,h1,_⟩:=XP hx;have:=h q hq;simp only[A2,Bool.not_eq_true']at this;rw[h1]at this;simp at this
 ·obtain⟨q,hq,_,h2⟩:=XP hx;have:=h q hq;simp only[A2,Bool.not_eq_true']at this;rw[h2]at this;exact this.2
theorem qF {O:Gh} {d t:Nat} {v:Option Nat} (h:t≠d):Gh.Eq1 O (setO O true d v) t:=⟨by simp[qP,h],rfl,rfl⟩
theorem Inv.newEnt (h:Inv bs n M O env a w) {d:Nat} (hd:d<n) (hc:clearOf d env=true) {x:AV} {cur:Array Value} (el:TypeId)
  (hsat:Sat (setO O true d (some w.heap.size)) M (w.alloc (.cells cur el)) d x (.pointer (some ⟨w.heap.size,0,none⟩))) :
  Inv bs n M (setO O true d (some w.heap.size)) (ins d x env) (a.put (some d) (.pointer (some ⟨w.heap.size,0,none⟩))) (w.alloc (.cells cur el)):=by
 obtain⟨c1,c2⟩:=jj hc;have hfresh:=h.fresh (A4 w.heap.size)
 have hsz:(w.alloc (.cells cur el)).heap.size=w.heap.size+1:=by simp
 have hlt:∀ k,bs.D k→k<w.heap.size:=fun k hk=>by have:=h.hB k hk;have:=h.below.size;omega
 refine⟨by simp[Act.put,h.size],h.defers,h.below.step (D':=fun k=>k<w.heap.size) ⟨rfl,rfl,rfl,by simp,fun k hk=>heap_alloc_old w _ hk⟩ hlt,h.hB,JZ h.cons _,h.ext,h.old,?_,?_,⟨h.fix.1,fun c k1 k2=>?_⟩,?_⟩
 ·intro i c g hg;rw[qP]at hg;split at hg
  ·cases hg;exact⟨hfresh,by rw[hsz];omega⟩
  ·obtain⟨k1,k2⟩:=h.own i c g hg;exact⟨k1,by rw[hsz];omega⟩
 ·intro i i' c c' g hg hg';rw[qP]at hg hg';split at hg <;> split at hg'
  ·rename_i e1 e2;exact⟨e1.1.trans e2.1.symm,e1.2.trans e2.2.symm⟩
  ·cases hg;have:=(h.own i' c' _ hg').2;omega
  ·cases hg';have:=(h.own i c _ hg).2;omega
  ·exact h.inj i i' c c' g hg hg'
 ·obtain⟨e1,e2,e3⟩:=h.fix.2 c k1 k2
  have hne:c≠d:=by have:=h.fix.1;omega
  obtain⟨f1,f2,f3⟩:=qF (O:=O) (v:=some w.heap.size) hne;exact⟨f1.trans e1,f2.trans e2,f3.trans e3⟩
 ·intro t y hx;rw[qA]at hx;rw[VP (by rw[h.size];exact hd)];by_cases htd:t=d
  ·rw[if_pos htd]at hx;cases hx;rw[if_pos htd];subst htd;exact hsat
  ·rw[if_neg htd]at hx;rw[if_neg htd]
   refine (h.slots t y hx).change2 (Sub.refl M) (fun _=>qF htd) (fun s hs=>qF fun e=>?_) (fun g _ hg=>⟨heap_alloc_old w _ (h.own _ _ _ hg).2,fun _ hm=>hm⟩) fun c g hg=>⟨by simp[setO,hg],heap_alloc_old w _ (h.own _ _ _ hg).2,fun _ hm=>hm⟩
   rw[e]at hs;rw[c2 t y hx]at hs;cases hs
theorem Inv.newBox (h:Inv bs n M O env a w) {d:Nat} (hd:d<n) (hc:clearOf d env=true) {cs:List AV} {cur:Array Value} (el:TypeId) (hl:cs.length=cur.size)
  (hcs:∀ (j:Nat) c u,cs[j]? = some c→cur[j]? = some u→c.one=true∧R M c u∧c.lab? = none) :
  Inv bs n M (setO O true d (some w.heap.size)) (ins d (.box cs) env) (a.put (some d) (.pointer (some ⟨w.heap.size,0,none⟩))) (w.alloc (.cells cur el)):=by
 obtain⟨c1,c2⟩:=jj hc;have hfresh:=h.fresh (A4 w.heap.size)
 have hsz:(w.alloc (.cells cur el)).heap.size=w.heap.size+1:=by simp
 have hlt:∀ k,bs.D k→k<w.heap.size:=fun k hk=>by have:=h.hB k hk;have:=h.below.size;omega
 refine⟨by simp[Act.put,h.size],h.defers,h.below.step (D':=fun k=>k<w.heap.size) ⟨rfl,rfl,rfl,by simp,fun k hk=>heap_alloc_old w _ hk⟩ hlt,h.hB,JZ h.cons _,h.ext,h.old,?_,?_,⟨h.fix.1,fun c k1 k2=>?_⟩,?_⟩
 ·intro i c g hg;rw[qP]at hg;split at hg
  ·cases hg;exact⟨hfresh,by rw[hsz];omega⟩
  ·obtain⟨k1,k2⟩:=h.own i c g hg;exact⟨k1,by rw[hsz];omega⟩
 ·intro i i' c c' g hg hg';rw[qP]at hg hg';split at hg <;> split at hg'
  ·rename_i e1 e2;exact⟨e1.1.trans e2.1.symm,e1.2.trans e2.2.symm⟩
  ·cases hg;have:=(h.own i' c' _ hg').2;omega
  ·cases hg';have:=(h.own i c _ hg).2;omega
  ·exact h.inj i i' c c' g hg hg'
 ·obtain⟨e1,e2,e3⟩:=h.fix.2 c k1 k2
  have hne:c≠d:=by have:=h.fix.1;omega
  obtain⟨f1,f2,f3⟩:=qF (O:=O) (v:=some w.heap.size) hne;exact⟨f1.trans e1,f2.trans e2,f3.trans e3⟩
 ·intro t x hx;rw[qA]at hx;rw[VP (by rw[h.size];exact hd)];by_cases htd:t=d
  ·rw[if_pos htd]at hx;cases hx;rw[if_pos htd];subst htd;refine⟨w.heap.size,cur,el,.inl rfl,by simp[setO],heap_alloc_new w _,hl.symm,fun o=>jO h.cons (A4 _) o,fun j c u hc' hu=>?_⟩;obtain⟨k1,k2,k3⟩:=hcs j c u hc' hu;refine⟨k1,k2,?_⟩
   cases c with
   | lst e k o xs=>cases o with
    | none=>trivial
    | some _=>cases k3
   | _=>trivial
  ·rw[if_neg htd]at hx;rw[if_neg htd]
   refine (h.slots t x hx).change2 (Sub.refl M) (fun _=>qF htd) (fun s hs=>qF fun e=>?_) (fun g _ hg=>⟨heap_alloc_old w _ (h.own _ _ _ hg).2,fun _ hm=>hm⟩) fun c g hg=>⟨by simp[setO,hg],heap_alloc_old w _ (h.own _ _ _ hg).2,fun _ hm=>hm⟩
   rw[e]at hs;rw[c2 t x hx]at hs;cases hs
theorem QJ {d:Nat} {x:AV} {env env':Env} (he:eput n (some d) x env=some env'):d<n∧env'=ins d x env:=by
 unfold eput at he;simp only at he;split at he
 ·rename_i hc;cases he;simp only[A2]at hc;exact⟨A0 hc.1,rfl⟩
 ·cases he
theorem HY (h:Inv bs n M O env a w) {o:Oper} {t:TypeId} (ho:o.op=.alloc t) {env':Env} (he:astep P n o env=some env'):Leads P bs n o a w env':=by
 unfold astep at he;rw[ho]at he;simp only at he;split at he
 case h_2=>cases he
 rename_i d hd;split at he
 case h_2=>cases he
 rename_i z hc hz;split at he
 case h_2=>cases he
 rename_i hone;rw[hd]at he;obtain⟨hdn,rfl⟩:=QJ he;obtain⟨it,zv,hi,hzz,hzr,hzo⟩:=jU (M:=M) hz;refine⟨.pointer (some ⟨w.heap.size,0,none⟩),w.alloc (.cells zv.cells t),M,_,.inl ?_,by rw[hd];exact h.newBox hdn hc t hzr.1 fun j c u hc' hu=>⟨(hzo c (A3 hc')).1,hzr.2 j c u hc' hu,(hzo c (A3 hc')).2⟩⟩
 have hx:execOp a.eval o=vS (Instr.alloc t true (.tuple #[])):=by unfold execOp;rw[ho];rfl
 rw[hx];refine XB ?_;unfold Instr.alloc;simp[zeroValue,typeInfo,hi,hzz,newVar,newRow]
theorem qaG (h:Inv bs n M O env a w) {o:Oper} {t:TypeId} {x:Operand} (ho:o.op=.box t x) {env':Env} (he:astep P n o env=some env'):Leads P bs n o a w env':=by
 unfold astep at he;rw[ho]at he;simp only at he
 have hexec:(execOp a.eval o).run P w=.ok (.value (.pointer (some ⟨w.heap.size,0,none⟩))) (w.alloc (.cells (a.eval x).cells t)):=by
  have hx:execOp a.eval o=vS (Instr.box t (a.eval x)):=by unfold execOp;rw[ho];rfl
  rw[hx];refine XB ?_;unfold Instr.box;simp[newVar,newRow]
 split at he
 case h_3=>cases he
 case h_1 =>
  rename_i d cs hd hv;obtain⟨us,e1,e2,e3⟩:=qj h hv
  have hcells:(a.eval x).cells=us.toArray:=by rw[e1];rfl
  split at he
  ·rename_i hc;simp only[A2]at hc;obtain⟨⟨hc,hone⟩,_⟩:=hc;rw[hd]at he;obtain⟨hdn,rfl⟩:=QJ he
   exact⟨_,_,M,_,.inl hexec,by
    rw[hd];refine h.newEnt hdn hc t ⟨w.heap.size,_,t,.inl rfl,by simp[setO],heap_alloc_new w _,by rw[hcells];simp[e2],fun o=>jO h.cons (A4 _) o,fun j c u hc' hu=>?_⟩
    have hu':us[j]? = some u:=by rw[hcells]at hu;simpa using hu
    obtain⟨k1,k2,k3⟩:=e3 j c u hc' hu';have h1:=List.all_eq_true.1 hone c (A3 hc');refine⟨h1,?_,k2.change fun c' g' _ hg'=>⟨by simp[setO,hg'],heap_alloc_old w _ (h.own _ _ _ hg').2,fun _ hm=>hm⟩⟩;unfold CellR at k1
    cases c <;> first | exact k1.2 | cases h1⟩
  ·split at he
   case h_2=>cases he
   rename_i hc;simp only[A2]at hc;obtain⟨⟨hc,hok⟩,_⟩:=hc;rw[hd]at he;obtain⟨hdn,rfl⟩:=QJ he;have hnr:=(jj hc).2
   exact⟨_,_,M,_,.inl hexec,by
    rw[hd];refine h.newEnt hdn hc t ⟨w.heap.size,_,t,.inl rfl,by simp[setO],heap_alloc_new w _,by rw[hcells];simp[e2],fun o=>jO h.cons (A4 _) o,fun j c u hc' hu=>?_⟩
    have hu':us[j]? = some u:=by rw[hcells]at hu;simpa using hu
    rw[A5]at hc'
    cases hz:cs[j]? with
    | none=>rw[hz]at hc';cases hc'
    | some z =>
     rw[hz]at hc';cases hc';obtain⟨k1,k2,k3⟩:=e3 j z u hz hu';have h1:=List.all_eq_true.1 hok z (A3 hz);have hn1:d<1000000:=Nat.lt_of_lt_of_le hdn h.fix.1
     cases z with
     | sb id e' k off m =>
      have:id≠d:=fun e=>by
       have h2:=A0 h1;subst e;exact absurd hn1 (Nat.not_lt_of_le h2)
      exact SbOk.change (show SbOk O id k off m u from k1) (qF this)
     | mb kd id =>
      obtain⟨q1,g,q2,q3⟩:=k1;subst q1
      have:id≠d:=fun e=>by
       have h2:=A0 h1;subst e;exact absurd hn1 (Nat.not_lt_of_le h2)
      exact⟨rfl,g,by rw[(qF (O:=O) this).1];exact q2,q3⟩
     | lst e' k l xs=>exact⟨rfl,k1.2.setLab⟩
     | _=>first | exact k1 | cases h1⟩
 rename_i d v hnag hd hv;split at he
 case h_2=>cases he
 rename_i hc;simp only[A2]at hc;obtain⟨⟨hc,hone⟩,_⟩:=hc;rw[hd]at he;obtain⟨hdn,rfl⟩:=QJ he;have hs:=qj h hv;obtain⟨k1,k2,k3⟩:=(QG hs hone).cells hone
 have hone':∀ c∈v.cells,c.one=true:=by simpa[A7] using hone
 refine⟨.pointer (some ⟨w.heap.size,0,none⟩),w.alloc (.cells (a.eval x).cells t),M,_,.inl hexec,by
  rw[hd]
  refine h.newBox hdn hc t (by simp[k1]) fun j c u hc' hu=>?_
  rw[A5]at hc'
  cases hz:v.cells[j]? with
  | none=>rw[hz]at hc';cases hc'
  | some z =>
   rw[hz]at hc';cases hc'
   exact⟨Jb (hone' z (A3 hz)),(k2 j z u hz hu).strip,by cases z <;> rfl⟩⟩
theorem Inv.setEnt (h:Inv bs n M O env a w) {s g:Nat} {x x':AV} (hl:look env s=some x) (he:x.ent=true) (he':x'.ent=true) (hO:O true s=some g)
  {w':World} (hw:w.grownBy w' (some g)) (hMg:∀ o,M g o=none) (hsat:Sat O M w' s x' (a.tmps.getD s undef)) :
  Inv bs n M O (ins s x' env) a w':=by
 obtain⟨hgB,hgs⟩:=h.own true s g hO
 have hlt:∀ k,bs.D k→k<w.heap.size:=fun k hk=>by have:=h.hB k hk;have:=h.below.size;omega
 have hother:∀ i c g',O i c=some g'→¬ (i=true∧c=s)→w'.heap[g']? = w.heap[g']?:=by
  intro i c g' hg1 hne
  refine hw.block g' (h.own _ _ _ hg1).2 fun e=>?_
  cases e;exact hne (h.inj _ _ _ _ g hg1 hO)
 refine⟨h.size,h.defers,?_,h.hB,?_,h.ext,h.old,fun i c g' hg1=>⟨(h.own i c g' hg1).1,Nat.lt_of_lt_of_le (h.own i c g' hg1).2 hw.size⟩,h.inj,h.fix,?_⟩
 ·refine⟨hw.os.trans h.below.os,hw.tape.trans h.below.tape,hw.output.trans h.below.output,Nat.le_trans h.below.size hw.size,fun k hk=>?_⟩;exact (hw.block k (hlt k hk) fun e=>by cases e;exact hgB hk).trans (h.below.block k hk)
 ·intro b o u hu;have hb:=XC (h.cons b o u hu)
  have hne:b≠g:=fun e=>by subst e;rw[hMg]at hu;cases hu
  rw[jY (hw.block b hb (fun e=>hne (Option.some.inj e)))];exact h.cons b o u hu
 ·intro t y hy;rw[qA]at hy;by_cases hts:t=s
  ·subst hts;rw[if_pos rfl]at hy;cases hy;exact hsat
  ·rw[if_neg hts]at hy
   exact (h.slots t y hy).change2 (Sub.refl M) (fun _=>Gh.Eq1.refl O t) (fun c _=>Gh.Eq1.refl O c) (fun g' _ hg1=>⟨hother true t g' hg1 (fun e=>hts e.2),fun _ hm=>hm⟩) fun c g' hg1=>⟨hg1,hother false c g' hg1 (fun e=>by cases e.1),fun _ hm=>hm⟩
theorem Inv.setBox (h:Inv bs n M O env a w) {s g:Nat} {cs cs':List AV} (hl:look env s=some (.box cs)) (hO:O true s=some g) {cur cur':Array Value} {el:Nat} (hg:w.heap[g]? = some (.cells cur el (0,0)))
  {w':World} (hw:w.grownBy w' (some g)) (hg':w'.heap[g]? = some (.cells cur' el (0,0))) (hlen:cur'.size=cs'.length)
  (hcs:∀ (j:Nat) c u,cs'[j]? = some c→cur'[j]? = some u→c.one=true∧R M c u∧OwnV O M w c u) (hMg:∀ o,M g o=none) :
  Inv bs n M O (ins s (.box cs') env) a w':=by
 refine h.setEnt hl rfl rfl hO hw hMg ?_;obtain⟨g1,cur1,el1,e1,e2,_⟩:=h.slots s _ hl
 have:g1=g:=by rw[e2]at hO;exact Option.some.inj hO
 subst this;refine⟨g1,cur',el,e1,e2,hg',hlen,hMg,fun j c u hc hu=>⟨(hcs j c u hc hu).1,(hcs j c u hc hu).2.1,(hcs j c u hc hu).2.2.change fun c' g' _ hg2=>⟨hg2,?_,fun _ hm=>hm⟩⟩⟩
 refine hw.block g' (h.own _ _ _ hg2).2 fun e=>?_
 cases e;cases (h.inj _ _ _ _ g1 hg2 hO).1
theorem QP {t g off:Nat} {v:Value} {sz el:Nat} {cur:Array Value} (hsz:tSize P t=some sz) (hv:v.cells.size=sz) (hg:w.heap[g]? = some (.cells cur el (0,0))) (hle:off+v.cells.size≤cur.size) (h1:∀ u∈v.cells,u.oneCell'=true) :
  (Instr.storeAt t (.pointer (some ⟨g,off,none⟩)) v).run P w=.ok () (w.setRow g (cur.toList.take off++v.cells.toList++cur.toList.drop (off+v.cells.size)).toArray):=by
 unfold Instr.storeAt;simp only[Instr.sureAddr,A1,Sem.run_pure,A8];unfold storeVar;simp only[A1,qV hsz,A8,hv,ne_eq,not_true_eq_false,if_false];have:=run_storeCells_at (P:=P) g off el v.cells.toList 0 cur w hg (by simpa using hle) (fun u hu=>h1 u (by simpa using hu));simp only[B9,A6,hv]at this;exact this
theorem Hi {s off:Nat} {vs:List AV} {env env':Env} (h:putRow s env off vs=some env'):vs.all AV.one=true∧((∃ cs,look env s=some (.box cs)∧off+vs.length≤cs.length∧env'=ins s (.box (cs.take off++vs.map AV.strip++cs.drop (off+vs.length))) env) ∨
  ∃ ks cs,look env s=some (.hob 3 ks cs)∧off+vs.length≤cs.length∧env'=ins s (.hob 3 ks (cs.take off++vs.map AV.strip++cs.drop (off+vs.length))) env):=by
 unfold putRow at h;split at h
 ·cases h
 ·rename_i ho;split at h
  case h_3=>cases h
  case h_2 =>
   rename_i ks cs hl;split at h
   case h_2=>cases h
   rename_i hle;cases h;exact⟨ho,.inr ⟨ks,cs,hl,A0 hle,rfl⟩⟩
  rename_i cs hl;split at h
  case h_2=>cases h
  rename_i hle;cases h;exact⟨ho,.inl ⟨cs,hl,A0 hle,rfl⟩⟩
theorem Jh {α:Type} {cs vs:List α} {off:Nat} (h:off+vs.length≤cs.length) (j:Nat):(cs.take off++vs++cs.drop (off+vs.length))[j]? = if off≤j∧j<off+vs.length then vs[j - off]? else cs[j]?:=by
 by_cases h1:j<off
 ·rw[if_neg (by omega),C0,C4 (by simp;omega),List.getElem?_take,if_pos h1]
 ·by_cases h2:j<off+vs.length
  ·rw[if_pos ⟨by omega,h2⟩,C0,C5 (by simp;omega),C4 (by simp;omega)]
   congr 1
   simp;omega
  ·rw[if_neg (by omega),C5 (by simp;omega),List.getElem?_drop]
   congr 1
   simp;omega
theorem jP (w:World) (g:Nat) (cs:Array Value):w.grownBy (w.setRow g cs) (some g) :=
 ⟨rfl,rfl,rfl,by simp,fun k hk hne=>setRow_other w g k cs (fun e=>hne (by rw[e]))⟩
theorem XM (a:Act) (v:Value):a.put none v=a:=rfl
theorem JW {k:Nat}:∀ {xs:List AV} (i:Nat),(∀ x,x∈xs→x.cells.length=k)→flat (xs.take i)=(flat xs).take (i * k)
 | [],i,_=>by simp[flat]
 | x::xs,0,_=>by simp[flat]
 | x::xs,i+1,h=>by
  have h1:=h x (by simp);have h2:=JW (xs:=xs) i (fun y hy=>h y (by simp[hy]));simp only[flat,List.take_succ_cons,List.flatMap_cons]at h2 ⊢;rw[h2,List.take_append,List.take_of_length_le (l:=x.cells) (by rw[h1,B5];omega),h1]
  congr 2
  rw[B5];omega
theorem qbk {k j:Nat} {xs:List AV} {y:AV} (h:∀ x,x∈xs→x.cells.length=k) (hj:j<xs.length):flat (xs.set j y)=(flat xs).take (j * k)++y.cells++(flat xs).drop (j * k+k):=by
 rw[C2,if_pos hj];have e1:=JW (xs:=xs) j h;have e2:=JX (xs:=xs) (j+1) h;simp only[flat,List.flatMap_append,List.flatMap_cons]at e1 e2 ⊢;rw[e1,e2,B5,Nat.one_mul,C0]
theorem Nv {y y':AV} {off:Nat} {vs:List AV} (hy:y.cells.all AV.one=true) (h:putElem y off vs=some y') :
  vs.all AV.one=true∧off+vs.length≤y.cells.length∧y'.cells=y.cells.take off++vs.map AV.strip++y.cells.drop (off+vs.length)∧y'.cells.all AV.one=true:=by
 unfold putElem at h;split at h
 ·cases h
 rename_i hc;simp only[A2]at hc;obtain⟨h1,h2⟩:=hc;have h2:=A0 h2
 have hvs:(vs.map AV.strip).all AV.one=true:=by
  simp only[A7,List.mem_map]at h1 ⊢
  rintro x ⟨z,hz,rfl⟩
  exact Jb (h1 z hz)
 have key:y'.cells=y.cells.take off++vs.map AV.strip++y.cells.drop (off+vs.length)→y'.cells.all AV.one=true:=by
  intro e;rw[e];simp only[List.all_append,A2];simp only[A7]at hy hvs ⊢;exact⟨⟨fun x hx=>hy x (List.mem_of_mem_take hx),hvs⟩,fun x hx=>hy x (List.mem_of_mem_drop hx)⟩
 refine⟨h1,h2,?_⟩;split at h
 ·cases h;exact⟨rfl,key rfl⟩
 ·rename_i hna;split at h
  ·rename_i v _;cases h
   have hv1:v.one=true:=by simpa using h1
   have hlen:y.cells.length=1:=by
    cases y with
    | agg cs=>exact absurd rfl (hna cs)
    | _=>rfl
   have h0:off=0:=by simp at h2;omega
   subst h0
   have e:v.strip.cells=y.cells.take 0++[v].map AV.strip++y.cells.drop (0 + [v].length):=by
    rw[Qa (Jb hv1),List.drop_of_length_le (by rw[hlen];simp)];simp
   exact⟨e,key e⟩
  ·cases h
theorem QE (g o:Nat) (t:TypeId) (fz:Nat×Nat):∀ (vs:List Value) (i:Nat) (cur:Array Value) (w:World),w.heap[g]? = some (.cells cur t fz)→cur.size≤fz.1→o+i+vs.length≤cur.size→(∀ v∈vs,v.oneCell'=true) →
  (storeCells ⟨g,o,none⟩ vs i).run P w=.ok () (w.setRow g (cur.toList.take (o+i)++vs++cur.toList.drop (o+i+vs.length)).toArray)
 | [],i,cur,w,hg,_,_,_=>by
  simp only[storeCells,List.append_nil,List.length_nil,B9,List.take_append_drop,Array.toArray_toList];rw[setRow_self w g cur t fz hg];rfl
 | v::rest,i,cur,w,hg,hf,hl,h1=>by
  have hi:o+i<cur.size:=by simp at hl;omega
  have hadd:(⟨g,o,none⟩:Addr).add i=⟨g,o+i,none⟩:=by unfold Addr.add;split <;> simp_all
  have hcell:w.cell? ⟨g,o+i,none⟩=some cur[o+i]:=by simp[World.cell?,hg,hi]
  have hfro:w.frozen? ⟨g,o+i,none⟩=false:=by
   unfold World.frozen?;rw[hg];simp only[Bool.and_eq_false_iff,decide_eq_false_iff_not];exact .inl (by omega)
  have hst:(store ((⟨g,o,none⟩:Addr).add i) v).run P w=.ok () (w.setRow g (cur.setIfInBounds (o+i) v)):=by
   rw[hadd,run_store P w _ v _ (h1 v (by simp)),hcell];simp[hfro,setCell_eq_setRow w g (o+i) cur t fz v hg]
  have ih:=QE g o t fz rest (i+1) (cur.setIfInBounds (o+i) v) (w.setRow g (cur.setIfInBounds (o+i) v)) (setRow_heap w g cur _ t _ hg) (by simpa using hf) (by simp at hl ⊢;omega) (fun x hx=>h1 x (by simp[hx]));simp only[storeCells,A1,hst,A8,ih,setRow_setRow]
  congr 3
  have e:=list_seg_step cur.toList (o+i) v rest (by simp at hl ⊢;omega)
  simpa[Array.toList_setIfInBounds,Nat.add_assoc] using e
theorem Np {t g off:Nat} {v:Value} {sz e:Nat} {cur:Array Value} (hsz:tSize P t=some sz) (hv:v.cells.size=sz) (hg:RowAt w g cur e) (hle:off+v.cells.size≤cur.size) (h1:∀ u∈v.cells,u.oneCell'=true) :
  (Instr.storeAt t (.pointer (some ⟨g,off,none⟩)) v).run P w=.ok () (w.setRow g (cur.toList.take off++v.cells.toList++cur.toList.drop (off+v.cells.size)).toArray):=by
 obtain⟨el,fz,hg,h2 | h2⟩:=hg
 ·obtain⟨rfl,rfl⟩:=h2;exact QP hsz hv hg hle h1
 ·unfold Instr.storeAt;simp only[Instr.sureAddr,A1,Sem.run_pure,A8];unfold storeVar;simp only[A1,qV hsz,A8,hv,ne_eq,not_true_eq_false,if_false];have:=QE (P:=P) g off el fz v.cells.toList 0 cur w hg h2.2 (by simpa using hle) (fun u hu=>h1 u (by simpa using hu));simp only[B9,A6,hv]at this;exact this
theorem RowAt.setRow {g e:Nat} {cur cs:Array Value} (h:RowAt w g cur e) (hs:cs.size=cur.size):RowAt (w.setRow g cs) g cs e:=by
 obtain⟨el,fz,h1,h2⟩:=h;refine⟨el,fz,setRow_heap w g cur cs el fz h1,?_⟩;rw[hs];exact h2
theorem Vs (h:Inv bs n M O env a w) {o:Oper} {t:TypeId} {p x:Operand} (ho:o.op=.store t p x) (hd:o.dst=none) {id k j off sz:Nat} {v:AV} (hp:aop env p=some (.pe id k j off)) (hx:aop env x=some v) (hsz:tSize P t=some sz) (hlen:v.cells.length=sz) {env':Env} (he:putObj id k j env off v.cells=some env'):Leads P bs n o a w env':=by
 obtain⟨g,hpv,hO⟩:=qj h hp;have hxv:=qj h hx;unfold putObj at he;split at he
 case h_2=>cases he
 rename_i e k' xs hl;split at he
 case h_2=>cases he
 rename_i hk;have hk:=B0 hk;subst hk;split at he
 case h_2=>cases he
 rename_i y hy;split at he
 case h_2=>cases he
 rename_i y' hy';cases he;obtain⟨h0,h3,h4,h5⟩:=h.slots id _ hl
 rcases h5 with ⟨rfl,_⟩ | ⟨g',cur,k1,k2,k3,k4,k5,k6⟩
 ·simp at hy
 have:g'=g:=by rw[k1]at hO;exact Option.some.inj hO
 subst this
 have hty:∀ z,z∈xs→z.cells.length=k:=fun z hz=>(h3 z hz).1
 have hym:=A3 hy;obtain⟨p1,p2,p3,p4⟩:=Nv (h3 y hym).2 hy';have hyk:=hty y hym;have hjl:=(List.getElem?_eq_some_iff.1 hy).1;have hR:R M v (a.eval x):=QG hxv p1;obtain⟨c1,c2,c3⟩:=hR.cells p1;have hjk:(j+1) * k≤xs.length * k:=Nat.mul_le_mul_right k hjl;rw[B5,Nat.one_mul]at hjk
 have hfit:j * k+off+v.cells.length≤cur.size:=by omega
 have hrun:=Np (P:=P) (t:=t) (g:=g') (off:=j * k+off) (v:=a.eval x) hsz (by rw[c1,hlen]) k2 (by rw[c1];exact hfit) c3
 have hex:(execOp a.eval o).run P w=.ok .skip (w.setRow g' (cur.toList.take (j * k+off)++(a.eval x).cells.toList++cur.toList.drop (j * k+off+(a.eval x).cells.size)).toArray):=by
  have:execOp a.eval o=(do Instr.storeAt t (a.eval p) (a.eval x);pure .skip):=by unfold execOp;rw[ho]
  rw[this,A1,hpv,hrun];rfl
 refine⟨undef,_,M,O,.inr ⟨hex,rfl⟩,?_⟩;rw[hd,XM];refine h.setEnt hl rfl rfl k1 (jP w g' _) k5 ?_
 have hy'k:y'.cells.length=k:=by rw[p3];simp;omega
 refine⟨h0,fun z hz=>?_,by simpa using h4,.inr ⟨g',_,k1,k2.setRow ?_,?_,?_,k5,fun q c u hc hu=>?_⟩⟩
 ·rcases List.mem_or_eq_of_mem_set hz with hz | rfl
  ·exact h3 z hz
  ·exact⟨hy'k,p4⟩
 ·simp[c1];omega
 ·simp[c1];omega
 ·simp[c1];omega
 ·rw[qbk hty hjl]at hc;have hfl:=qI hty;have e1:=Jh (cs:=flat xs) (vs:=y'.cells) (off:=j * k) (by rw[hy'k,hfl];omega) q;rw[hy'k]at e1;rw[e1]at hc
  have hu':(cur.toList.take (j * k+off)++(a.eval x).cells.toList++cur.toList.drop (j * k+off+(a.eval x).cells.size))[q]? = some u:=by simpa using hu
  have e2:=Jh (cs:=cur.toList) (vs:=(a.eval x).cells.toList) (off:=j * k+off) (by simp[c1];omega) q;simp only[A6,c1]at e2;rw[c1,e2]at hu'
  have keep:∀ c,(flat xs)[q]? = some c→¬ (j * k+off≤q∧q<j * k+off+v.cells.length)→R M c u:=by
   intro c hc hne;rw[if_neg hne]at hu';exact k6 q c u hc (by simpa using hu')
  split at hc
  ·rename_i hq;rw[p3]at hc;have e3:=Jh (cs:=y.cells) (vs:=v.cells.map AV.strip) (off:=off) (by simpa using p2) (q - j * k);simp only[A9]at e3;rw[e3]at hc;split at hc
   ·rename_i hq2;rw[if_pos (by omega)]at hu';rw[A5]at hc
    have e4:q - j * k - off=q - (j * k+off):=by omega
    rw[e4]at hc
    cases hz:v.cells[q - (j * k+off)]? with
    | none=>rw[hz]at hc;cases hc
    | some z =>
     rw[hz]at hc;cases hc;exact (c2 _ z u hz (by simpa using hu')).strip
   ·rename_i hq2;refine keep c ?_ (by omega);have:=JM hty hy (q - j * k) (by omega)
    have e5:j * k+(q - j * k)=q:=by omega
    rw[e5]at this;rw[this];exact hc
  ·rename_i hq;exact keep c hc (by omega)
theorem qbp {O:Gh} {M:Mem} {w:World} {t:Nat} {v:AV} {u:Value} (h:ValOk O M w v u) (hc:v.cellOk=true):CellR O M t v.strip u:=by
 cases v with
 | sb id e k off n=>exact h
 | mb kd id =>
  cases kd with
  | zero=>obtain⟨g,h1,h2⟩:=h;exact⟨rfl,g,h1,h2⟩
  | succ kd=>cases hc
 | pb s off=>cases hc
 | pe s k j o=>cases hc
 | tpr s e k off n rest=>cases hc
 | clb f caps=>cases hc
 | box cs=>exact h.elim
 | obj e k xs=>exact h.elim
 | hob kd ks vs=>exact h.elim
 | bxg cs=>exact h.elim
 | slf=>exact h.elim
 | agr cs=>cases hc
 | _=>exact CellR.of_one hc h.1
theorem CellR.cells {O:Gh} {M:Mem} {t:Nat} {c:AV} {u:Value} (h:CellR O M t c u):u.cells=#[u]:=by
 have:=h.one
 cases u <;> first | rfl | cases this
theorem Xl (h:Inv bs n M O env a w) {o:Oper} {t:TypeId} {p x:Operand} (ho:o.op=.store t p x) {s off sz:Nat} {xv:AV} (hd:o.dst=none) (hp:aop env p=some (.pb s off)) (hx:aop env x=some xv) (hsz:tSize P t=some sz) (hlen:xv.cells.length=sz) {env':Env} (he:putG s env off xv=some env'):Leads P bs n o a w env':=by
 unfold putG at he;split at he
 ·cases he
 rename_i hcell
 have hs1:sz=1:=by
  rw[← hlen]
  cases xv <;> first | rfl | cases hcell
 subst hs1;obtain⟨g,hpv,hO⟩:=qj h hp;have hxv:CellR O M s xv.strip (a.eval x):=qbp (qj h hx) hcell
 have hex:∀ w',(Instr.storeAt t (a.eval p) (a.eval x)).run P w=.ok () w'→(execOp a.eval o).run P w=.ok .skip w':=by
  intro w' hr
  have:execOp a.eval o=(do Instr.storeAt t (a.eval p) (a.eval x);pure .skip):=by unfold execOp;rw[ho]
  rw[this,A1,hr];rfl
 obtain⟨y,cs,cur,el,hl,hy,hv,h3,h4,h5,h6,hoff,rfl⟩:∃ (y:AV) (cs:List AV) (cur:Array Value) (el:Nat),look env s=some y∧y.ent=true∧(a.tmps.getD s undef=.pointer (some ⟨g,0,none⟩)∨1000000≤s)∧w.heap[g]? = some (.cells cur el (0,0))∧cur.size=cs.length∧(∀ o,M g o=none) ∧
   (∀ (j:Nat) c u,cs[j]? = some c→cur[j]? = some u→CellR O M s c u)∧off<cs.length∧env'=ins s (.bxg (cs.set off xv.strip)) env:=by
  split at he
  ·rename_i cs hl;split at he
   case h_2=>cases he
   rename_i hc;cases he;obtain⟨g1,cur,el,k1,k2,k3,k4,k5,k6⟩:=h.slots s _ hl
   have:g1=g:=by rw[k2]at hO;exact Option.some.inj hO
   subst this;have hlt:off<cs.length:=A0 hc;refine⟨_,cs.map AV.strip,cur,el,hl,rfl,k1,k3,by simpa using k4,k5,fun j c u hc hu=>?_,by simpa using hlt,rfl⟩;rw[A5]at hc
   cases hz:cs[j]? with
   | none=>rw[hz]at hc;cases hc
   | some z =>
    rw[hz]at hc;cases hc;obtain⟨q1,q2,_⟩:=k6 j z u hz hu;exact CellR.of_one q1 q2
  ·rename_i cs hl;split at he
   case h_2=>cases he
   rename_i hc;cases he;obtain⟨g1,cur,el,k1,k2,k3,k4,k5,k6⟩:=h.slots s _ hl
   have:g1=g:=by rw[k2]at hO;exact Option.some.inj hO
   subst this;have hlt:off<cs.length:=A0 hc;exact⟨_,cs,cur,el,hl,rfl,k1,k3,k4,k5,k6,hlt,rfl⟩
  ·cases he
 have c1:=hxv.cells;have c2:=hxv.one;have hrun:=QP (P:=P) (t:=t) (g:=g) (off:=off) (v:=a.eval x) hsz (by rw[c1];rfl) h3 (by rw[c1,h4];simp;omega) (by rw[c1];intro u hu;simp at hu;rw[hu];exact c2);refine⟨undef,_,M,O,.inr ⟨hex _ (by rw[hpv];exact hrun),rfl⟩,?_⟩;rw[hd,XM]
 have hsp:∀ j,(cur.toList.take off++(a.eval x).cells.toList++cur.toList.drop (off+(a.eval x).cells.size))[j]? = if j=off then some (a.eval x) else cur[j]?:=by
  intro j;have:=Jh (cs:=cur.toList) (vs:=(a.eval x).cells.toList) (off:=off) (by rw[c1];simp;omega) j;simp only[A6]at this;rw[this,c1];by_cases hj:j=off
  ·subst hj;rw[if_pos ⟨A4 _,by simp⟩,if_pos rfl];simp
  ·rw[if_neg hj,if_neg (by simp;omega)];simp
 refine h.setEnt hl hy rfl hO (jP w g _) h5 ⟨g,_,el,hv,hO,setRow_heap w g cur _ el _ h3,?_,h5,fun j c u hc hu=>?_⟩
 ·simp[c1,h4];omega
 ·have hu':=hsp j
  have hu2:(cur.toList.take off++(a.eval x).cells.toList++cur.toList.drop (off+(a.eval x).cells.size))[j]? = some u:=by simpa using hu
  rw[hu']at hu2;rw[List.getElem?_set]at hc;split at hc
  ·rename_i e1;subst e1;rw[if_pos rfl]at hu2;cases hu2;cases hc;exact hxv
  ·rename_i e1;rw[if_neg (fun e=>e1 e.symm)]at hu2;exact h6 j c u hc hu2
theorem YQ (h:Inv bs n M O env a w) {o:Oper} {t:TypeId} {p x:Operand} (ho:o.op=.store t p x) {s off sz:Nat} {v:AV} (hd:o.dst=none) (hp:aop env p=some (.pb s off)) (hx:R M v (a.eval x)) (hsz:tSize P t=some sz) (hlen:v.cells.length=sz) (hone:v.cells.all AV.one=true)
  {ks cs:List AV} (hl:look env s=some (.hob 3 ks cs)) (hle:off+v.cells.length≤cs.length):Leads P bs n o a w (ins s (.hob 3 ks (cs.take off++v.cells.map AV.strip++cs.drop (off+v.cells.length))) env):=by
 obtain⟨g,hpv,hO⟩:=qj h hp;obtain⟨g',q1,q2,cur,el,q3,q4,q5⟩:=h.slots s _ hl
 have:g'=g:=by rw[q1]at hO;exact Option.some.inj hO
 subst this;obtain⟨k1,k2,k3⟩:=hx.cells hone;have hrun:=QP (P:=P) (t:=t) (g:=g') (off:=off) (v:=a.eval x) hsz (by rw[k1];exact hlen) q3 (by rw[k1,q4];exact hle) k3
 have hex:(execOp a.eval o).run P w=.ok .skip (w.setRow g' (cur.toList.take off++(a.eval x).cells.toList++cur.toList.drop (off+(a.eval x).cells.size)).toArray):=by
  have:execOp a.eval o=(do Instr.storeAt t (a.eval p) (a.eval x);pure .skip):=by unfold execOp;rw[ho]
  rw[this,A1,hpv,hrun];rfl
 refine⟨undef,_,M,O,.inr ⟨hex,rfl⟩,?_⟩;rw[hd,XM]
 have hcl:(a.eval x).cells.toList.length=(v.cells.map AV.strip).length:=by simp[k1]
 refine h.setEnt hl rfl rfl q1 (jP w g' _) q2 ⟨g',q1,q2,_,el,setRow_heap w g' cur _ el _ q3,?_,fun j c u hc hu=>?_⟩
 ·simp[k1];omega
 ·have e0:off+v.cells.length=off+(v.cells.map AV.strip).length:=by rw[A9]
  rw[e0,Jh (by rw[A9];exact hle)]at hc
  have hu':(cur.toList.take off++(a.eval x).cells.toList++cur.toList.drop (off+(a.eval x).cells.size))[j]? = some u:=by simpa using hu
  have hsp:=Jh (cs:=cur.toList) (vs:=(a.eval x).cells.toList) (off:=off) (by rw[hcl];simp[q4];omega) j;simp only[A6]at hsp;rw[hsp]at hu';split at hc
  ·rename_i hj;rw[if_pos (by rw[A9]at hj;omega)]at hu';rw[A5]at hc
   cases hz:v.cells[j - off]? with
   | none=>rw[hz]at hc;cases hc
   | some z =>
    rw[hz]at hc;cases hc;have hz1:z.one=true:=List.all_eq_true.1 hone z (A3 hz);exact⟨Jb hz1,(by cases z <;> rfl),(k2 _ z u hz (by simpa using hu')).strip⟩
  ·rename_i hj;rw[if_neg (by rw[A9]at hj;omega)]at hu';exact q5 j c u hc (by simpa using hu')
theorem NS (h:Inv bs n M O env a w) {o:Oper} {t:TypeId} {p x:Operand} (ho:o.op=.store t p x) {env':Env} (he:astep P n o env=some env'):Leads P bs n o a w env':=by
 unfold astep at he;rw[ho]at he;simp only at he;split at he
 case h_3=>cases he
 case h_2 =>
  rename_i id k j off v sz hd hp hx hsz;split at he
  case h_2=>cases he
  rename_i hlen;exact Vs h ho hd hp hx hsz (B0 hlen) he
 rename_i s off v sz hd hp hx hsz;split at he
 case h_2=>cases he
 rename_i hlen;have hlen:=B0 hlen;obtain⟨g,hpv,hO⟩:=qj h hp;have hxv:=qj h hx
 have hex:∀ w',(Instr.storeAt t (a.eval p) (a.eval x)).run P w=.ok () w'→(execOp a.eval o).run P w=.ok .skip w':=by
  intro w' hr
  have:execOp a.eval o=(do Instr.storeAt t (a.eval p) (a.eval x);pure .skip):=by unfold execOp;rw[ho]
  rw[this,A1,hr];rfl
 have core:∀ (O1:Gh) (env1:Env) (vs vs':List AV),Inv bs n M O1 env1 a w→(∀ s',O1 true s'=O true s')→v.cells=vs→vs.all AV.one=true→vs'.length=vs.length→R M v (a.eval x) →
   (∀ (j:Nat) c u,vs'[j]? = some c→(a.eval x).cells[j]? = some u→c.one=true∧R M c u∧OwnV O1 M w c u) →
   ∀ cs,look env1 s=some (.box cs)→off+vs.length≤cs.length→Leads P bs n o a w (ins s (.box (cs.take off++vs'++cs.drop (off+vs'.length))) env1):=by
  intro O1 env1 vs vs' h1 hO1 hvs hone hl' hR hcells cs hl hle;obtain⟨k1,k2,k3⟩:=hR.cells (by rw[hvs];exact hone);rw[hvs]at k1 k2
  have hO':O1 true s=some g:=by rw[hO1];exact hO
  obtain⟨cur,el,c1,c2,c3,c4⟩:=Xh h1 hl hO';have hrun:=QP (P:=P) (t:=t) (g:=g) (off:=off) (v:=a.eval x) hsz (by rw[k1,← hvs];exact hlen) c1 (by rw[k1,c2];exact hle) k3;refine⟨undef,_,M,O1,.inr ⟨hex _ (by rw[hpv];exact hrun),rfl⟩,?_⟩;rw[hd,XM]
  have hcl:(a.eval x).cells.toList.length=vs'.length:=by simp[k1,hl']
  refine h1.setBox hl hO' c1 (jP w g _) (setRow_heap w g cur _ el _ c1) ?_ ?_ c3
  ·simp[k1];omega
  ·intro j c u hc hu;rw[Jh (by rw[hl'];exact hle)]at hc
   have hu':(cur.toList.take off++(a.eval x).cells.toList++cur.toList.drop (off+(a.eval x).cells.size))[j]? = some u:=by simpa using hu
   have hsp:=Jh (cs:=cur.toList) (vs:=(a.eval x).cells.toList) (off:=off) (by rw[hcl];simp[c2];omega) j;simp only[A6]at hsp;rw[hsp]at hu';split at hc
   ·rename_i hj;rw[if_pos (by omega)]at hu';exact hcells _ c u hc (by simpa using hu')
   ·rename_i hj;rw[if_neg (by omega)]at hu';obtain⟨d1,d2,d3,d4⟩:=c4 j c hc
    have:cur.getD j undef=u:=by
     have hu2:cur[j]? = some u:=by simpa using hu'
     simp[hu2]
    rw[this]at d3 d4;exact⟨d2,d3,d4⟩
 split at he
 ·
  rename_i cs1 _;obtain⟨hone,⟨cs,hl,hle,rfl⟩ | ⟨ks,cs,hl,hle,rfl⟩⟩:=Hi he
  case h_1.inr=>exact YQ h ho hd hp hxv.1 hsz hlen hone hl hle
  have:=core O env cs1 (cs1.map AV.strip) h (fun _=>rfl) rfl hone (by simp) hxv.1 (fun j c u hc hu=>by
   rw[A5]at hc
   cases hz:cs1[j]? with
   | none=>rw[hz]at hc;cases hc
   | some z =>
    rw[hz]at hc;cases hc;obtain⟨_,k2,_⟩:=hxv.1.cells (show (AV.agg cs1).cells.all AV.one=true from hone)
    have hz1:z.one=true:=by simp only[A7]at hone;exact hone z (A3 hz)
    exact⟨Jb hz1,(k2 j z u hz hu).strip,JB _ _⟩) cs hl hle
  simpa using this
 ·exact Xl h ho hd hp hx hsz hlen he
 ·exact Xl h ho hd hp hx hsz hlen he
 ·
  split at he
  ·exact Xl h ho hd hp hx hsz hlen he
  unfold putCell at he;split at he
  ·cases he
  rename_i hone;have hcs:=Qa hone;have hR:R M v (a.eval x):=QG hxv (by rw[hcs];simp[hone]);split at he
  case h_3=>cases he
  case h_2 =>
   rename_i ks cs hl;split at he
   case h_2=>cases he
   rename_i hlt;cases he;have hlt:off<cs.length:=A0 hlt;have:=YQ h ho hd hp hR hsz hlen (by rw[hcs];simp[hone]) hl (by rw[hcs];simp;omega)
   have e:cs.take off++v.cells.map AV.strip++cs.drop (off+v.cells.length)=cs.set off v.strip:=by
    rw[hcs,C2,if_pos hlt];simp
   rw[e]at this;exact this
  rename_i cs hl;split at he
  case h_2=>cases he
  rename_i hlt;cases he;have hlt:off<cs.length:=A0 hlt
  have hown:OwnV O M w v (a.eval x):=by
   cases v with
   | box cs=>exact hxv.elim
   | obj e k xs=>exact hxv.elim
   | pb s o=>cases hone
   | sb s e k off m=>cases hone
   | tpr s e k off m rest=>cases hone
   | pe s k j o=>cases hone
   | hob kd ks vs=>cases hone
   | mb kd s=>cases hone
   | bxg cs=>cases hone
   | slf=>cases hone
   | agr cs=>cases hone
   | clb f caps=>cases hone
   | _=>exact hxv.2
  have:=core O env [v] [v] h (fun _=>rfl) hcs (by simp[hone]) rfl hR (fun j c u hc hu=>by
   cases j with
   | succ j=>simp at hc
   | zero =>
    simp at hc;subst hc
    have hu':u=a.eval x:=by
     have hone2:=hR.one hone;generalize a.eval x=y at hu hone2
     cases y <;> first | (simp[Value.cells]at hu;exact hu.symm) | cases hone2
    subst hu'
    exact⟨hone,hR,hown⟩) cs hl (by simp;omega)
  have e:cs.take off++[v]++cs.drop (off + [v].length)=cs.set off v:=by
   rw[C2,if_pos hlt];simp
  rw[e]at this;exact this
end
end Go.AM
