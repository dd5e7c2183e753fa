/- s -/
import Derived.Test.YtdghpfejmlpjhaaASimS
set_option linter.unusedVariables false
set_option linter.unusedSimpArgs false
namespace Go.AM
open Go.RowKit
open Go.ChangeMaps (setBlock)
open Go.MapKept (heap_set)
section
variable {bs:Base} {n:Nat} {M:Mem} {O:Gh} {env:Env} {a:Act} {w:World} {P:Program}
theorem Qv {w:World} {b:Nat} {ob o':Obj} (h:w.heap[b]? = some ob):w.grownBy (setBlock w b o') (some b) :=
 ⟨rfl,rfl,rfl,by simp[setBlock],fun i _ hi=>(heap_set h).2 i (fun e=>hi (by rw[e]))⟩
theorem mapElem_r {O:Gh} {M:Mem} {w:World} {x:AV} {v:Value} (h:ValOk O M w x v) (he:x.mapElem=true):R M x.strip v:=by
 have:R M x v:=by
  cases x <;> first | exact h.1 | cases he
 exact this.strip
theorem makeMap_leads (h:Inv bs n M O env a w) {o:Oper} {t:TypeId} (ho:o.op=.makeMap t none) {env':Env} (he:astep P n o env=some env'):Leads P bs n o a w env':=by
 unfold astep at he;rw[ho]at he;simp only at he
 split at he
 case h_2=>cases he
 rename_i d q hd hq
 split at he
 case h_2=>cases he
 rename_i hcl;rw[Option.map_eq_some_iff]at he;obtain⟨env1,he1,rfl⟩:=he;rw[hd]at he1;obtain⟨hdn,rfl,hdent⟩:=YC he1;obtain⟨c1,c2⟩:=jA hcl;have hn:=h.fix.1;have hne:(1000000+d:Nat)≠d:=Nat.ne_of_gt (Nat.lt_add_of_pos_left (by decide))
 have hrun:(execOp a.eval o).run P w=.ok (.value (.map (some w.heap.size))) (w.alloc (.map #[] 0)):=by
  have hx:execOp a.eval o=vS (Instr.makeMap t none):=by unfold execOp;rw[ho];rfl
  rw[hx];refine run_v ?_
  simp[Instr.makeMap]
 have h':=h.grown (row:=none) (fun g e=>by cases e) (World.grownBy_alloc w (.map #[] 0) none) (Sub.refl M) (XM h.cons _) (fun b o _ _=>rfl);have h1:=h'.claim (t:=1000000+d) (x:=.hob 0 [] []) c2 (by omega) (some w.heap.size) 0 0 (fun g' e=>by cases e;exact⟨h.fresh (Nat.le_refl _),by simp,fun i c hh=>by have:=(h.own i c _ hh).2;omega⟩)
  ⟨w.heap.size,by simp[Ja],fun o=>JY h.cons (Nat.le_refl _) o,#[],0,heap_alloc_new w _,MapKept.stamped_empty 0,by simp[maxLen],rfl,rfl,fun j k e hk=>by simp at hk,fun j v e hv=>by simp at hv⟩
 have h2:=h1.put (d:=d) (x:=.mb 0 (1000000+d)) (v:=.map (some w.heap.size)) hdn ⟨w.heap.size,by simp[Ja],rfl⟩;exact⟨_,_,_,_,.inl hrun,by rw[hd];exact h2.looks fun s=>QL hne env s⟩
theorem leftOf_empty (es:Array MapEntry):leftOf es #[]=es:=by
 unfold leftOf
 simp
theorem range_leads (h:Inv bs n M O env a w) {o:Oper} {t:TypeId} {x:Operand} (ho:o.op=.range t x) {env':Env} (he:astep P n o env=some env'):Leads P bs n o a w env':=by
 unfold astep at he;rw[ho]at he;simp only at he
 split at he
 case h_2=>cases he
 rename_i d ks vs q hd hxx hq;obtain⟨kt,e⟩:=q;have hq:=Qq hq
 split at he
 case h_2=>cases he
 rename_i hcl;rw[Option.map_eq_some_iff]at he;obtain⟨env1,he1,rfl⟩:=he;rw[hd]at he1;obtain⟨hdn,rfl,hdent⟩:=YC he1;obtain⟨c1,c2⟩:=jA hcl;have hn:=h.fix.1;have hne:(1000000+d:Nat)≠d:=Nat.ne_of_gt (Nat.lt_add_of_pos_left (by decide));have hxv:=(qm h hxx).1
 have hx:execOp a.eval o=vS (Instr.range t (a.eval x)):=by unfold execOp;rw[ho];rfl
 have fin:∀ ob,(execOp a.eval o).run P w=.ok (.value (.pointer (some ⟨w.heap.size,0,none⟩))) (w.alloc ob) →
   (∀ O',O'.o true (1000000+d)=some w.heap.size→HobOk O' M (w.alloc ob) (1000000+d) 1 ks vs)→Leads P bs n o a w (ins (1000000+d) (.hob 1 ks vs) (ins d (.mb 1 (1000000+d)) env)):=by
  intro ob hrun hok;have h':=h.grown (row:=none) (fun g e=>by cases e) (World.grownBy_alloc w ob none) (Sub.refl M) (XM h.cons _) (fun b o _ _=>rfl);have h1:=h'.claim (t:=1000000+d) (x:=.hob 1 ks vs) c2 (by omega) (some w.heap.size) 0 0 (fun g' e=>by cases e;exact⟨h.fresh (Nat.le_refl _),by simp,fun i c hh=>by have:=(h.own i c _ hh).2;omega⟩)
   (hok _ (by simp[Ja]))
  have h2:=h1.put (d:=d) (x:=.mb 1 (1000000+d)) (v:=.pointer (some ⟨w.heap.size,0,none⟩)) hdn ⟨w.heap.size,by simp[Ja],rfl⟩;exact⟨_,_,_,_,.inl hrun,by rw[hd];exact h2.looks fun s=>QL hne env s⟩
 generalize hval:a.eval x=v at hxv
 rcases mpv_inv hxv with ⟨rfl,rfl,rfl⟩ | ⟨ks',vs',b,es,clock,hp,rfl,h1,h2,h3,h4,h5,h6,h7⟩
 ·refine fin (.mapIter none 0 #[] 0) ?_ fun O' hO'=>⟨w.heap.size,hO',fun o=>JY h.cons (Nat.le_refl _) o,.inl ⟨0,#[],heap_alloc_new w _,rfl,rfl⟩⟩
  rw[hx,hval];refine run_v ?_
  simp[Instr.range,run_underlying hq]
 ·have hb:=YW (h.cons _ _ _ h1)
  refine fin (.mapIter (some b) clock #[] clock) ?_ fun O' hO'=>⟨w.heap.size,hO',fun o=>JY h.cons (Nat.le_refl _) o,.inr ⟨b,es,clock,#[],clock,heap_alloc_new w _,Nat.le_refl _,h1,h2,?_⟩⟩
  ·rw[hx,hval];refine run_v ?_
   simp[Instr.range,run_underlying hq,MapKept.run_getObj_map hb]
  ·refine⟨ks',vs',hp,?_⟩;unfold LeftOk0;rw[leftOf_empty];exact⟨h4,h5,h6,h7⟩
theorem mapUpdate_leads (h:Inv bs n M O env a w) {o:Oper} {t:TypeId} {m k v:Operand} (ho:o.op=.mapUpdate t m k v) {env':Env} (he:astep P n o env=some env'):Leads P bs n o a w env':=by
 unfold astep at he;rw[ho]at he;simp only at he
 split at he
 case h_2=>cases he
 rename_i id kk vv kt e hd hm hk hv hq;have ht:=Qq hq
 split at he
 case h_2=>cases he
 rename_i ks vs hl
 split at he
 case h_2=>cases he
 rename_i hc;simp only[Bool.and_eq_true]at hc;obtain⟨⟨⟨⟨hfit,hks⟩,hall⟩,hel⟩,hroom⟩:=hc;have hroom:ks.length<1000000000:=Nat.le_of_ble_eq_true hroom;obtain⟨g,g1,g2⟩:=qm h hm;obtain⟨g',k1,k2,es,clock,hb,E⟩:=h.slots id _ hl
 have:g'=g:=by rw[k1]at g1;exact Option.some.inj g1
 subst this;obtain⟨kv,hkv⟩:=Option.isSome_iff_exists.1 hks;have hkev:a.eval k=kv:=key_value (qm h hk) hkv;have hvr:R M vv.strip (a.eval v):=mapElem_r (qm h hv) hel
 have hex:∀ w',(Instr.mapUpdate t (a.eval m) (a.eval k) (a.eval v)).run P w=.ok () w'→(execOp a.eval o).run P w=.ok .skip w':=by
  intro w' hr
  have:execOp a.eval o=(do Instr.mapUpdate t (a.eval m) (a.eval k) (a.eval v);pure .skip):=by unfold execOp;rw[ho]
  rw[this,Sem.run_bind,hr];rfl
 obtain⟨hck,hst,hfd⟩:=YB (w:=w) hfit hkv hall E;obtain⟨E1,E2,E3,E4,E5,E6⟩:=E
 have fin:∀ es' clock' ks' vs',(Instr.mapUpdate t (.map (some g')) kv (a.eval v)).run P w=.ok () (setBlock w g' (.map es' clock'))→EntOk M es' clock' ks' vs'→Leads P bs n o a w (ins id (.hob 0 ks' vs') env):=by
  intro es' clock' ks' vs' hrun E';refine⟨undef,_,M,O,.inr ⟨hex _ (by rw[g2,hkev];exact hrun),rfl⟩,?_⟩;rw[hd,put_none];exact h.setEnt hl rfl rfl k1 (Qv hb) k2 ⟨g',k1,k2,es',clock',(heap_set hb).1,E'⟩
 rcases hfd with ⟨f1,f2,f3⟩ | ⟨j,e0,f1,f2,f3,f4⟩
 ·rw[f1]at he;cases he;refine fin (es.push ⟨kv,a.eval v,clock⟩) (clock+1) _ _ ?_ ⟨MapKept.stamped_push E1 f3,by simp[maxLen];omega,by simp[E3],by simp[E4],fun j k' e' hk' he'=>?_,fun j v' e' hv' he'=>?_⟩
  ·simp[Instr.mapUpdate,run_underlying ht,MapKept.run_getObj_map hb,hck,f2,MapKept.run_setObj_map _ hb,Result.andThen,setBlock]
  ·rw[Array.getElem?_push]at he'
   split at he'
   ·rename_i hj;cases he';rw[hj,← E3]at hk'
    simp at hk'
    subst hk';exact hkv
   ·rename_i hj
    have hjl:j<ks.length:=by
     have:=(Array.getElem?_eq_some_iff.1 he').1;omega
    rw[List.getElem?_append_left hjl]at hk';exact E5 j k' e' hk' he'
  ·rw[Array.getElem?_push]at he'
   split at he'
   ·rename_i hj;cases he';rw[hj,← E4]at hv'
    simp at hv'
    subst hv';exact hvr
   ·rename_i hj
    have hjl:j<vs.length:=by
     have:=(Array.getElem?_eq_some_iff.1 he').1;omega
    rw[List.getElem?_append_left hjl]at hv';exact E6 j v' e' hv' he'
 ·rw[f1]at he;cases he
  have hj:es[j]? = some e0:=by simpa using f3
  have hjs:j<es.size:=(Array.getElem?_eq_some_iff.1 hj).1
  have hkeyf:∀ e',es[j]? = some e'→({ e' with key:=kv,val:=a.eval v }:MapEntry).key=e'.key:=fun e' he'=>by rw[hj]at he';cases he';exact f4.symm
  refine fin (es.modify j (fun e'=>{ e' with key:=kv,val:=a.eval v })) clock _ _ ?_ ⟨MapKept.stamped_modify E1 _ _ (fun _ _=>rfl) (fun e' _ he'=>hkeyf e' he'),by simpa using E2,by simpa using E3,by simpa using E4,fun i k' e' hk' he'=>?_,fun i v' e' hv' he'=>?_⟩
  ·simp[Instr.mapUpdate,run_underlying ht,MapKept.run_getObj_map hb,hck,f2,hj,f4,hst,MapKept.run_setObj_map _ hb,Result.andThen,setBlock]
  ·rw[Array.getElem?_modify]at he'
   split at he'
   ·rename_i hij;subst hij;rw[hj]at he';cases he';rw[← f4];exact E5 j k' e0 hk' hj
   ·exact E5 i k' e' hk' he'
  ·rw[Array.getElem?_modify]at he'
   split at he'
   ·rename_i hij;subst hij;rw[hj]at he';cases he';rw[List.getElem?_set_self (by omega)]at hv';cases hv';exact hvr
   ·rename_i hij;rw[List.getElem?_set_ne hij]at hv';exact E6 i v' e' hv' he'
end
end Go.AM
