/- s -/
import Derived.Test.YtdghpfejmlpjhaaASimA
set_option linter.unusedVariables false
set_option linter.unusedSimpArgs false
namespace Go.AM
open Go.RowKit
theorem qS (d:Nat) (v:AV) (env:Env) (t:Nat):look (ins d v env) t=if t=d then some v else look env t:=by
 induction env with
 | nil =>
  simp only[ins,look]
  by_cases h:t=d
  ·subst h;simp
  ·have:Nat.beq d t=false:=by rw[Bool.eq_false_iff];intro hh;exact h (Nat.eq_of_beq_eq_true hh).symm
   simp[this,h]
 | cons p r ih =>
  obtain⟨s,x⟩:=p;simp only[ins]
  split
  ·rename_i hlt
   have hne:s≠d:=by intro e;subst e;simp at hlt
   simp only[look]
   split
   ·rename_i hs;have:=Nat.eq_of_beq_eq_true hs;subst this;rw[if_neg hne]
   ·exact ih
  ·split
   ·rename_i hs;have:=Nat.eq_of_beq_eq_true hs;subst this;simp only[look]
    by_cases h:t=s
    ·subst h;simp
    ·have:Nat.beq s t=false:=by rw[Bool.eq_false_iff];intro hh;exact h (Nat.eq_of_beq_eq_true hh).symm
     simp[this,h]
   ·simp only[look]
    by_cases h:t=d
    ·subst h;simp
    ·have:Nat.beq d t=false:=by rw[Bool.eq_false_iff];intro hh;exact h (Nat.eq_of_beq_eq_true hh).symm
     simp[this,h]
theorem XC (f:AV→AV) (env:Env) (t:Nat):look (env.map fun p=>(p.1,f p.2)) t=(look env t).map f:=by
 induction env with
 | nil=>rfl
 | cons p r ih =>
  obtain⟨s,x⟩:=p;simp only[List.map_cons,look]
  split <;> simp_all
theorem qdq {keep:List Nat} {env:Env} {t:Nat} {x:AV} (h:look (dropE keep env) t=some x):look env t=some x:=by
 induction env with
 | nil=>simp[dropE,look]at h
 | cons p r ih =>
  obtain⟨s,y⟩:=p;simp only[look];simp only[dropE,List.filter_cons]at h
  split at h
  ·simp only[look]at h
   split at h
   ·exact h
   ·exact ih h
  ·rename_i hk
   split
   ·rename_i hs;have:=Nat.eq_of_beq_eq_true hs;subst this;exfalso;have hh:=h;clear ih h
    induction r with
    | nil=>simp[look]at hh
    | cons q r ih2 =>
     obtain⟨s2,y2⟩:=q;simp only[List.filter_cons]at hh
     split at hh
     ·rename_i hk2;simp only[look]at hh
      split at hh
      ·rename_i hs2;have:=Nat.eq_of_beq_eq_true hs2;subst this;exact hk hk2
      ·exact ih2 hh
     ·exact ih2 hh
   ·exact ih h
theorem HP {a:Act} {d t:Nat} {v:Value} (hd:d<a.tmps.size):(a.put (some d) v).tmps.getD t undef=if t=d then v else a.tmps.getD t undef:=by
 simp only[Act.put,Array.getD_eq_getD_getElem?,Array.getElem?_setIfInBounds]
 by_cases h:d=t
 ·subst h;simp[hd]
 ·rw[if_neg h,if_neg (fun e=>h e.symm)]
section
variable {O O':Gh} {M M':Mem} {w w':World}
theorem OwnV.change {x:AV} {v:Value} (h:OwnV O M w x v) (hown:∀ c g,x.lab? = some c→O false c=some g→O' false c=some g∧w'.heap[g]? = w.heap[g]?∧∀ o,M g o=none→M' g o=none):OwnV O' M' w' x v:=by
 unfold OwnV at *
 split at h
 ·rename_i e k c xs
  rcases h with h | ⟨g,off,cap,cur,h1,h2,h3,h4,h5,h6,h7⟩
  ·exact .inl h
  ·obtain⟨a,b,d⟩:=hown c g rfl h2;exact .inr ⟨g,off,cap,cur,h1,a,b.trans h3,h4,h5,h6,fun o ho=>d o (h7 o ho)⟩
 ·trivial
theorem SbOk.change {id k off n:Nat} {v:Value} (h:SbOk O id k off n v) (he:Gh.Eq1 O O' id):SbOk O' id k off n v:=by
 obtain⟨e1,e2,e3⟩:=he;unfold SbOk at *;rw[e1,e2,e3];exact h
theorem CellR.mono {t:Nat} {c:AV} {u:Value} (h:CellR O M t c u) (hs:Sub M M') (he:c=.slf→O' true t=O true t) (hr:∀ s,c.cref s=true→Gh.Eq1 O O' s):CellR O' M' t c u:=by
 unfold CellR at *
 cases c with
 | sb id e k off n=>exact SbOk.change h (hr id (by simp[AV.cref]))
 | mb kd id =>
  obtain⟨h1,g,h2,h3⟩:=h;exact⟨h1,g,by rw[(hr id (by simp[AV.cref])).1];exact h2,h3⟩
 | slf=>rw[he rfl];exact h
 | top=>exact h
 | _=>exact⟨h.1,h.2.mono hs⟩
theorem CellR.one {t:Nat} {c:AV} {u:Value} (h:CellR O M t c u):u.oneCell'=true:=by
 unfold CellR at h
 cases c with
 | sb id e k off n=>rcases h.2 with ⟨_,ad,e1⟩ | ⟨g1,cap,e1,_⟩ <;> rw[e1] <;> rfl
 | mb kd id=>obtain⟨_,g,_,e1⟩:=h;rw[e1];rfl
 | slf=>rcases h with e1 | ⟨g,_,e1⟩ <;> rw[e1] <;> rfl
 | top=>exact h
 | _=>exact h.2.one h.1
theorem CellR.top {t:Nat} {c:AV} {u:Value} (h:CellR O M t c u):CellR O' M' t .top u:=h.one
theorem CellR.of_one {t:Nat} {c:AV} {u:Value} (h1:c.one=true) (h:R M c u):CellR O M t c.strip u:=by
 have h2:=h.strip
 cases c <;> first | exact⟨rfl,h2⟩ | cases h1
theorem CellR.to_r {t:Nat} {c:AV} {u:Value} (h:CellR O M t c u) (h1:c.one=true):R M c.strip u:=by
 unfold CellR at h
 cases c <;> first | exact h.2.strip | cases h1
theorem CellR.san {t:Nat} {c:AV} {u:Value} (h:CellR O M t c u):R M c.san u∧OwnV O M w c.san u:=by
 unfold AV.san
 split
 ·rename_i h1;have:=h.to_r h1
  cases c <;> first | exact⟨this,trivial⟩ | cases h1
 ·exact⟨.top _,trivial⟩
theorem ValOk.change {x:AV} {v:Value} (h:ValOk O M w x v) (hs:Sub M M') (href:∀ s,x.refs s=true→Gh.Eq1 O O' s)
  (hown:∀ c g,x.hasLabB c=true→O false c=some g→O' false c=some g∧w'.heap[g]? = w.heap[g]?∧∀ o,M g o=none→M' g o=none):ValOk O' M' w' x v:=by
 cases x with
 | box cs=>exact h.elim
 | obj e k xs=>exact h.elim
 | hob kd ks vs=>exact h.elim
 | bxg cs=>exact h.elim
 | slf=>exact h.elim
 | agr cs =>
  obtain⟨us,h1,h2,h3⟩:=h;refine⟨us,h1,h2,fun j c u hc hu=>?_⟩;obtain⟨k1,k2,k3⟩:=h3 j c u hc hu;have hm:=List.mem_of_getElem? hc;refine⟨k1.mono hs (fun e=>absurd e k3) fun s hcs=>href s ?_,k2.change fun c' g hl hg=>hown c' g ?_ hg,k3⟩
  ·simp only[AV.refs,List.any_eq_true];exact⟨c,hm,hcs⟩
  ·simp only[AV.hasLabB,List.any_eq_true];exact⟨c,hm,by simp[AV.hasLab,hl]⟩
 | lst e k o xs=>exact⟨h.1.mono hs,h.2.change fun c g hl hg=>hown c g (by simp only[AV.lab?]at hl;subst hl;simp[AV.hasLabB,AV.hasLab,AV.lab?]) hg⟩
 | mb kd s=>obtain⟨g,h1,h2⟩:=h;exact⟨g,by rw[(href s (by simp[AV.refs])).1];exact h1,h2⟩
 | clb f caps =>
  obtain⟨vs,h1,h2,h3⟩:=h;refine⟨vs,h1,h2,fun j c u hc hu=>?_⟩;have h4:=h3 j c u hc hu;unfold CapOk at *
  cases c with
  | pb s off =>
   obtain⟨g,k1,k2⟩:=h4;refine⟨g,k1,?_⟩
   rw[(href s (by
    simp only[AV.refs,List.any_eq_true]
    exact⟨_,List.mem_of_getElem? hc,by simp⟩)).1]
   exact k2
  | _=>exact h4.mono hs
 | pb s off=>obtain⟨g,h1,h2⟩:=h;exact⟨g,h1,by rw[(href s (by simp[AV.refs])).1];exact h2⟩
 | pe s k j o=>obtain⟨g,h1,h2⟩:=h;exact⟨g,h1,by rw[(href s (by simp[AV.refs])).1];exact h2⟩
 | sb s e k off n=>exact SbOk.change h (href s (by simp[AV.refs]))
 | tpr s e k off n rest =>
  obtain⟨u,us,h1,h2,h3,h4⟩:=h;exact⟨u,us,h1,SbOk.change h2 (href s (by simp[AV.refs])),h3,fun j c u' hc hu=>(h4 j c u' hc hu).mono hs⟩
 | _=>exact⟨h.1.mono hs,trivial⟩
theorem BoxOk.change {t:Nat} {cs:List AV} {v:Value} (h:BoxOk O M w t cs v) (hs:Sub M M')
  (hbox:∀ g,O true t=some g→O' true t=some g∧w'.heap[g]? = w.heap[g]?∧∀ o,M g o=none→M' g o=none)
  (hown:∀ c g (x:AV),x∈cs→x.lab? = some c→O false c=some g→O' false c=some g∧w'.heap[g]? = w.heap[g]?∧∀ o,M g o=none→M' g o=none):BoxOk O' M' w' t cs v:=by
 obtain⟨g,cur,el,h1,h2,h3,h4,h5,h6⟩:=h;obtain⟨a,b,c⟩:=hbox g h2;refine⟨g,cur,el,h1,a,b.trans h3,h4,fun o=>c o (h5 o),fun j x u hx hu=>?_⟩;obtain⟨k1,k2,k3⟩:=h6 j x u hx hu;exact⟨k1,k2.mono hs,k3.change fun c' g' hl hg=>hown c' g' x (List.mem_of_getElem? hx) hl hg⟩
theorem ObjOk.change {t e k:Nat} {xs:List AV} (h:ObjOk O M w t e k xs) (hs:Sub M M') (he:Gh.Eq1 O O' t) (hobj:∀ g,O true t=some g→w'.heap[g]? = w.heap[g]?∧∀ o,M g o=none→M' g o=none):ObjOk O' M' w' t e k xs:=by
 obtain⟨h0,h1,h2,h3⟩:=h;obtain⟨e1,e2,e3⟩:=he;refine⟨h0,h1,by rw[e2];exact h2,?_⟩
 rcases h3 with ⟨h3,h4⟩ | ⟨g,cur,k1,k2,k3,k4,k5,k6⟩
 ·exact .inl ⟨h3,by rw[e1];exact h4⟩
 ·obtain⟨a,b⟩:=hobj g k1;exact .inr ⟨g,cur,by rw[e1];exact k1,k2.same a,by rw[e3];exact k3,k4,fun o=>b o (k5 o),fun j c u hc hu=>(k6 j c u hc hu).mono hs⟩
theorem HobOk.change {t kd:Nat} {ks vs:List AV} (h:HobOk O M w t kd ks vs) (hs:Sub M M') (he:Gh.Eq1 O O' t) (hobj:∀ g,O true t=some g→w'.heap[g]? = w.heap[g]?∧∀ o,M g o=none→M' g o=none):HobOk O' M' w' t kd ks vs:=by
 obtain⟨g,h1,h2,h3⟩:=h;obtain⟨a,b⟩:=hobj g h1;refine⟨g,by rw[he.1];exact h1,fun o=>b o (h2 o),?_⟩
 match kd with
 | 0 =>
  obtain⟨es,clock,k1,k2⟩:=h3;exact⟨es,clock,a.trans k1,k2.mono hs⟩
 | 1 =>
  rcases h3 with ⟨c,s,k1,k2,k3⟩ | ⟨b,es,clock,seen,last,k1,k2,k3,k4,k5⟩
  ·exact .inl ⟨c,s,a.trans k1,k2,k3⟩
  ·exact .inr ⟨b,es,clock,seen,last,a.trans k1,k2,hs _ _ _ k3,k4,k5.mono hs⟩
 | 2 | kd+4 =>
  obtain⟨b,es,clock,seen,e,k,v,ks',vs',k1,k2,k3,k4,k5,k6,k7,k8,k9⟩:=h3;exact⟨b,es,clock,seen,e,k,v,ks',vs',k1,k2,a.trans k3,hs _ _ _ k4,k5,k6,k7,k8.mono hs,k9.mono hs⟩
 | 3 =>
  obtain⟨cur,el,k1,k2,k3⟩:=h3;exact⟨cur,el,a.trans k1,k2,fun j c u hc hu=>⟨(k3 j c u hc hu).1,(k3 j c u hc hu).2.1,(k3 j c u hc hu).2.2.mono hs⟩⟩
theorem BxgOk.change2 {t:Nat} {cs:List AV} {v:Value} (h:BxgOk O M w t cs v) (hs:Sub M M') (he:O' true t=O true t) (hr:∀ s,(AV.bxg cs).refs s=true→Gh.Eq1 O O' s) (hobj:∀ g,O true t=some g→w'.heap[g]? = w.heap[g]?∧∀ o,M g o=none→M' g o=none):BxgOk O' M' w' t cs v:=by
 obtain⟨g,cur,el,h1,h2,h3,h4,h5,h6⟩:=h;obtain⟨a,b⟩:=hobj g h2;refine⟨g,cur,el,h1,by rw[he];exact h2,a.trans h3,h4,fun o=>b o (h5 o),fun j c u hc hu=>(h6 j c u hc hu).mono hs (fun _=>he) fun s hcs=>hr s ?_⟩;simp only[AV.refs,List.any_eq_true];exact⟨c,List.mem_of_getElem? hc,hcs⟩
theorem BxgOk.change {t:Nat} {cs:List AV} {v:Value} (h:BxgOk O M w t cs v) (hs:Sub M M') (he:Gh.Eq1 O O' t) (hr:∀ s,(AV.bxg cs).refs s=true→Gh.Eq1 O O' s) (hobj:∀ g,O true t=some g→w'.heap[g]? = w.heap[g]?∧∀ o,M g o=none→M' g o=none):BxgOk O' M' w' t cs v :=
 h.change2 hs he.1 hr hobj
theorem QF {t:Nat} {x:AV} {v:Value} (h:ValOk O M w x v):Sat O M w t x v:=by
 cases x with
 | box cs=>exact h.elim
 | obj e k xs=>exact h.elim
 | hob kd ks vs=>exact h.elim
 | bxg cs=>exact h.elim
 | slf=>exact h.elim
 | _=>exact h
theorem Zv {t:Nat} {x:AV} {v:Value} (hx:x.ent=false) (h:Sat O M w t x v):ValOk O M w x v:=by
 cases x with
 | box cs=>cases hx
 | obj e k xs=>cases hx
 | hob kd ks vs=>cases hx
 | bxg cs=>cases hx
 | _=>exact h
theorem Sat.change2 {t:Nat} {x:AV} {v:Value} (h:Sat O M w t x v) (hs:Sub M M') (hent:x.ent=true→Gh.Eq1 O O' t) (href:∀ s,x.refs s=true→Gh.Eq1 O O' s)
  (hblk:∀ g,x.ent=true→O true t=some g→w'.heap[g]? = w.heap[g]?∧∀ o,M g o=none→M' g o=none)
  (hlab:∀ c g,O false c=some g→O' false c=some g∧w'.heap[g]? = w.heap[g]?∧∀ o,M g o=none→M' g o=none):Sat O' M' w' t x v:=by
 cases x with
 | box cs=>exact BoxOk.change h hs (fun g hg=>⟨by rw[(hent rfl).1];exact hg,hblk g rfl hg⟩) fun c g x _ _ hg=>hlab c g hg
 | obj e k xs=>exact ObjOk.change h hs (hent rfl) fun g hg=>hblk g rfl hg
 | hob kd ks vs=>exact HobOk.change h hs (hent rfl) fun g hg=>hblk g rfl hg
 | bxg cs=>exact BxgOk.change h hs (hent rfl) href fun g hg=>hblk g rfl hg
 | _ =>
  exact QF ((Zv rfl h).change hs href fun c g _ hg=>hlab c g hg)
theorem Sat.change {t:Nat} {x:AV} {v:Value} (h:Sat O M w t x v) (hs:Sub M M') (hE:∀ c,Gh.Eq1 O O' c)
  (hO:∀ i c g,O i c=some g→O' i c=some g∧w'.heap[g]? = w.heap[g]?∧∀ o,M g o=none→M' g o=none):Sat O' M' w' t x v:=by
 cases x with
 | box cs=>exact BoxOk.change h hs (fun g hg=>hO true t g hg) fun c g x _ _ hg=>hO false c g hg
 | obj e k xs=>exact ObjOk.change h hs (hE t) fun g hg=>(hO true t g hg).2
 | hob kd ks vs=>exact HobOk.change h hs (hE t) fun g hg=>(hO true t g hg).2
 | bxg cs=>exact BxgOk.change h hs (hE t) (fun s _=>hE s) fun g hg=>(hO true t g hg).2
 | _ =>
  exact QF ((Zv rfl h).change hs (fun s _=>hE s) fun c g _ hg=>hO false c g hg)
end
theorem qdr (s:Nat) (c:AV):(killC s c).cref s=false:=by
 unfold killC
 split
 ·rfl
 ·assumption
theorem qfU {s s':Nat} {c:AV} (h:(killC s c).cref s'=true):c.cref s'=true:=by
 unfold killC at h
 split at h
 ·cases h
 ·exact h
theorem qaF (s:Nat) (cs:List AV):(cs.map (killC s)).any (AV.cref s)=false:=by
 simp only[List.any_map,List.any_eq_false];intro c _;simp only[Function.comp,qdr]
 simp
theorem Yi (s:Nat) (y:AV):(killRef s y).refs s=false:=by
 unfold killRef
 split
 ·split
  ·exact qaF s _
  ·exact qaF s _
  ·rfl
 ·assumption
theorem ZC {s s':Nat} {y:AV} (h:(killRef s y).refs s'=true):y.refs s'=true:=by
 have key:∀ cs:List AV,(cs.map (killC s)).any (AV.cref s')=true→cs.any (AV.cref s')=true:=by
  intro cs h;simp only[List.any_map,List.any_eq_true]at h ⊢;obtain⟨c,hc,h⟩:=h;exact⟨c,hc,qfU h⟩
 unfold killRef at h
 split at h
 ·split at h
  ·exact key _ h
  ·exact key _ h
  ·cases h
 ·exact h
theorem qbZ {s:Nat} {y:AV} (h:(killRef s y).ent=true):y.ent=true:=by
 unfold killRef at h
 split at h
 ·split at h
  ·rfl
  ·cases h
  ·cases h
 ·exact h
theorem Sat.kill {O:Gh} {M:Mem} {w:World} {t:Nat} {y:AV} {v:Value} (h:Sat O M w t y v) (s:Nat):Sat O M w t (killRef s y) v:=by
 unfold killRef
 split
 ·split
  ·rename_i cs _;obtain⟨g,cur,el,h1,h2,h3,h4,h5,h6⟩:=h;refine⟨g,cur,el,h1,h2,h3,by simpa using h4,h5,fun j c u hc hu=>?_⟩;rw[List.getElem?_map]at hc
   cases hz:cs[j]? with
   | none=>rw[hz]at hc;cases hc
   | some z =>
    rw[hz]at hc;cases hc;have:=h6 j z u hz hu;unfold killC
    split
    ·exact this.top
    ·exact this
  ·rename_i cs _;obtain⟨us,h1,h2,h3⟩:=h;refine⟨us,h1,by simpa using h2,fun j c u hc hu=>?_⟩;rw[List.getElem?_map]at hc
   cases hz:cs[j]? with
   | none=>rw[hz]at hc;cases hc
   | some z =>
    rw[hz]at hc;cases hc;obtain⟨k1,k2,k3⟩:=h3 j z u hz hu;unfold killC
    split
    ·exact⟨k1.top,trivial,fun e=>by cases e⟩
    ·exact⟨k1,k2,k3⟩
  ·exact⟨.top _,trivial⟩
 ·exact h
section
variable {bs:Base} {n:Nat} {M:Mem} {O:Gh} {env:Env} {a:Act} {w:World}
theorem Inv.grown (h:Inv bs n M O env a w) {w':World} {M':Mem} {row:Option Nat} (hrow:∀ g,row=some g→¬ bs.D g∧∀ i c,O i c≠some g) (hw:w.grownBy w' row) (hs:Sub M M') (hc:Cons M' w')
  (ho:∀ b o,b<w.heap.size→some b≠row→M' b o=M b o):Inv bs n M' O env a w':=by
 have hlt:∀ k,bs.D k→k<w.heap.size:=fun k hk=>by have:=h.hB k hk;have:=h.below.size;omega
 refine⟨h.size,h.defers,?_,h.hB,hc,h.ext.trans hs,?_,?_,h.inj,h.fix,?_⟩
 ·refine⟨hw.os.trans h.below.os,hw.tape.trans h.below.tape,hw.output.trans h.below.output,Nat.le_trans h.below.size hw.size,fun k hk=>?_⟩;exact (hw.block k (hlt k hk) fun e=>(hrow k e.symm).1 hk).trans (h.below.block k hk)
 ·intro b o hb;rw[ho b o (hlt b hb) (fun e=>(hrow b e.symm).1 hb)];exact h.old b o hb
 ·intro i c g hg;obtain⟨h1,h2⟩:=h.own i c g hg;exact⟨h1,Nat.lt_of_lt_of_le h2 hw.size⟩
 ·intro t x hx
  refine (h.slots t x hx).change hs (fun c=>Gh.Eq1.refl O c) fun i c g hg=>⟨hg,?_,?_⟩
  ·exact hw.block g (h.own i c g hg).2 fun e=>(hrow g e.symm).2 i c hg
  ·intro o hM;rw[ho g o (h.own i c g hg).2 fun e=>(hrow g e.symm).2 i c hg];exact hM
theorem Inv.put (h:Inv bs n M O env a w) {d:Nat} {x:AV} {v:Value} (hd:d<n) (hv:ValOk O M w x v):Inv bs n M O (ins d x env) (a.put (some d) v) w:=by
 refine⟨by simp[Act.put,h.size],h.defers,h.below,h.hB,h.cons,h.ext,h.old,h.own,h.inj,h.fix,?_⟩;intro t y hy;rw[qS]at hy;rw[HP (by rw[h.size];exact hd)]
 split at hy
 ·rename_i e;subst e;cases hy;rw[if_pos rfl];exact QF hv
 ·rename_i e;rw[if_neg e];exact h.slots t y hy
theorem Inv.sub (h:Inv bs n M O env a w) {env':Env} (hl:∀ t x,look env' t=some x→look env t=some x∨x=.top):Inv bs n M O env' a w:=by
 refine⟨h.size,h.defers,h.below,h.hB,h.cons,h.ext,h.old,h.own,h.inj,h.fix,fun t x hx=>?_⟩
 rcases hl t x hx with h1 | rfl
 ·exact h.slots t x h1
 ·exact⟨.top _,trivial⟩
theorem Inv.drop (h:Inv bs n M O env a w) (keep:List Nat):Inv bs n M O (dropE keep env) a w :=
 h.sub fun _ _ hx=>.inl (qdq hx)
def setO (O:Gh) (i:Bool) (c:Nat) (v:Option Nat):Gh :=
 ⟨fun i' c'=>if i'=i∧c'=c then v else O.o i' c',O.len,O.siz⟩
theorem jL (O:Gh) (i:Bool) (c:Nat) (v:Option Nat) (i':Bool) (c':Nat):(setO O i c v).o i' c'=if i'=i∧c'=c then v else O.o i' c':=rfl
theorem Ja (O:Gh) (d:Nat) (v:Option Nat) (c:Nat):Gh.Eq1 O (setO O false d v) c:=⟨by simp[jL],rfl,rfl⟩
theorem OwnV.relab {M:Mem} {w:World} {O O':Gh} {x:AV} {v:Value} {l:Nat} {m:Option Nat} (h:OwnV O M w x v)
  (h1:∀ c,m=some c→O' false c=O false l) (h2:∀ c,c≠l→O' false c=O false c∨x.lab?≠some c):OwnV O' M w (x.relab l m) v:=by
 cases x with
 | lst e k o xs =>
  cases o with
  | none=>trivial
  | some c' =>
   simp only[AV.relab]
   split
   ·rename_i hb;have:=Nat.eq_of_beq_eq_true hb;subst this
    cases m with
    | none=>trivial
    | some c =>
     simp only[OwnV]at h ⊢;rw[h1 c rfl];exact h
   ·rename_i hb
    have hne:c'≠l:=by intro e;subst e;simp at hb
    simp only[OwnV]at h ⊢
    rcases h2 c' hne with h3 | h3
    ·rw[h3];exact h
    ·exact absurd rfl h3
 | _=>trivial
theorem qey {l m} {x:AV}:(x.relab l m).one=x.one:=by
 cases x with
 | lst e k o xs =>
  cases o with
  | none=>rfl
  | some c=>simp only[AV.relab];split <;> rfl
 | _=>rfl
theorem CellR.relab {M:Mem} {O O':Gh} {t:Nat} {c:AV} {u:Value} {l:Nat} {m:Option Nat} (h:CellR O M t c u) (hE:∀ c,Gh.Eq1 O O' c) (hns:c≠.slf):CellR O' M t (c.relab l m) u:=by
 cases c with
 | lst e k o xs =>
  have h1:R M ((AV.lst e k o xs).relab l m) u:=R.relab l m h.2
  cases o with
  | none=>exact⟨rfl,h1⟩
  | some c =>
   simp only[AV.relab]at h1 ⊢
   split
   ·rename_i hb;rw[hb]at h1;exact⟨rfl,h1⟩
   ·rename_i hb;rw[hb]at h1;exact⟨rfl,h1⟩
 | slf=>exact absurd rfl hns
 | _=>exact h.mono (Sub.refl M) (fun e=>by cases e) fun s _=>hE s
def relO (O:Gh) (l:Nat) (m:Option Nat):Gh :=
 match m with
 | some c=>setO (setO O false c (O false l)) false l none
 | none=>setO O false l none
theorem Inv.relab (h:Inv bs n M O env a w) (l:Nat) (m:Option Nat) (hm:∀ c,m=some c→c≠l∧labIn c env=false) :
  Inv bs n M (relO O l m) (relabE l m env) a w:=by
 obtain⟨O',hO'⟩:∃ O',O'=relO O l m:=⟨_,rfl⟩;rw[← hO'];unfold relO at hO'
 have ht:∀ s,O' true s=O true s:=by
  intro s;rw[hO'];cases m <;> simp[setO]
 have hf1:∀ c,m=some c→O' false c=O false l:=by
  intro c hc;subst hc;rw[hO'];have:=(hm c rfl).1;simp[setO,this]
 have hf2:∀ c,c≠l→m≠some c→O' false c=O false c:=by
  intro c hc hmc;rw[hO'];cases m with
  | none=>simp[setO,hc]
  | some c'=>have:c≠c':=fun e=>hmc (by rw[e]);simp[setO,hc,this]
 have hf3:O' false l=none:=by rw[hO'];cases m <;> simp[setO]
 have key:∀ i c g,O' i c=some g→∃ c0,O i c0=some g∧(i=true→c0=c)∧(i=false→(c0=l∧m=some c)∨(c0=c∧c≠l∧m≠some c)):=by
  intro i c g hg
  cases i with
  | true=>rw[ht]at hg;exact⟨c,hg,(fun _=>rfl),(fun e=>by cases e)⟩
  | false =>
   by_cases hcl:c=l
   ·subst hcl;rw[hf3]at hg;cases hg
   ·by_cases hmc:m=some c
    ·rw[hf1 c hmc]at hg;exact⟨l,hg,(fun e=>by cases e),fun _=>.inl ⟨rfl,hmc⟩⟩
    ·rw[hf2 c hcl hmc]at hg;exact⟨c,hg,(fun e=>by cases e),fun _=>.inr ⟨rfl,hcl,hmc⟩⟩
 have hE:∀ c,Gh.Eq1 O O' c:=by
  intro c;rw[hO'];cases m <;> exact⟨by simp[setO],rfl,rfl⟩
 have hfix:n≤1000000∧∀ c,2000000≤c→c<3000000→Gh.Eq1 bs.O0 O' c:=⟨h.fix.1,fun c h1 h2=>by
  obtain⟨e1,e2,e3⟩:=h.fix.2 c h1 h2;obtain⟨f1,f2,f3⟩:=hE c
  exact⟨f1.trans e1,f2.trans e2,f3.trans e3⟩⟩
 refine⟨h.size,h.defers,h.below,h.hB,h.cons,h.ext,h.old,?_,?_,hfix,?_⟩
 ·intro i c g hg;obtain⟨c0,h1,_⟩:=key i c g hg;exact h.own i c0 g h1
 ·intro i i' c c' g hg hg';obtain⟨c0,h1,h2,h3⟩:=key i c g hg;obtain⟨c0',h1',h2',h3'⟩:=key i' c' g hg';obtain⟨e1,e2⟩:=h.inj i i' c0 c0' g h1 h1';subst e1;subst e2;refine⟨rfl,?_⟩
  cases i with
  | true=>rw[← h2 rfl,← h2' rfl]
  | false =>
   rcases h3 rfl with ⟨ea,eb⟩ | ⟨ea,eb,ec⟩ <;> rcases h3' rfl with ⟨ea',eb'⟩ | ⟨ea',eb',ec'⟩
   ·rw[eb]at eb';exact Option.some.inj eb'
   ·rw[← ea']at eb';exact absurd ea eb'
   ·rw[← ea]at eb;exact absurd ea' eb
   ·rw[← ea,← ea']
 ·intro t x hx;unfold relabE at hx;rw[XC (AV.relabB l m)]at hx
  obtain⟨y,hy,rfl⟩:∃ y,look env t=some y∧y.relabB l m=x:=by
   cases hh:look env t with
   | none=>rw[hh]at hx;cases hx
   | some y=>rw[hh]at hx;exact⟨y,rfl,by simpa using hx⟩
  have hsat:=h.slots t y hy
  have hno:∀ c,m=some c→y.hasLabB c=false:=by
   intro c hc;have:=(hm c hc).2;unfold labIn at this;rw[List.any_eq_false]at this
   have hmem:∃ q∈env,q.1=t∧q.2=y:=by
    clear hsat hx this h
    induction env with
    | nil=>simp[look]at hy
    | cons p r ih =>
     obtain⟨s,z⟩:=p;simp only[look]at hy
     split at hy
     ·rename_i hs;cases hy;exact⟨(s,y),List.mem_cons_self ..,Nat.eq_of_beq_eq_true hs,rfl⟩
     ·obtain⟨q,hq,h1,h2⟩:=ih (fun c hc=>⟨(hm c hc).1,by have:=(hm c hc).2;simp only[labIn,List.any_cons,Bool.or_eq_false_iff]at this;exact this.2⟩) hy;exact⟨q,List.mem_cons_of_mem _ hq,h1,h2⟩
   obtain⟨q,hq,_,h2⟩:=hmem;have:=this q hq;rw[h2]at this
   simpa using this
  have hno1:∀ (z:AV),(∀ c,m=some c→z.hasLab c=false)→∀ c,c≠l→O' false c=O false c∨z.lab?≠some c:=by
   intro z hz c hc
   by_cases hmc:m=some c
   ·refine .inr fun e=>?_
    have:=hz c hmc
    simp[AV.hasLab,e]at this
   ·exact .inl (hf2 c hc hmc)
  cases y with
  | box cs =>
   obtain⟨g,cur,el,h1,h2,h3,h4,h5,h6⟩:=hsat;refine⟨g,cur,el,h1,by rw[ht];exact h2,h3,by simpa using h4,h5,fun j x u hx' hu=>?_⟩;rw[List.getElem?_map]at hx'
   cases hcj:cs[j]? with
   | none=>rw[hcj]at hx';cases hx'
   | some z =>
    rw[hcj]at hx';cases hx';obtain⟨k1,k2,k3⟩:=h6 j z u hcj hu;refine⟨by rw[qey];exact k1,k2.relab l m,k3.relab hf1 (hno1 z fun c hc=>?_)⟩;have:=hno c hc;simp only[AV.hasLabB,List.any_eq_false]at this;have:=this z (List.mem_of_getElem? hcj)
    simpa using this
  | pb s off =>
   obtain⟨g,h1,h2⟩:=hsat;exact⟨g,h1,by rw[ht];exact h2⟩
  | pe s k j o =>
   obtain⟨g,h1,h2⟩:=hsat;exact⟨g,h1,by rw[ht];exact h2⟩
  | sb s e k off m=>exact SbOk.change hsat (hE s)
  | tpr s e k off m rest =>
   obtain⟨u,us,h1,h2,h3,h4⟩:=hsat;exact⟨u,us,h1,SbOk.change h2 (hE s),h3,h4⟩
  | obj e k xs=>exact ObjOk.change hsat (Sub.refl M) (hE t) fun g hg=>⟨rfl,fun _ hm=>hm⟩
  | hob kd ks vs=>exact HobOk.change hsat (Sub.refl M) (hE t) fun g hg=>⟨rfl,fun _ hm=>hm⟩
  | bxg cs=>exact BxgOk.change hsat (Sub.refl M) (hE t) (fun s _=>hE s) fun g hg=>⟨rfl,fun _ hm=>hm⟩
  | slf=>exact hsat.elim
  | agr cs =>
   obtain⟨us,h1,h2,h3⟩:=hsat;refine⟨us,h1,by simpa using h2,fun j x u hx' hu=>?_⟩;rw[List.getElem?_map]at hx'
   cases hcj:cs[j]? with
   | none=>rw[hcj]at hx';cases hx'
   | some z =>
    rw[hcj]at hx';cases hx';obtain⟨k1,k2,k3⟩:=h3 j z u hcj hu;refine⟨k1.relab hE k3,k2.relab hf1 (hno1 z fun c hc=>?_),?_⟩
    ·have:=hno c hc;simp only[AV.hasLabB,List.any_eq_false]at this;have:=this z (List.mem_of_getElem? hcj)
     simpa using this
    ·cases z with
     | lst e k o xs=>cases o with
      | none=>exact fun e=>by cases e
      | some c=>simp only[AV.relab];split <;> exact fun e=>by cases e
     | _=>exact k3
  | mb kd s =>
   obtain⟨g,h1,h2⟩:=hsat;exact⟨g,by rw[(hE s).1];exact h1,h2⟩
  | clb f caps =>
   obtain⟨vs,h1,h2,h3⟩:=hsat;refine⟨vs,h1,h2,fun j c u hc hu=>?_⟩;have h4:=h3 j c u hc hu;unfold CapOk at *
   cases c with
   | pb s off=>obtain⟨g,k1,k2⟩:=h4;exact⟨g,k1,by rw[(hE s).1];exact k2⟩
   | _=>exact h4
  | lst e k o xs =>
   obtain⟨h1,h2⟩:=hsat;have h3:=R.relab l m h1;have h4:=h2.relab (O':=O') (m:=m) (l:=l) hf1 (hno1 (.lst e k o xs) fun c hc=>by simpa[AV.hasLabB] using hno c hc);show Sat O' M w t ((AV.lst e k o xs).relab l m) _
   cases o with
   | none=>exact⟨h3,h4⟩
   | some c =>
    have:∃ o',(AV.lst e k (some c) xs).relab l m=.lst e k o' xs:=by
     simp only[AV.relab];split <;> exact⟨_,rfl⟩
    obtain⟨o',ho'⟩:=this;rw[ho']at h3 h4 ⊢;exact⟨h3,h4⟩
  | _=>exact⟨hsat.1,trivial⟩
end
end Go.AM
