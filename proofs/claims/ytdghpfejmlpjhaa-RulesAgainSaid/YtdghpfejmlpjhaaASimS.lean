/- s -/
import Derived.Test.YtdghpfejmlpjhaaASimH
set_option linter.unusedVariables false
set_option linter.unusedSimpArgs false
namespace Go.AM
open Go.RowKit
section
variable {bs:Base} {n:Nat} {M:Mem} {O:Gh} {env:Env} {a:Act} {w:World} {P:Program}
theorem XS {s:Nat} (h:usable s=true):¬ (2000000≤s∧s<3000000):=by
 unfold usable at h;simp only[Bool.or_eq_true]at h
 rcases h with h | h
 ·have:s<2000000:=Nat.le_of_ble_eq_true h;omega
 ·have:=Nat.le_of_ble_eq_true h;omega
theorem JE {s t:Nat} {x:AV}:∀ {env:Env},look (env.filter fun p=>!Nat.beq p.1 s) t=some x→t≠s∧look env t=some x
 | [],h=>by simp[look]at h
 | (k,y)::r,h=>by
  simp only[List.filter_cons]at h
  split at h
  ·rename_i hk;simp only[look]at h ⊢
   split at h
   ·rename_i hb;have:=Nat.eq_of_beq_eq_true hb;subst this;refine⟨fun e=>?_,h⟩;subst e
    simp at hk
   ·exact JE h
  ·rename_i hk;obtain⟨h1,h2⟩:=JE h;refine⟨h1,?_⟩;simp only[look]
   split
   ·rename_i hb;have:=Nat.eq_of_beq_eq_true hb;subst this;exfalso
    simp at hk
    exact h1 hk
   ·exact h2
theorem Xs {s t:Nat} {x:AV} (h:look (forget s env) t=some x):t≠s∧∃ y,look env t=some y∧x=killRef s y:=by
 unfold forget at h;rw[XC (killRef s)]at h
 cases hy:look (env.filter fun p=>!Nat.beq p.1 s) t with
 | none=>rw[hy]at h;cases h
 | some y =>
  rw[hy]at h;obtain⟨h1,h2⟩:=JE hy;exact⟨h1,y,h2,(Option.some.inj h).symm⟩
theorem Inv.dropO (h:Inv bs n M O env a w) {s:Nat} (hu:usable s=true) {env':Env} (hl:∀ t x,look env' t=some x→∃ y,look env t=some y∧x=killRef s y∧(x.ent=true→t≠s)):Inv bs n M (setO O true s none) env' a w:=by
 have hsub:∀ i c g,(setO O true s none) i c=some g→O i c=some g:=by
  intro i c g hg;rw[jx]at hg
  split at hg
  ·cases hg
  ·exact hg
 refine⟨h.size,h.defers,h.below,h.hB,h.cons,h.ext,h.old,fun i c g hg=>h.own i c g (hsub i c g hg),fun i i' c c' g h1 h2=>h.inj i i' c c' g (hsub _ _ _ h1) (hsub _ _ _ h2),⟨h.fix.1,fun c k1 k2=>?_⟩,fun t x hx=>?_⟩
 ·obtain⟨e1,e2,e3⟩:=h.fix.2 c k1 k2
  have hne:c≠s:=fun e=>XS hu ⟨by omega,by omega⟩
  exact⟨(qZ (O:=O) (v:=none) hne).1.trans e1,e2,e3⟩
 ·obtain⟨y,h1,rfl,h2⟩:=hl t x hx
  refine ((h.slots t y h1).kill s).change2 (Sub.refl M) (fun he=>qZ (h2 he)) (fun c hc=>qZ fun e=>?_) (fun g _ _=>⟨rfl,fun _ hm=>hm⟩) fun c g hg=>⟨by simp[jx,hg],rfl,fun _ hm=>hm⟩
  rw[e,Yg]at hc;cases hc
theorem Inv.forget (h:Inv bs n M O env a w) {s:Nat} (hu:usable s=true):Inv bs n M (setO O true s none) (forget s env) a w:=by
 refine h.dropO hu fun t x hx=>?_
 obtain⟨h1,y,h2,h3⟩:=Xs hx;exact⟨y,h2,h3,fun _=>h1⟩
def setR (O:Gh) (t:Nat) (v:Option Nat) (len siz:Nat):Gh :=
 ⟨fun i c=>if i=true∧c=t then v else O.o i c,fun c=>if c=t then len else O.len c,fun c=>if c=t then siz else O.siz c⟩
theorem Ja (O:Gh) (t:Nat) (v:Option Nat) (len siz:Nat) (i:Bool) (c:Nat):(setR O t v len siz).o i c=if i=true∧c=t then v else O.o i c:=rfl
theorem YI {O:Gh} {d t len siz:Nat} {v:Option Nat} (h:t≠d):Gh.Eq1 O (setR O d v len siz) t:=⟨by simp[Ja,h],by simp[setR,h],by simp[setR,h]⟩
theorem Inv.claim (h:Inv bs n M O env a w) {t:Nat} (hc:∀ s x,look env s=some x→x.refs t=false) (ht:t<2000000) (v:Option Nat) (len siz:Nat) {x:AV}
  (hv:∀ g,v=some g→¬ bs.D g∧g<w.heap.size∧∀ i c,O i c=some g→i=true∧c=t) (hx:Sat (setR O t v len siz) M w t x (a.tmps.getD t undef)):Inv bs n M (setR O t v len siz) (ins t x env) a w:=by
 refine⟨h.size,h.defers,h.below,h.hB,h.cons,h.ext,h.old,?_,?_,⟨h.fix.1,fun c k1 k2=>?_⟩,?_⟩
 ·intro i c g hg;rw[Ja]at hg
  split at hg
  ·exact⟨(hv g hg).1,(hv g hg).2.1⟩
  ·exact h.own i c g hg
 ·intro i i' c c' g hg hg';rw[Ja]at hg hg'
  split at hg <;> split at hg'
  ·rename_i e1 e2;exact⟨e1.1.trans e2.1.symm,e1.2.trans e2.2.symm⟩
  ·rename_i e1 e2;exact absurd ((hv g hg).2.2 i' c' hg') e2
  ·rename_i e1 e2;exact absurd ((hv g hg').2.2 i c hg) e1
  ·exact h.inj i i' c c' g hg hg'
 ·obtain⟨e1,e2,e3⟩:=h.fix.2 c k1 k2
  have hne:c≠t:=by omega
  obtain⟨f1,f2,f3⟩:=YI (O:=O) (v:=v) (len:=len) (siz:=siz) hne;exact⟨f1.trans e1,f2.trans e2,f3.trans e3⟩
 ·intro s y hy;rw[qJ]at hy
  by_cases hst:s=t
  ·subst hst;rw[if_pos rfl]at hy;cases hy;exact hx
  ·rw[if_neg hst]at hy
   refine (h.slots s y hy).change2 (Sub.refl M) (fun _=>YI hst) (fun c hcc=>YI fun e=>?_) (fun g _ _=>⟨rfl,fun _ hm=>hm⟩) fun c g hg=>⟨by simp[Ja,hg],rfl,fun _ hm=>hm⟩
   rw[e,hc s y hy]at hcc;cases hcc
theorem elemOf_cells {z:List AV} {s:Nat} (hz:z.length=s) (h1:z.all AV.one=true):(elemOf z s).cells=z:=by
 unfold elemOf
 split
 ·rename_i x
  have:x.one=true:=by simpa using h1
  exact XN this
 ·rfl
theorem QL {t d:Nat} {x y:AV} (h:t≠d) (env:Env) (s:Nat):look (ins t x (ins d y env)) s=look (ins d y (ins t x env)) s:=by
 simp only[qJ]
 by_cases h1:s=t
 ·subst h1;simp[h]
 ·simp[h1]
theorem Inv.looks (h:Inv bs n M O env a w) {env':Env} (he:∀ s,look env' s=look env s):Inv bs n M O env' a w :=
 h.sub fun t x hx=>.inl (by rw[← he];exact hx)
theorem Inv.newRow (h:Inv bs n M O env a w) {d e k cap g:Nat} (hd:d<n) (hdent:∀ x,look env d=some x→x.ent=false) (hc:clearOf (1000000+d) env=true) {xs:List AV} {v:Value} {cur:Array Value} (hk:0<k)
  (hxs:∀ x,x∈xs→x.cells.length=k∧x.cells.all AV.one=true)
  (hv:(xs=[]∧∃ ad,v=.slice ad 0 0)∨(v=.slice (some ⟨g,0,none⟩) xs.length cap∧¬ bs.D g∧g<w.heap.size∧(∀ i c,O i c≠some g)∧w.heap[g]? = some (.cells cur e (0,0))∧cur.size=cap * k∧xs.length≤cap∧cap≤maxLen∧(∀ o,M g o=none) ∧
   ∀ (j:Nat) c u,(flat xs)[j]? = some c→cur[j]? = some u→R M c u)) :
  ∃ O',Inv bs n M O' (ins (1000000+d) (.obj e k xs) (ins d (.sb (1000000+d) e k 0 xs.length) env)) (a.put (some d) v) w:=by
 obtain⟨c1,c2⟩:=jA hc;have hn:=h.fix.1
 have hne:1000000+d≠d:=by omega
 rcases hv with ⟨rfl,ad,rfl⟩ | ⟨rfl,k1,k2,k3,k4,k5,k6,k7,k8,k9⟩
 ·refine⟨setR O (1000000+d) none 0 0,?_⟩;have h1:=h.claim (t:=1000000+d) (x:=.obj e k []) c2 (by omega) none 0 0 (fun g e=>by cases e) ⟨hk,hxs,by simp[setR],.inl ⟨rfl,by simp[Ja]⟩⟩;have h2:=h1.put (d:=d) (x:=.sb (1000000+d) e k 0 0) (v:=.slice ad 0 0) hd ⟨by simp,.inl ⟨rfl,ad,rfl⟩⟩
  exact h2.looks fun s=>QL hne env s
 ·refine⟨setR O (1000000+d) (some g) xs.length cur.size,?_⟩;have h1:=h.claim (t:=1000000+d) (x:=.obj e k xs) c2 (by omega) (some g) xs.length cur.size (fun g' e=>by cases e;exact⟨k1,k2,fun i c hh=>absurd hh (k3 i c)⟩)
   ⟨hk,hxs,by simp[setR],.inr ⟨g,cur,by simp[Ja],RowAt.of k4,by simp[setR],by rw[k5];exact Nat.mul_le_mul_right _ k6,k8,k9⟩⟩
  have h2:=h1.put (d:=d) (x:=.sb (1000000+d) e k 0 xs.length) (v:=.slice (some ⟨g,0,none⟩) xs.length cap) hd ⟨by simp[setR],.inr ⟨g,cap,by simp,by simp[Ja],by simp[setR,k5],k6,by simpa using k7⟩⟩
  exact h2.looks fun s=>QL hne env s
theorem YC {d:Nat} {x:AV} {env env':Env} (he:eput n (some d) x env=some env'):d<n∧env'=ins d x env∧∀ y,look env d=some y→y.ent=false:=by
 unfold eput at he;simp only at he
 split at he
 ·rename_i hc;cases he;simp only[Bool.and_eq_true]at hc;refine⟨Nat.le_of_ble_eq_true hc.1,rfl,fun y hy=>?_⟩;rw[hy]at hc
  cases y <;> first | rfl | cases hc.2
 ·cases he
theorem makeSlice_leads (h:Inv bs n M O env a w) {o:Oper} {t:TypeId} {l c:Operand} (ho:o.op=.makeSlice t l c) {env':Env} (he:astep P n o env=some env'):Leads P bs n o a w env':=by
 unfold astep at he;rw[ho]at he;simp only at he
 split at he
 case h_2=>cases he
 rename_i d k1 m k2 m' e s hd hl hcc hse;obtain⟨hu,hs⟩:=jI hse
 split at he
 case h_2=>cases he
 rename_i z hz hcl;simp only[Bool.and_eq_true]at hcl;obtain⟨hcl,hs0⟩:=hcl;have hs0:0<s:=Nat.le_of_ble_eq_true hs0
 split at he
 case h_2=>cases he
 rename_i hzl;simp only[Bool.and_eq_true]at hzl;obtain⟨hz1,hz2⟩:=hzl;have hz1:=Nat.eq_of_beq_eq_true hz1
 split at he
 case isFalse=>cases he
 rename_i hb;obtain⟨rfl,b1,b2,b3⟩:=hb;rw[Option.map_eq_some_iff]at he;obtain⟨env1,he1,rfl⟩:=he;rw[hd]at he1;obtain⟨hdn,rfl,hdent⟩:=YC he1;have e1:=(qm h hl).1.int_inv;have e2:=(qm h hcc).1.int_inv;obtain⟨it,zv,hi,hzz,hzr,hzo⟩:=Qj (M:=M) hz
 have hsz:it.size=s:=by
  unfold tSize at hs;rw[hi]at hs;exact Option.some.inj hs
 have hby:((P.info? e).map (·.bytes)).getD 0=it.bytes:=by rw[hi];rfl
 rw[hby]at b2;obtain⟨q,rfl⟩:∃ q:Nat,m=q:=⟨m.toNat,by omega⟩
 have hb2:(it.bytes:Int) * q≤281474976710656:=by rw[Int.mul_comm];exact b2
 have hrun:=run_make (P:=P) w t e it zv hu hi hzz k1 k2 (q:Int) (q:Int) b1 (Int.le_refl _) hb2 b3;simp only[Int.toNat_natCast,hsz]at hrun
 have hex:(execOp a.eval o).run P w=.ok (.value (.slice (some ⟨w.heap.size,0,none⟩) q q)) (w.alloc (.cells (madeCells zv.cells (q * s)) e)):=by
  have:execOp a.eval o=vS (Instr.makeSlice t (a.eval l) (a.eval c)):=by unfold execOp;rw[ho];rfl
  rw[this,e1,e2];exact run_v hrun
 have h':=h.grown (row:=none) (fun g e=>by cases e) (World.grownBy_alloc w (.cells (madeCells zv.cells (q * s)) e) none) (Sub.refl M) (XM h.cons _) (fun b o _ _=>rfl);have hzc:=elemOf_cells hz1 hz2
 have hty:∀ x,x∈List.replicate q (elemOf z s)→x.cells.length=s∧x.cells.all AV.one=true:=by
  intro x hx;have:=List.eq_of_mem_replicate hx;subst this;rw[hzc];exact⟨hz1,hz2⟩
 obtain⟨O',hfin⟩:=h'.newRow (d:=d) (e:=e) (k:=s) (cap:=q) (g:=w.heap.size) (xs:=List.replicate q (elemOf z s)) (v:=.slice (some ⟨w.heap.size,0,none⟩) q q) (cur:=madeCells zv.cells (q * s)) hdn hdent hcl hs0 hty
  (.inr ⟨by simp,h.fresh (Nat.le_refl _),by simp,fun i c hg=>by have:=(h.own i c _ hg).2;omega,heap_alloc_new w _,size_madeCells _ _,by simp,by unfold maxLen;omega,fun o=>JY h.cons (Nat.le_refl _) o,fun j cc u hj huu=>by
   have hlt:=(List.getElem?_eq_some_iff.1 hj).1;have hfl:=qW (fun x hx=>(hty x hx).1);rw[hfl]at hlt;simp only[List.length_replicate]at hlt;have hd1:j / s<q:=Nat.div_lt_of_lt_mul (by rw[Nat.mul_comm];exact hlt);have hm1:j % s<s:=Nat.mod_lt _ hs0;have hg:=QY (fun x hx=>(hty x hx).1) (i:=j / s) (x:=elemOf z s) (by simp[hd1]) (j % s) hm1
   have e3:j / s * s+j % s=j:=by rw[Nat.mul_comm];exact Nat.div_add_mod j s
   rw[e3,hj,hzc]at hg
   have hzs:zv.cells.size=s:=by rw[← hzr.1,hz1]
   have hu2:zv.cells[j % s]? = some u:=by
    unfold madeCells at huu;simp only[Array.getElem?_map,Array.getElem?_range,hlt,if_true,Option.map_some,Option.some.injEq,hzs]at huu
    have:j % s<zv.cells.size:=by omega
    rw[getElem!_pos zv.cells (j % s) this]at huu;rw[← huu];exact Array.getElem?_eq_getElem this
   exact hzr.2 _ _ _ hg.symm hu2⟩)
 refine⟨_,_,M,O',.inl hex,?_⟩;rw[hd]
 simpa using hfin
end
end Go.AM
namespace Go.AM
open Go.RowKit
section
variable {bs:Base} {n:Nat} {M:Mem} {O:Gh} {env:Env} {a:Act} {w:World} {P:Program}
theorem content_sound (h:Inv bs n M O env a w) {x:AV} {v:Value} (hx:ValOk O M w x v) {k:Nat} {ys:List AV} (hc:content env x=some (k,ys)) :
  (∀ y,y∈ys→y.cells.length=k∧y.cells.all AV.one=true)∧((ys=[]∧∃ ad c,v=.slice ad 0 c)∨∃ (b off cap:Nat) (us:Nat→Value),v=.slice (some ⟨b,off,none⟩) ys.length cap∧ys.length≤cap∧∀ (j:Nat) c,(flat ys)[j]? = some c→w.cell? ⟨b,off+j,none⟩=some (us j)∧R M c (us j)):=by
 cases x with
 | lst e k' l xs =>
  simp only[content,Option.some.injEq,Prod.mk.injEq]at hc;obtain⟨rfl,rfl⟩:=hc
  rcases hx.1.lst_inv with ⟨rfl,rfl | ⟨ad,cap,rfl⟩⟩ | ⟨b,off,cap,us,rfl,g1,g2,g3,g4,g5⟩
  ·exact⟨by simp,.inl ⟨rfl,_,_,rfl⟩⟩
  ·exact⟨by simp,.inl ⟨rfl,_,_,rfl⟩⟩
  ·exact⟨fun y hy=>⟨g2 y hy,g5 y hy⟩,.inr ⟨b,off,cap,us,rfl,g1,fun j c hj=>⟨Jk (h.cons _ _ _ (g3 j c hj)) (QM ((g4 j c hj).one (Zr g5 hj))),g4 j c hj⟩⟩⟩
 | sb id e k' off m =>
  simp only[content]at hc
  split at hc
  case h_2=>cases hc
  rename_i e' k2 xs hl
  split at hc
  case h_2=>cases hc
  rename_i hk;have hk:=Nat.eq_of_beq_eq_true hk;subst hk;simp only[Option.some.injEq,Prod.mk.injEq]at hc;obtain⟨rfl,rfl⟩:=hc;obtain⟨h0,h3,h4,h5⟩:=h.slots id _ hl;obtain⟨q1,q2⟩:=hx
  have hsub:∀ y,y∈snapA off m xs→y∈xs:=fun y hy=>List.mem_of_mem_drop (List.mem_of_mem_take hy)
  refine⟨fun y hy=>h3 y (hsub y hy),?_⟩
  have hlen:(snapA off m xs).length=m:=by unfold snapA;simp;omega
  rcases q2 with ⟨rfl,ad,rfl⟩ | ⟨g,cap,rfl,k1,k2,k3,k4⟩
  ·exact .inl ⟨by simp[snapA],ad,0,rfl⟩
  ·rcases h5 with ⟨rfl,hn⟩ | ⟨g',cur,f1,f2,f3,f4,f5,f6⟩
   ·rw[hn]at k1;cases k1
   have:g'=g:=by rw[f1]at k1;exact Option.some.inj k1
   subst this
   have hty:∀ y,y∈xs→y.cells.length=k':=fun y hy=>(h3 y hy).1
   refine .inr ⟨g',off * k',cap,fun j=>cur.getD (off * k'+j) undef,by rw[hlen],by rw[hlen];exact k3,fun j c hj=>?_⟩
   have hj2:(flat xs)[off * k'+j]? = some c:=by
    unfold snapA at hj;rw[XI (k:=k') m (fun y hy=>hty y (List.mem_of_mem_drop hy)),XJ off hty,List.getElem?_take]at hj
    split at hj
    ·rw[List.getElem?_drop]at hj;exact hj
    ·cases hj
   have hlt:=(List.getElem?_eq_some_iff.1 hj2).1;rw[qW hty]at hlt
   have e1:cur[off * k'+j]? = some (cur.getD (off * k'+j) undef):=by
    have:off * k'+j<cur.size:=by omega
    simp[this]
   exact⟨by rw[f2.cell];exact e1,f6 _ _ _ hj2 e1⟩
 | _=>simp[content]at hc
theorem appendO_leads (h:Inv bs n M O env a w) {o:Oper} {args:Array Operand} {ats:Array TypeId} (ho:o.op=.call { callee:=.builtin .append,args:=args,argTypes:=ats })
  {x y:Operand} {t t' d id ex kx off m:Nat} {q:AV} (ha:args.toList=[x,y]) (ht:ats.toList=[t,t']) (hd:o.dst=some d) (hp:aop env x=some (.sb id ex kx off m)) (hq:aop env y=some q) {env':Env} (he:YH P n t t' d (.sb id ex kx off m) q env=some env'):Leads P bs n o a w env':=by
 have ea:args=#[x,y]:=by apply Array.ext';simpa using ha
 have et:ats=#[t,t']:=by apply Array.ext';simpa using ht
 subst ea;subst et;have hxv:=qm h hp;have hyv:=qm h hq;unfold YH at he
 split at he
 case h_2=>cases he
 rename_i e s hse;obtain⟨hu,hs⟩:=jI hse
 split at he
 ·cases he
 rename_i hc;simp only[Bool.and_eq_true]at hc;obtain⟨⟨hc1,hc2⟩,hc3⟩:=hc;have hc1:=Nat.eq_of_beq_eq_true hc1;subst hc1;have hc2:0<s:=Nat.le_of_ble_eq_true hc2
 obtain⟨ie,hie,hsz⟩:∃ ie,P.info? e=some ie∧ie.size=s:=by
  unfold tSize at hs
  cases hi:P.info? e with
  | none=>rw[hi]at hs;cases hs
  | some ie=>rw[hi]at hs;exact⟨ie,rfl,Option.some.inj hs⟩
 obtain⟨z,hz,hzs⟩:∃ z,ie.zero=some z∧z.cells.size=s:=by
  rw[hie]at hc3;simp only[Option.bind_some]at hc3
  cases hz:ie.zero with
  | none=>rw[hz]at hc3;cases hc3
  | some z=>rw[hz]at hc3;exact⟨z,rfl,Nat.eq_of_beq_eq_true hc3⟩
 simp only at he
 split at he
 case h_2=>cases he
 rename_i e' k' xs ky ys hl hcon
 split at he
 case h_2=>cases he
 rename_i hk;simp only[Bool.and_eq_true]at hk;obtain⟨⟨⟨⟨⟨⟨hk1,hk2⟩,hk3⟩,hk4⟩,hk5⟩,hk6⟩,hus,hbig⟩:=hk;have hbig:=Nat.le_of_ble_eq_true hbig;have hk1:=Nat.eq_of_beq_eq_true hk1;have hk2:=Nat.eq_of_beq_eq_true hk2;have hk3:=Nat.eq_of_beq_eq_true hk3;have hk4:=Nat.eq_of_beq_eq_true hk4;have hk5:=Nat.eq_of_beq_eq_true hk5;have hk6:=Nat.eq_of_beq_eq_true hk6;subst hk1;subst hk2;subst hk3;subst hk4;subst hk5;subst hk6
 split at he
 case h_2=>cases he
 rename_i hcl;simp only[Bool.and_eq_true]at hcl;obtain⟨⟨hcl,hdent⟩,hdn⟩:=hcl;have hdn:d<n:=Nat.le_of_ble_eq_true hdn
 split at he
 case isFalse=>cases he
 rename_i hb;cases he
 have hby:((P.info? e').map (·.bytes)).getD 0=ie.bytes:=by rw[hie];rfl
 rw[hby]at hb;obtain⟨hy1,hy2⟩:=content_sound h hyv hcon;obtain⟨h0,h3,h4,h5⟩:=h.slots id _ hl;obtain⟨q1,q2⟩:=hxv
 have hm:m≤xs.length:=by omega
 have hty:∀ z,z∈xs→z.cells.length=ky:=fun z hz=>(h3 z hz).1
 have hx':snapA 0 m xs=xs.take m:=by simp[snapA]
 have hlen:(snapA 0 m xs).length=m:=by rw[hx'];simp;omega
 have hyc:∀ y,y∈ys→y.cells.length=ky:=fun y hy=>(hy1 y hy).1
 obtain⟨news,hnl,hnv,hn1,hnr⟩:∃ news:List Value,news.length=ys.length * ky∧((a.eval y=.slice none 0 0∧ys.length=0)∨∃ ad c,a.eval y=.slice (some ad) ys.length c∧∀ (j:Nat) u,news[j]? = some u→w.cell? (ad.add j)=some u) ∧
   (∀ u∈news,u.oneCell'=true)∧∀ (j:Nat) c u,(flat ys)[j]? = some c→news[j]? = some u→R M c u:=by
  rcases hy2 with ⟨rfl,ad,c,e1⟩ | ⟨b,off,cap,us,e1,e2,e3⟩
  ·cases ad with
   | none =>
    refine⟨[],by simp,?_,by simp,by simp⟩;refine .inl ⟨?_,rfl⟩;have h1:=hyv;rw[e1]at h1 ⊢
    have:c=0:=by
     cases q with
     | lst e k l xs =>
      have h2:=h1.1
      cases h2 with
      | lstn=>rfl
     | sb id e k off m =>
      obtain⟨_,h2⟩:=h1
      rcases h2 with ⟨_,ad,h2⟩ | ⟨g,cap,h2,_⟩
      ·cases h2;rfl
      ·cases h2
     | _=>simp[content]at hcon
    rw[this]
   | some ad=>exact⟨[],by simp,.inr ⟨ad,c,e1,by simp⟩,by simp,by simp⟩
  ·have hfl:=qW hyc;refine⟨(List.range (ys.length * ky)).map us,by simp,.inr ⟨_,cap,e1,fun j u hu=>?_⟩,fun u hu=>?_,fun j c u hc hu=>?_⟩
   ·rw[Jd]at hu
    split at hu
    ·rename_i hj;cases hu;rw[JJ];exact (e3 j _ (List.getElem?_eq_getElem (by rw[hfl];exact hj))).1
    ·cases hu
   ·obtain⟨j,hj,rfl⟩:=List.mem_map.1 hu;have hj:j<ys.length * ky:=List.mem_range.1 hj;have hf:=List.getElem?_eq_getElem (l:=flat ys) (i:=j) (by rw[hfl];exact hj);refine (e3 j _ hf).2.one ?_;have hmem:=List.mem_of_getElem? hf;unfold flat at hmem;obtain⟨y,hy,hcy⟩:=List.mem_flatMap.1 hmem;have:=(hy1 y hy).2;rw[List.all_eq_true]at this;exact this _ hcy
   ·rw[Jd]at hu
    split at hu
    ·cases hu;exact (e3 j c hc).2
    ·cases hu
 have hexec:∀ v' w',(Builtin.append_ #[t,t] o.type #[a.eval x,a.eval y]).run P w=.ok v' w'→(execOp a.eval o).run P w=.ok (.value v') w':=by
  intro v' w' hr;unfold execOp;rw[ho];simp only[resolve,invoke,builtin,Sem.run_bind,Sem.run_pure,Result.andThen_ok,List.map_toArray,List.map_cons,List.map_nil,hr]
 have hxs:∀ z,z∈snapA 0 m xs++ys→z.cells.length=ky∧z.cells.all AV.one=true:=by
  intro z hz
  rcases List.mem_append.1 hz with hz | hz
  ·rw[hx']at hz;exact h3 z (List.mem_of_mem_take hz)
  ·exact hy1 z hz
 have h1:=h.forget (s:=id) hus
 have hdent':∀ z,look (forget id env) d=some z→z.ent=false:=by
  intro z hz;obtain⟨_,y,hy,rfl⟩:=Xs hz
  cases hk:(killRef id y).ent with
  | false=>rfl
  | true =>
   have:=killRef_ent hk;rw[hy]at hdent
   cases y <;> first | (cases this;done) | (cases hdent;done)
 have hflx:(flat (snapA 0 m xs)).length=m * ky:=by
  rw[qW (fun z hz=>(hxs z (List.mem_append_left _ hz)).1),hlen]
 have hflat0:flat (snapA 0 m xs)=(flat xs).take (m * ky):=by rw[hx',XI m hty]
 obtain⟨olds,hol,hsv,hro⟩:∃ olds:List Value,olds.length=m * ky∧((m=0∧∃ ad,a.eval x=.slice ad 0 0)∨∃ g cap cur,a.eval x=.slice (some ⟨g,0,none⟩) m cap∧w.heap[g]? = some (.cells cur e' (0,0))∧cur.size=cap * ky∧m≤cap∧cap≤maxLen∧cur.toList.take (m * ky)=olds∧O true id=some g∧∀ o,M g o=none) ∧
   ∀ (j:Nat) c u,(flat (snapA 0 m xs))[j]? = some c→olds[j]? = some u→R M c u:=by
  rcases q2 with ⟨rfl,ad,e1⟩ | ⟨g,cap,e1,k1,k2,k3,k4⟩
  ·exact⟨[],by simp,.inl ⟨rfl,ad,e1⟩,by simp⟩
  ·rcases h5 with ⟨rfl,hn⟩ | ⟨g',cur,f1,f2,f3,f4,f5,f6⟩
   ·rw[hn]at k1;cases k1
   have f2:=f2.plain hbig
   have:g'=g:=by rw[f1]at k1;exact Option.some.inj k1
   subst this
   have hsz2:cur.size=cap * ky:=by rw[f3,k2,Nat.zero_add]
   have hle:m * ky≤cur.size:=by rw[hsz2];exact Nat.mul_le_mul_right _ k3
   refine⟨cur.toList.take (m * ky),by simp;omega,.inr ⟨g',cap,cur,by simpa using e1,f2,hsz2,k3,by omega,rfl,f1,f5⟩,fun j c u hc hu=>?_⟩;rw[hflat0,List.getElem?_take]at hc;rw[List.getElem?_take]at hu
   split at hc
   ·rename_i hj;rw[if_pos hj]at hu;exact f6 j c u hc (by simpa using hu)
   ·cases hc
 have hcells:∀ (cur':Array Value),cur'.toList.take ((m+ys.length) * ky)=olds++news→∀ (j:Nat) c u,(flat (snapA 0 m xs++ys))[j]? = some c→cur'[j]? = some u→R M c u:=by
  intro cur' htk j c u hc hu;have hlt:=(List.getElem?_eq_some_iff.1 hc).1;rw[qW (fun z hz=>(hxs z hz).1),List.length_append,hlen]at hlt
  have hu2:(olds++news)[j]? = some u:=by
   rw[← htk,List.getElem?_take,if_pos hlt]
   simpa using hu
  rw[flat_append]at hc
  by_cases hj:j<m * ky
  ·rw[List.getElem?_append_left (by rw[hflx];exact hj)]at hc;rw[List.getElem?_append_left (by rw[hol];exact hj)]at hu2;exact hro j c u hc hu2
  ·rw[List.getElem?_append_right (by rw[hflx];omega),hflx]at hc;rw[List.getElem?_append_right (by rw[hol];omega),hol]at hu2;exact hnr _ c u hc hu2
 have hxl:(snapA 0 m xs++ys).length=m+ys.length:=by rw[List.length_append,hlen]
 have fin3:∀ v' w',(Builtin.append_ #[t,t] o.type #[a.eval x,a.eval y]).run P w=.ok v' w'→(∃ cap cur',v'=.slice (some ⟨w.heap.size,0,none⟩) (m+ys.length) cap∧w'=w.drew.alloc (.cells cur' e')∧cur'.size=cap * ky∧m+ys.length≤cap∧cap≤maxLen∧cur'.toList.take ((m+ys.length) * ky)=olds++news) →
   Leads P bs n o a w (ins (1000000+d) (.obj e' ky (snapA 0 m xs++ys)) (ins d (.sb (1000000+d) e' ky 0 (snapA 0 m xs++ys).length) (forget id env))):=by
  rintro v' w' hrun ⟨cap,cur',rfl,rfl,r5,r6,r7,r8⟩
  have h2:=h1.grown (row:=none) (M':=M) (w':=w.drew.alloc (.cells cur' e')) (fun k hk=>by cases hk) ⟨rfl,rfl,rfl,by simp,fun k hk _=>heap_alloc_old w.drew _ hk⟩ (Sub.refl M) (fun b o u hu=>by
   have hb:=mc_lt (h.cons b o u hu);rw[Qk (w:=w) (heap_alloc_old w.drew _ hb)]
   exact h.cons b o u hu) (fun b o _ _=>rfl)
  obtain⟨O',hfin⟩:=h2.newRow (d:=d) (e:=e') (k:=ky) (cap:=cap) (g:=w.heap.size) (cur:=cur') (xs:=snapA 0 m xs++ys) (v:=.slice (some ⟨w.heap.size,0,none⟩) (m+ys.length) cap) hdn hdent' hcl hc2 hxs
   (.inr ⟨by rw[hxl],h.fresh (Nat.le_refl _),by simp,fun i c hh=>by have:=(h1.own i c _ hh).2;omega,heap_alloc_new w.drew _,r5,by rw[hxl];exact r6,r7,fun o=>JY h.cons (Nat.le_refl _) o,hcells cur' r8⟩)
  exact⟨_,_,M,O',.inl (hexec _ _ hrun),by rw[hd];exact hfin⟩
 have fin1:∀ v',(Builtin.append_ #[t,t] o.type #[a.eval x,a.eval y]).run P w=.ok v' w→m+ys.length=0→(∃ ad,v'=.slice ad 0 0) →
   Leads P bs n o a w (ins (1000000+d) (.obj e' ky (snapA 0 m xs++ys)) (ins d (.sb (1000000+d) e' ky 0 (snapA 0 m xs++ys).length) (forget id env))):=by
  rintro v' hrun hz0 ⟨ad,rfl⟩
  have hnil:snapA 0 m xs++ys=[]:=List.eq_nil_of_length_eq_zero (by omega);obtain⟨O',hfin⟩:=h1.newRow (d:=d) (e:=e') (k:=ky) (cap:=0) (g:=0) (cur:=#[]) (xs:=snapA 0 m xs++ys) (v:=.slice ad 0 0) hdn hdent' hcl hc2 hxs (.inl ⟨hnil,ad,rfl⟩);exact⟨_,_,M,O',.inl (hexec _ _ hrun),by rw[hd];exact hfin⟩
 rcases hsv with ⟨hm0,ad,e1⟩ | ⟨g',cap',cur1,e1,e2,e3,e4,e5,e6,e7,e8⟩
 ·have ho0:olds=[]:=List.eq_nil_of_length_eq_zero (by rw[hol,hm0,Nat.zero_mul]);obtain⟨v',w',hrun,hways⟩:=append_ways0 (w:=w) (P:=P) (t:=t) (e:=e') (i:=ie) (z:=z) (s:=ky) (ad:=ad) o.type hu hie hz hsz hc2 hzs (yv:=a.eval y) hnl hnv hn1 (by rw[← hm0];exact hb.1) (by rw[← hm0];exact hb.2);rw[← e1]at hrun
  rcases hways with ⟨hz0,hv,rfl⟩ | hw
  ·exact fin1 v' hrun (by omega) hv
  ·refine fin3 v' w' hrun ?_;rw[hm0,ho0];exact hw
 ·obtain⟨v',w',hrun,hways⟩:=append_ways (w:=w) (P:=P) (t:=t) (e:=e') (i:=ie) (z:=z) (s:=ky) o.type hu hie hz hsz hc2 hzs (sv:=a.eval x) (yv:=a.eval y) hol hnl
   (.inr ⟨g',cap',cur1,e1,e2,e3,e4,e5,e6⟩) hnv hn1 hb.1 hb.2
  rcases hways with ⟨hv,hz0,rfl⟩ | ⟨g,cap,cur,cur',r1,r2,rfl,rfl,r5,r6,r7,r8⟩ | hw
  ·exact fin1 v' hrun hz0 ⟨none,hv⟩
  ·rw[e1]at r1;cases r1;obtain⟨hgD,hgs⟩:=h.own true id g' e7
   have hnoO:∀ i c,(setO O true id none) i c≠some g':=by
    intro i c hh;rw[jx]at hh
    split at hh
    ·cases hh
    ·rename_i hne;exact hne (h.inj _ _ _ _ g' hh e7)
   have h2:=h1.grown (row:=some g') (M':=M) (w':=w.setRow g' cur') (fun k hk=>by cases hk;exact⟨hgD,hnoO⟩) (Qa w g' cur') (Sub.refl M) (fun b o u hu=>by
    have hb:=mc_lt (h.cons b o u hu)
    have hne:b≠g':=fun e=>by subst e;rw[e8]at hu;cases hu
    rw[Qk ((Qa w g' cur').block b hb (fun e=>hne (Option.some.inj e)))]
    exact h.cons b o u hu) (fun b o _ _=>rfl)
   obtain⟨O',hfin⟩:=h2.newRow (d:=d) (e:=e') (k:=ky) (cap:=cap') (g:=g') (cur:=cur') (xs:=snapA 0 m xs++ys) (v:=.slice (some ⟨g',0,none⟩) (m+ys.length) cap') hdn hdent' hcl hc2 hxs
    (.inr ⟨by rw[hxl],hgD,by simpa using hgs,hnoO,setRow_heap w g' cur cur' e' _ r2,r5,by rw[hxl];exact r6,r7,e8,hcells cur' r8⟩)
   exact⟨_,_,M,O',.inl (hexec _ _ hrun),by rw[hd];exact hfin⟩
  ·exact fin3 v' w' hrun hw
theorem append_leads (h:Inv bs n M O env a w) {o:Oper} {args:Array Operand} {ats:Array TypeId} (ho:o.op=.call { callee:=.builtin .append,args:=args,argTypes:=ats }) {env':Env} (he:astep P n o env=some env'):Leads P bs n o a w env' :=
 append_leads' h ho he fun x y t t' d id ex kx off m q ha ht hd hp hq he=>appendO_leads h ho ha ht hd hp hq he
end
end Go.AM
