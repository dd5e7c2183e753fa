/- s -/
import Derived.Test.YtdghpfejmlpjhaaASimH
set_option linter.unusedVariables false
set_option linter.unusedSimpArgs false
namespace Go.AM
open Go.RowKit
section
variable {bs:Base} {n:Nat} {M:Mem} {O:Gh} {env:Env} {a:Act} {w:World} {P:Program}
theorem XW {s:Nat} (h:usable s=true):¬ (2000000≤s∧s<3000000):=by
 unfold usable at h;simp only[Bool.or_eq_true]at h
 rcases h with h | h
 ·have:s<2000000:=Nat.le_of_ble_eq_true h;omega
 ·have:=Nat.le_of_ble_eq_true h;omega
theorem JP {s t:Nat} {x:AV}:∀ {env:Env},look (env.filter fun p=>!Nat.beq p.1 s) t=some x→t≠s∧look env t=some x
 | [],h=>by simp[look]at h
 | (k,y)::r,h=>by
  simp only[List.filter_cons]at h
  split at h
  ·rename_i hk;simp only[look]at h ⊢
   split at h
   ·rename_i hb;have:=Nat.eq_of_beq_eq_true hb;subst this;refine⟨fun e=>?_,h⟩;subst e
    simp at hk
   ·exact JP h
  ·rename_i hk;obtain⟨h1,h2⟩:=JP h;refine⟨h1,?_⟩;simp only[look]
   split
   ·rename_i hb;have:=Nat.eq_of_beq_eq_true hb;subst this;exfalso
    simp at hk
    exact h1 hk
   ·exact h2
theorem Xt {s t:Nat} {x:AV} (h:look (forget s env) t=some x):t≠s∧∃ y,look env t=some y∧x=killRef s y:=by
 unfold forget at h;rw[XC (killRef s)]at h
 cases hy:look (env.filter fun p=>!Nat.beq p.1 s) t with
 | none=>rw[hy]at h;cases h
 | some y =>
  rw[hy]at h;obtain⟨h1,h2⟩:=JP hy;exact⟨h1,y,h2,(Option.some.inj h).symm⟩
theorem Inv.dropO (h:Inv bs n M O env a w) {s:Nat} (hu:usable s=true) {env':Env} (hl:∀ t x,look env' t=some x→∃ y,look env t=some y∧x=killRef s y∧(x.ent=true→t≠s)):Inv bs n M (setO O true s none) env' a w:=by
 have hsub:∀ i c g,(setO O true s none) i c=some g→O i c=some g:=by
  intro i c g hg;rw[jL]at hg
  split at hg
  ·cases hg
  ·exact hg
 refine⟨h.size,h.defers,h.below,h.hB,h.cons,h.ext,h.old,fun i c g hg=>h.own i c g (hsub i c g hg),fun i i' c c' g h1 h2=>h.inj i i' c c' g (hsub _ _ _ h1) (hsub _ _ _ h2),⟨h.fix.1,fun c k1 k2=>?_⟩,fun t x hx=>?_⟩
 ·obtain⟨e1,e2,e3⟩:=h.fix.2 c k1 k2
  have hne:c≠s:=fun e=>XW hu ⟨by omega,by omega⟩
  exact⟨(jk (O:=O) (v:=none) hne).1.trans e1,e2,e3⟩
 ·obtain⟨y,h1,rfl,h2⟩:=hl t x hx
  refine ((h.slots t y h1).kill s).change2 (Sub.refl M) (fun he=>jk (h2 he)) (fun c hc=>jk fun e=>?_) (fun g _ _=>⟨rfl,fun _ hm=>hm⟩) fun c g hg=>⟨by simp[jL,hg],rfl,fun _ hm=>hm⟩
  rw[e,Yi]at hc;cases hc
theorem Inv.forget (h:Inv bs n M O env a w) {s:Nat} (hu:usable s=true):Inv bs n M (setO O true s none) (forget s env) a w:=by
 refine h.dropO hu fun t x hx=>?_
 obtain⟨h1,y,h2,h3⟩:=Xt hx;exact⟨y,h2,h3,fun _=>h1⟩
def setR (O:Gh) (t:Nat) (v:Option Nat) (len siz:Nat):Gh :=
 ⟨fun i c=>if i=true∧c=t then v else O.o i c,fun c=>if c=t then len else O.len c,fun c=>if c=t then siz else O.siz c⟩
theorem Ji (O:Gh) (t:Nat) (v:Option Nat) (len siz:Nat) (i:Bool) (c:Nat):(setR O t v len siz).o i c=if i=true∧c=t then v else O.o i c:=rfl
theorem YI {O:Gh} {d t len siz:Nat} {v:Option Nat} (h:t≠d):Gh.Eq1 O (setR O d v len siz) t:=⟨by simp[Ji,h],by simp[setR,h],by simp[setR,h]⟩
theorem Inv.claim (h:Inv bs n M O env a w) {t:Nat} (hc:∀ s x,look env s=some x→x.refs t=false) (ht:t<2000000) (v:Option Nat) (len siz:Nat) {x:AV}
  (hv:∀ g,v=some g→¬ bs.D g∧g<w.heap.size∧∀ i c,O i c=some g→i=true∧c=t) (hx:Sat (setR O t v len siz) M w t x (a.tmps.getD t undef)):Inv bs n M (setR O t v len siz) (ins t x env) a w:=by
 refine⟨h.size,h.defers,h.below,h.hB,h.cons,h.ext,h.old,?_,?_,⟨h.fix.1,fun c k1 k2=>?_⟩,?_⟩
 ·intro i c g hg;rw[Ji]at hg
  split at hg
  ·exact⟨(hv g hg).1,(hv g hg).2.1⟩
  ·exact h.own i c g hg
 ·intro i i' c c' g hg hg';rw[Ji]at hg hg'
  split at hg <;> split at hg'
  ·rename_i e1 e2;exact⟨e1.1.trans e2.1.symm,e1.2.trans e2.2.symm⟩
  ·rename_i e1 e2;exact absurd ((hv g hg).2.2 i' c' hg') e2
  ·rename_i e1 e2;exact absurd ((hv g hg').2.2 i c hg) e1
  ·exact h.inj i i' c c' g hg hg'
 ·obtain⟨e1,e2,e3⟩:=h.fix.2 c k1 k2
  have hne:c≠t:=by omega
  obtain⟨f1,f2,f3⟩:=YI (O:=O) (v:=v) (len:=len) (siz:=siz) hne;exact⟨f1.trans e1,f2.trans e2,f3.trans e3⟩
 ·intro s y hy;rw[qS]at hy
  by_cases hst:s=t
  ·subst hst;rw[if_pos rfl]at hy;cases hy;exact hx
  ·rw[if_neg hst]at hy
   refine (h.slots s y hy).change2 (Sub.refl M) (fun _=>YI hst) (fun c hcc=>YI fun e=>?_) (fun g _ _=>⟨rfl,fun _ hm=>hm⟩) fun c g hg=>⟨by simp[Ji,hg],rfl,fun _ hm=>hm⟩
   rw[e,hc s y hy]at hcc;cases hcc
theorem qbj {z:List AV} {s:Nat} (hz:z.length=s) (h1:z.all AV.one=true):(elemOf z s).cells=z:=by
 unfold elemOf
 split
 ·rename_i x
  have:x.one=true:=by simpa using h1
  exact XT this
 ·rfl
theorem QQ {t d:Nat} {x y:AV} (h:t≠d) (env:Env) (s:Nat):look (ins t x (ins d y env)) s=look (ins d y (ins t x env)) s:=by
 simp only[qS]
 by_cases h1:s=t
 ·subst h1;simp[h]
 ·simp[h1]
theorem Inv.looks (h:Inv bs n M O env a w) {env':Env} (he:∀ s,look env' s=look env s):Inv bs n M O env' a w :=
 h.sub fun t x hx=>.inl (by rw[← he];exact hx)
theorem Inv.newRow (h:Inv bs n M O env a w) {d e k cap g:Nat} (hd:d<n) (hdent:∀ x,look env d=some x→x.ent=false) (hc:clearOf (1000000+d) env=true) {xs:List AV} {v:Value} {cur:Array Value} (hk:0<k)
  (hxs:∀ x,x∈xs→x.cells.length=k∧x.cells.all AV.one=true)
  (hv:(xs=[]∧∃ ad,v=.slice ad 0 0)∨(v=.slice (some ⟨g,0,none⟩) xs.length cap∧¬ bs.D g∧g<w.heap.size∧(∀ i c,O i c≠some g)∧w.heap[g]? = some (.cells cur e (0,0))∧cur.size=cap * k∧xs.length≤cap∧cap≤maxLen∧(∀ o,M g o=none) ∧
   ∀ (j:Nat) c u,(flat xs)[j]? = some c→cur[j]? = some u→R M c u)) :
  ∃ O',Inv bs n M O' (ins (1000000+d) (.obj e k xs) (ins d (.sb (1000000+d) e k 0 xs.length) env)) (a.put (some d) v) w:=by
 obtain⟨c1,c2⟩:=jO hc;have hn:=h.fix.1
 have hne:1000000+d≠d:=by omega
 rcases hv with ⟨rfl,ad,rfl⟩ | ⟨rfl,k1,k2,k3,k4,k5,k6,k7,k8,k9⟩
 ·refine⟨setR O (1000000+d) none 0 0,?_⟩;have h1:=h.claim (t:=1000000+d) (x:=.obj e k []) c2 (by omega) none 0 0 (fun g e=>by cases e) ⟨hk,hxs,by simp[setR],.inl ⟨rfl,by simp[Ji]⟩⟩;have h2:=h1.put (d:=d) (x:=.sb (1000000+d) e k 0 0) (v:=.slice ad 0 0) hd ⟨by simp,.inl ⟨rfl,ad,rfl⟩⟩
  exact h2.looks fun s=>QQ hne env s
 ·refine⟨setR O (1000000+d) (some g) xs.length cur.size,?_⟩;have h1:=h.claim (t:=1000000+d) (x:=.obj e k xs) c2 (by omega) (some g) xs.length cur.size (fun g' e=>by cases e;exact⟨k1,k2,fun i c hh=>absurd hh (k3 i c)⟩)
   ⟨hk,hxs,by simp[setR],.inr ⟨g,cur,by simp[Ji],RowAt.of k4,by simp[setR],by rw[k5];exact Nat.mul_le_mul_right _ k6,k8,k9⟩⟩
  have h2:=h1.put (d:=d) (x:=.sb (1000000+d) e k 0 xs.length) (v:=.slice (some ⟨g,0,none⟩) xs.length cap) hd ⟨by simp[setR],.inr ⟨g,cap,by simp,by simp[Ji],by simp[setR,k5],k6,by simpa using k7⟩⟩
  exact h2.looks fun s=>QQ hne env s
theorem YC {d:Nat} {x:AV} {env env':Env} (he:eput n (some d) x env=some env'):d<n∧env'=ins d x env∧∀ y,look env d=some y→y.ent=false:=by
 unfold eput at he;simp only at he
 split at he
 ·rename_i hc;cases he;simp only[Bool.and_eq_true]at hc;refine⟨Nat.le_of_ble_eq_true hc.1,rfl,fun y hy=>?_⟩;rw[hy]at hc
  cases y <;> first | rfl | cases hc.2
 ·cases he
theorem Hi (h:Inv bs n M O env a w) {o:Oper} {t:TypeId} {l c:Operand} (ho:o.op=.makeSlice t l c) {env':Env} (he:astep P n o env=some env'):Leads P bs n o a w env':=by
 unfold astep at he;rw[ho]at he;simp only at he
 split at he
 case h_2=>cases he
 rename_i d k1 m k2 m' e s hd hl hcc hse;obtain⟨hu,hs⟩:=jK hse
 split at he
 case h_2=>cases he
 rename_i z hz hcl;simp only[Bool.and_eq_true]at hcl;obtain⟨hcl,hs0⟩:=hcl;have hs0:0<s:=Nat.le_of_ble_eq_true hs0
 split at he
 case h_2=>cases he
 rename_i hzl;simp only[Bool.and_eq_true]at hzl;obtain⟨hz1,hz2⟩:=hzl;have hz1:=Nat.eq_of_beq_eq_true hz1
 split at he
 case isFalse=>cases he
 rename_i hb;obtain⟨rfl,b1,b2,b3⟩:=hb;rw[Option.map_eq_some_iff]at he;obtain⟨env1,he1,rfl⟩:=he;rw[hd]at he1;obtain⟨hdn,rfl,hdent⟩:=YC he1;have e1:=(qo h hl).1.int_inv;have e2:=(qo h hcc).1.int_inv;obtain⟨it,zv,hi,hzz,hzr,hzo⟩:=JR (M:=M) hz
 have hsz:it.size=s:=by
  unfold tSize at hs;rw[hi]at hs;exact Option.some.inj hs
 have hby:((P.info? e).map (·.bytes)).getD 0=it.bytes:=by rw[hi];rfl
 rw[hby]at b2;obtain⟨q,rfl⟩:∃ q:Nat,m=q:=⟨m.toNat,by omega⟩
 have hb2:(it.bytes:Int) * q≤281474976710656:=by rw[Int.mul_comm];exact b2
 have hrun:=run_make (P:=P) w t e it zv hu hi hzz k1 k2 (q:Int) (q:Int) b1 (Int.le_refl _) hb2 b3;simp only[Int.toNat_natCast,hsz]at hrun
 have hex:(execOp a.eval o).run P w=.ok (.value (.slice (some ⟨w.heap.size,0,none⟩) q q)) (w.alloc (.cells (madeCells zv.cells (q * s)) e)):=by
  have:execOp a.eval o=vS (Instr.makeSlice t (a.eval l) (a.eval c)):=by unfold execOp;rw[ho];rfl
  rw[this,e1,e2];exact ZK hrun
 have h':=h.grown (row:=none) (fun g e=>by cases e) (World.grownBy_alloc w (.cells (madeCells zv.cells (q * s)) e) none) (Sub.refl M) (XS h.cons _) (fun b o _ _=>rfl);have hzc:=qbj hz1 hz2
 have hty:∀ x,x∈List.replicate q (elemOf z s)→x.cells.length=s∧x.cells.all AV.one=true:=by
  intro x hx;have:=List.eq_of_mem_replicate hx;subst this;rw[hzc];exact⟨hz1,hz2⟩
 obtain⟨O',hfin⟩:=h'.newRow (d:=d) (e:=e) (k:=s) (cap:=q) (g:=w.heap.size) (xs:=List.replicate q (elemOf z s)) (v:=.slice (some ⟨w.heap.size,0,none⟩) q q) (cur:=madeCells zv.cells (q * s)) hdn hdent hcl hs0 hty
  (.inr ⟨by simp,h.fresh (Nat.le_refl _),by simp,fun i c hg=>by have:=(h.own i c _ hg).2;omega,heap_alloc_new w _,size_madeCells _ _,by simp,by unfold maxLen;omega,fun o=>Qf h.cons (Nat.le_refl _) o,fun j cc u hj huu=>by
   have hlt:=(List.getElem?_eq_some_iff.1 hj).1;have hfl:=qW (fun x hx=>(hty x hx).1);rw[hfl]at hlt;simp only[List.length_replicate]at hlt;have hd1:j / s<q:=Nat.div_lt_of_lt_mul (by rw[Nat.mul_comm];exact hlt);have hm1:j % s<s:=Nat.mod_lt _ hs0;have hg:=QI (fun x hx=>(hty x hx).1) (i:=j / s) (x:=elemOf z s) (by simp[hd1]) (j % s) hm1
   have e3:j / s * s+j % s=j:=by rw[Nat.mul_comm];exact Nat.div_add_mod j s
   rw[e3,hj,hzc]at hg
   have hzs:zv.cells.size=s:=by rw[← hzr.1,hz1]
   have hu2:zv.cells[j % s]? = some u:=by
    unfold madeCells at huu;simp only[Array.getElem?_map,Array.getElem?_range,hlt,if_true,Option.map_some,Option.some.injEq,hzs]at huu
    have:j % s<zv.cells.size:=by omega
    rw[getElem!_pos zv.cells (j % s) this]at huu;rw[← huu];exact Array.getElem?_eq_getElem this
   exact hzr.2 _ _ _ hg.symm hu2⟩)
 refine⟨_,_,M,O',.inl hex,?_⟩;rw[hd]
 simpa using hfin
end
end Go.AM
