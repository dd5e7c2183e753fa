import Derived.Test.YtdghpfejmlpjhaaASimH
import Derived.Still
set_option linter.all false
set_option maxRecDepth 100000
open Nat renaming beq→A0, eq_of_beq_eq_true→A3, le_refl→A4, ble→A5, le_of_ble_eq_true→A7, zero_add→D0, blt→D7, ble_eq→E9, lt_add_of_pos_left→G5
open List renaming map→A1, replicate→A6, getElem?_map→A8, drop_drop→C0, all_eq_true→C7, getElem?_append_left→D1, getElem?_take→D4, mem_of_getElem?→D5, length→D6, mem_of_mem_drop→D8, range→D9, length_append→E7, getElem?_append_right→E8, mem_of_mem_take→F7, getElem?_eq_getElem→F8, drop_length→G3, eq_nil_of_length_eq_zero→G4
open Bool renaming and_eq_true→A2, noConfusion→A9
open Option renaming map_eq_some_iff→B1, map_some→D3
open Go.World renaming grownBy_alloc→D2
open Go.Sem renaming run_bind→E0, run_pure→F9
open Prod renaming fst→F6
open Go.Result renaming andThen_ok→G0
open Go.MapKept renaming run_getObj_map→G1, run_setObj_map→G6
open Go.IntKind renaming wrap→G2
open Array renaming getElem?_push→G7, getElem?_modify→G8
namespace Go.AM
open Go.RowKit
variable {d s t:Nat} {x:AV} {env':Env}
section
variable {bs:Base} {n:Nat} {M:Mem} {O:Gh} {env:Env} {a:Act} {w:World} {P:Program}
theorem Ut (h:usable s=true):¬ (2000000<=s/\s<3000000):=by
 unfold usable at h;simp only[Bool.or_eq_true]at h
 rcases h with h | h
 .have:s<2000000:=A7 h;omega
 have:=A7 h;omega
theorem QM {s t:Nat} {x:AV}:∀ {env:Env},look (env.filter fun p=>!A0 p.1 s) t=some x->t≠s/\look env t=some x
 | [],h=>by simp[look]at h
 | (k,y)::r,h=>by
  simp only[List.filter_cons]at h;split at h
  .rename_i hk;simp only[look]at h ⊢;split at h
   .rename_i hb;have:=A3 hb;subst this;refine⟨fun e=>?_,h⟩;subst e;simp at hk
   exact QM h
  rename_i hk;obtain⟨h1,h2⟩:=QM h;refine⟨h1,?_⟩;simp only[look];split
  .rename_i hb;have:=A3 hb;subst this;exfalso;simp at hk;exact h1 hk
  exact h2
theorem Vn (h:look (forget s env) t=some x):t≠s/\∃ y,look env t=some y/\x=killRef s y:=by
 unfold forget at h;rw[ZC (killRef s)]at h
 cases hy:look (env.filter fun p=>!A0 p.1 s) t with
 | none=>rw[hy]at h;cases h
 | some y =>
  rw[hy]at h;obtain⟨h1,h2⟩:=QM hy;exact⟨h1,y,h2,(Option.some.inj h).symm⟩
theorem Inv.dropO (h:Inv bs n M O env a w) (hu:usable s=true) (hl:∀ t x,look env' t=some x->∃ y,look env t=some y/\x=killRef s y/\(x.ent=true->t≠s)):Inv bs n M (setO O true s none) env' a w:=by
 have hsub:∀ i c g,(setO O true s none) i c=some g->O i c=some g:=by
  intro i c g hg;rw[Jn]at hg;split at hg
  .cases hg
  exact hg
 refine⟨h.size,h.defers,h.below,h.hB,h.cons,h.ext,h.old,fun i c g hg=>h.own i c g (hsub i c g hg),fun i i' c c' g h1 h2=>h.inj i i' c c' g (hsub _ _ _ h1) (hsub _ _ _ h2),⟨h.fix.1,fun c k1 k2=>?_⟩,fun t x hx=>?_⟩
 .obtain⟨e1,e2,e3⟩:=h.fix.2 c k1 k2
  have hne:c≠s:=fun e=>Ut hu ⟨by omega,by omega⟩
  exact⟨(jF (O:=O) (v:=none) hne).1.trans e1,e2,e3⟩
 obtain⟨y,h1,rfl,h2⟩:=hl t x hx
 refine ((h.slots t y h1).kill s).change2 (Sub.refl M) (fun he=>jF (h2 he)) (fun c hc=>jF fun e=>?_) (fun g _ _=>⟨rfl,fun _ hm=>hm⟩) fun c g hg=>⟨by simp[Jn,hg],rfl,fun _ hm=>hm⟩
 rw[e,Nm]at hc;cases hc
theorem Inv.forget (h:Inv bs n M O env a w) {s:Nat} (hu:usable s=true):Inv bs n M (setO O true s none) (forget s env) a w:=by
 refine h.dropO hu fun t x hx=>?_
 obtain⟨h1,y,h2,h3⟩:=Vn hx;exact⟨y,h2,h3,fun _=>h1⟩
def setR (O:Gh) (t:Nat) (v:LP) (len siz:Nat):Gh :=
 ⟨fun i c=>if i=true/\c=t then v else O.o i c,fun c=>if c=t then len else O.len c,fun c=>if c=t then siz else O.siz c⟩
theorem Qv (O:Gh) (t:Nat) (v:LP) (len siz:Nat) (i:Bool) (c:Nat):(setR O t v len siz).o i c=if i=true/\c=t then v else O.o i c:=rfl
theorem Hp {O:Gh} {len siz:Nat} {v:LP} (h:t≠d):Gh.Eq1 O (setR O d v len siz) t:=⟨by simp[Qv,h],by simp[setR,h],by simp[setR,h]⟩
theorem Inv.claim (h:Inv bs n M O env a w) (hc:∀ s x,look env s=some x->x.refs t=false) (ht:t<2000000) (v:LP) (len siz:Nat) 
  (hv:∀ g,v=some g->¬ bs.D g/\g<w.heap.size/\∀ i c,O i c=some g->i=true/\c=t) (hx:Sat (setR O t v len siz) M w t x (a.tmps.getD t undef)):Inv bs n M (setR O t v len siz) (ins t x env) a w:=by
 refine⟨h.size,h.defers,h.below,h.hB,h.cons,h.ext,h.old,?_,?_,⟨h.fix.1,fun c k1 k2=>?_⟩,?_⟩
 .intro i c g hg;rw[Qv]at hg;split at hg
  .exact⟨(hv g hg).1,(hv g hg).2.1⟩
  exact h.own i c g hg
 .intro i i' c c' g hg hg';rw[Qv]at hg hg';split at hg <;> split at hg'
  .rename_i e1 e2;exact⟨e1.1.trans e2.1.symm,e1.2.trans e2.2.symm⟩
  .rename_i e1 e2;exact absurd ((hv g hg).2.2 i' c' hg') e2
  .rename_i e1 e2;exact absurd ((hv g hg').2.2 i c hg) e1
  exact h.inj i i' c c' g hg hg'
 .obtain⟨e1,e2,e3⟩:=h.fix.2 c k1 k2
  have hne:c≠t:=by omega
  obtain⟨f1,f2,f3⟩:=Hp (O:=O) (v:=v) (len:=len) (siz:=siz) hne;exact⟨f1.trans e1,f2.trans e2,f3.trans e3⟩
 intro s y hy;rw[jy]at hy;by_cases hst:s=t
 .subst hst;rw[if_pos rfl]at hy;cases hy;exact hx
 rw[if_neg hst]at hy
 refine (h.slots s y hy).change2 (Sub.refl M) (fun _=>Hp hst) (fun c hcc=>Hp fun e=>?_) (fun g _ _=>⟨rfl,fun _ hm=>hm⟩) fun c g hg=>⟨by simp[Qv,hg],rfl,fun _ hm=>hm⟩
 rw[e,hc s y hy]at hcc;cases hcc
theorem qfl {z:LM} (hz:z.length=s) (h1:z.all AV.one=true):(elemOf z s).cells=z:=by
 unfold elemOf;split
 .rename_i x
  have:x.one=true:=by simpa using h1
  exact ZZ this
 rfl
theorem ZA {y:AV} (h:t≠d) (env:Env) (s:Nat):look (ins t x (ins d y env)) s=look (ins d y (ins t x env)) s:=by
 simp only[jy];by_cases h1:s=t
 .subst h1;simp[h]
 simp[h1]
theorem Inv.looks (h:Inv bs n M O env a w) (he:∀ s,look env' s=look env s):Inv bs n M O env' a w :=
 h.sub fun t x hx=>.inl (by rw[<- he];exact hx)
theorem Inv.newRow (h:Inv bs n M O env a w) {e k cap g:Nat} (hd:d<n) (hdent:∀ x,look env d=some x->x.ent=false) (hc:clearOf (1000000+d) env=true) {xs:LM} {v:Value} {cur:LO} (hk:0<k)
  (hxs:∀ x,x∈xs->x.cells.length=k/\x.cells.all AV.one=true)
  (hv:(xs=[]/\∃ ad,v=.slice ad 0 0)\/(v=.slice (some ⟨g,0,none⟩) xs.length cap/\¬ bs.D g/\g<w.heap.size/\(∀ i c,O i c≠some g)/\w.heap[g]? = some (.cells cur e (0,0))/\cur.size=cap * k/\xs.length<=cap/\cap<=maxLen/\(∀ o,M g o=none) /\
   ∀ (j:Nat) c u,(flat xs)[j]? = some c->cur[j]? = some u->R M c u)) :
  ∃ O',Inv bs n M O' (ins (1000000+d) (.obj e k xs) (ins d (.sb (1000000+d) e k 0 xs.length) env)) (a.put (some d) v) w:=by
 obtain⟨c1,c2⟩:=JM hc;have hn:=h.fix.1
 have hne:1000000+d≠d:=by omega
 rcases hv with ⟨rfl,ad,rfl⟩ | ⟨rfl,k1,k2,k3,k4,k5,k6,k7,k8,k9⟩
 .refine⟨setR O (1000000+d) none 0 0,?_⟩;have h1:=h.claim (t:=1000000+d) (x:=.obj e k []) c2 oM none 0 0 (fun g e=>by cases e) ⟨hk,hxs,by simp[setR],.inl ⟨rfl,by simp[Qv]⟩⟩;have h2:=h1.put (d:=d) (x:=.sb (1000000+d) e k 0 0) (v:=.slice ad 0 0) hd ⟨by simp,.inl ⟨rfl,ad,rfl⟩⟩
  exact h2.looks fun s=>ZA hne env s
 refine⟨setR O (1000000+d) (some g) xs.length cur.size,?_⟩;have h1:=h.claim (t:=1000000+d) (x:=.obj e k xs) c2 oM (some g) xs.length cur.size (fun g' e=>by cases e;exact⟨k1,k2,fun i c hh=>absurd hh (k3 i c)⟩)
  ⟨hk,hxs,by simp[setR],.inr ⟨g,cur,by simp[Qv],RowAt.of k4,by simp[setR],by rw[k5];exact Nat.mul_le_mul_right _ k6,k8,k9⟩⟩
 have h2:=h1.put (d:=d) (x:=.sb (1000000+d) e k 0 xs.length) (v:=.slice (some ⟨g,0,none⟩) xs.length cap) hd ⟨by simp[setR],.inr ⟨g,cap,by simp,by simp[Qv],by simp[setR,k5],k6,by simpa using k7⟩⟩
 exact h2.looks fun s=>ZA hne env s
theorem Um {env:Env} (he:eput n (some d) x env=some env'):d<n/\env'=ins d x env/\∀ y,look env d=some y->y.ent=false:=by
 unfold eput at he;simp only at he;split at he
 .rename_i hc;cases he;simp only[A2]at hc;refine⟨A7 hc.1,rfl,fun y hy=>?_⟩;rw[hy]at hc
  cases y <;> first | rfl | cases hc.2
 cases he
theorem qbO (h:Inv bs n M O env a w) {o:Oper} {t:TypeId} {l c:Operand} (ho:o.op=.makeSlice t l c) (he:astep P n o env=some env'):Leads P bs n o a w env':=by
 unfold astep at he;rw[ho]at he;simp only at he;split at he
 case h_2=>cases he
 rename_i d k1 m k2 m' e s hd hl hcc hse;obtain⟨hu,hs⟩:=JF hse;split at he
 case h_2=>cases he
 rename_i z hz hcl;simp only[A2]at hcl;obtain⟨hcl,hs0⟩:=hcl;have hs0:0<s:=A7 hs0;split at he
 case h_2=>cases he
 rename_i hzl;simp only[A2]at hzl;obtain⟨hz1,hz2⟩:=hzl;have hz1:=A3 hz1;split at he
 case isFalse=>cases he
 rename_i hb;obtain⟨rfl,b1,b2,b3⟩:=hb;rw[B1]at he;obtain⟨env1,he1,rfl⟩:=he;rw[hd]at he1;obtain⟨hdn,rfl,hdent⟩:=Um he1;have e1:=(qv h hl).1.int_inv;have e2:=(qv h hcc).1.int_inv;obtain⟨it,zv,hi,hzz,hzr,hzo⟩:=XE (M:=M) hz
 have hsz:it.size=s:=by
  unfold tSize at hs;rw[hi]at hs;exact Option.some.inj hs
 have hby:((P.info? e).map (·.bytes)).getD 0=it.bytes:=by rw[hi];rfl
 rw[hby]at b2;obtain⟨q,rfl⟩:∃ q:Nat,m=q:=⟨m.toNat,by omega⟩
 have hb2:(it.bytes:Int) * q<=281474976710656:=by rw[Int.mul_comm];exact b2
 have hrun:=run_make (P:=P) w t e it zv hu hi hzz k1 k2 (q:Int) (q:Int) b1 (Int.le_refl _) hb2 b3;simp only[Int.toNat_natCast,hsz]at hrun
 have hex:(execOp a.eval o).run P w=.ok (.value (.slice (some ⟨w.heap.size,0,none⟩) q q)) (w.alloc (.cells (madeCells zv.cells (q * s)) e)):=by
  have:execOp a.eval o=vS (Instr.makeSlice t (a.eval l) (a.eval c)):=by unfold execOp;rw[ho];rfl
  rw[this,e1,e2];exact Nx hrun
 have h':=h.grown (row:=none) (fun g e=>by cases e) (D2 w (.cells (madeCells zv.cells (q * s)) e) none) (Sub.refl M) (ZY h.cons _) (fun b o _ _=>rfl);have hzc:=qfl hz1 hz2
 have hty:∀ x,x∈A6 q (elemOf z s)->x.cells.length=s/\x.cells.all AV.one=true:=by
  intro x hx;have:=List.eq_of_mem_replicate hx;subst this;rw[hzc];exact⟨hz1,hz2⟩
 obtain⟨O',hfin⟩:=h'.newRow (d:=d) (e:=e) (k:=s) (cap:=q) (g:=w.heap.size) (xs:=A6 q (elemOf z s)) (v:=.slice (some ⟨w.heap.size,0,none⟩) q q) (cur:=madeCells zv.cells (q * s)) hdn hdent hcl hs0 hty
  (.inr ⟨by simp,h.fresh (A4 _),by simp,fun i c hg=>by have:=(h.own i c _ hg).2;omega,heap_alloc_new w _,size_madeCells _ _,by simp,by unfold maxLen;omega,fun o=>Xw h.cons (A4 _) o,fun j cc u hj huu=>by
   have hlt:=(List.getElem?_eq_some_iff.1 hj).1;have hfl:=jE (fun x hx=>(hty x hx).1);rw[hfl]at hlt;simp only[List.length_replicate]at hlt;have hd1:j / s<q:=Nat.div_lt_of_lt_mul (by rw[Nat.mul_comm];exact hlt);have hm1:j % s<s:=Nat.mod_lt _ hs0;have hg:=YP (fun x hx=>(hty x hx).1) (i:=j / s) (x:=elemOf z s) (by simp[hd1]) (j % s) hm1
   have e3:j / s * s+j % s=j:=by rw[Nat.mul_comm];exact Nat.div_add_mod j s
   rw[e3,hj,hzc]at hg
   have hzs:zv.cells.size=s:=by rw[<- hzr.1,hz1]
   have hu2:zv.cells[j % s]? = some u:=by
    unfold madeCells at huu;simp only[Array.getElem?_map,Array.getElem?_range,hlt,if_true,D3,Option.some.injEq,hzs]at huu
    have:j % s<zv.cells.size:=by omega
    rw[getElem!_pos zv.cells (j % s) this]at huu;rw[<- huu];exact Array.getElem?_eq_getElem this
   exact hzr.2 _ _ _ hg.symm hu2⟩)
 refine⟨_,_,M,O',.inl hex,?_⟩;rw[hd]
 simpa using hfin
end
end Go.AM
namespace Go.AM
open Go.RowKit
variable {o:Oper} {args:Array Operand} {ats:Array TypeId}
section
variable {bs:Base} {n:Nat} {M:Mem} {O:Gh} {env:Env} {a:Act} {w:World} {P:Program}
theorem qdy (h:Inv bs n M O env a w) {x:AV} {v:Value} (hx:ValOk O M w x v) {k:Nat} {ys:LM} (hc:content env x=some (k,ys)) :
  (∀ y,y∈ys->y.cells.length=k/\y.cells.all AV.one=true)/\((ys=[]/\∃ ad c,v=.slice ad 0 c)\/∃ (b off cap:Nat) (us:Nat->Value),v=.slice (some ⟨b,off,none⟩) ys.length cap/\ys.length<=cap/\∀ (j:Nat) c,(flat ys)[j]? = some c->w.cell? ⟨b,off+j,none⟩=some (us j)/\R M c (us j)):=by
 cases x with
 | lst e k' l xs =>
  simp only[content,Option.some.injEq,Prod.mk.injEq]at hc;obtain⟨rfl,rfl⟩:=hc
  rcases hx.1.lst_inv with ⟨rfl,rfl | ⟨ad,cap,rfl⟩⟩ | ⟨b,off,cap,us,rfl,g1,g2,g3,g4,g5⟩
  .exact⟨by simp,.inl ⟨rfl,_,_,rfl⟩⟩
  .exact⟨by simp,.inl ⟨rfl,_,_,rfl⟩⟩
  exact⟨fun y hy=>⟨g2 y hy,g5 y hy⟩,.inr ⟨b,off,cap,us,rfl,g1,fun j c hj=>⟨Qg (h.cons _ _ _ (g3 j c hj)) (Yx ((g4 j c hj).one (UW g5 hj))),g4 j c hj⟩⟩⟩
 | sb id e k' off m =>
  simp only[content]at hc;split at hc
  case h_2=>cases hc
  rename_i e' k2 xs hl;split at hc
  case h_2=>cases hc
  rename_i hk;have hk:=A3 hk;subst hk;simp only[Option.some.injEq,Prod.mk.injEq]at hc;obtain⟨rfl,rfl⟩:=hc;obtain⟨h0,h3,h4,h5⟩:=h.slots id _ hl;obtain⟨q1,q2⟩:=hx
  have hsub:∀ y,y∈snapA off m xs->y∈xs:=fun y hy=>D8 (F7 hy)
  refine⟨fun y hy=>h3 y (hsub y hy),?_⟩
  have hlen:(snapA off m xs).length=m:=by unfold snapA;simp;omega
  rcases q2 with ⟨rfl,ad,rfl⟩ | ⟨g,cap,rfl,k1,k2,k3,k4⟩
  .exact .inl ⟨by simp[snapA],ad,0,rfl⟩
  rcases h5 with ⟨rfl,hn⟩ | ⟨g',cur,f1,f2,f3,f4,f5,f6⟩
  .rw[hn]at k1;cases k1
  have:g'=g:=by rw[f1]at k1;exact Option.some.inj k1
  subst this
  have hty:∀ y,y∈xs->y.cells.length=k':=fun y hy=>(h3 y hy).1
  refine .inr ⟨g',off * k',cap,fun j=>cur.getD (off * k'+j) undef,by rw[hlen],by rw[hlen];exact k3,fun j c hj=>?_⟩
  have hj2:(flat xs)[off * k'+j]? = some c:=by
   unfold snapA at hj;rw[VP (k:=k') m (fun y hy=>hty y (D8 hy)),ZS off hty,D4]at hj;split at hj
   .rw[List.getElem?_drop]at hj;exact hj
   cases hj
  have hlt:=(List.getElem?_eq_some_iff.1 hj2).1;rw[jE hty]at hlt
  have e1:cur[off * k'+j]? = some (cur.getD (off * k'+j) undef):=by
   have:off * k'+j<cur.size:=by omega
   simp[this]
  exact⟨by rw[f2.cell];exact e1,f6 _ _ _ hj2 e1⟩
 | _=>simp[content]at hc
theorem qdC (h:Inv bs n M O env a w) (ho:o.op=.call { callee:=.builtin .append,args:=args,argTypes:=ats })
  {x y:Operand} {t t' d id ex kx off m:Nat} {q:AV} (ha:args.toList=[x,y]) (ht:ats.toList=[t,t']) (hd:o.dst=some d) (hp:aop env x=some (.sb id ex kx off m)) (hq:aop env y=some q) {env':Env} (he:Us P n t t' d (.sb id ex kx off m) q env=some env'):Leads P bs n o a w env':=by
 have ea:args=#[x,y]:=by apply Array.ext';simpa using ha
 have et:ats=#[t,t']:=by apply Array.ext';simpa using ht
 subst ea;subst et;have hxv:=qv h hp;have hyv:=qv h hq;unfold Us at he;split at he
 case h_2=>cases he
 rename_i e s hse;obtain⟨hu,hs⟩:=JF hse;split at he
 .cases he
 rename_i hc;simp only[A2]at hc;obtain⟨⟨hc1,hc2⟩,hc3⟩:=hc;have hc1:=A3 hc1;subst hc1;have hc2:0<s:=A7 hc2
 obtain⟨ie,hie,hsz⟩:∃ ie,P.info? e=some ie/\ie.size=s:=by
  unfold tSize at hs
  cases hi:P.info? e with
  | none=>rw[hi]at hs;cases hs
  | some ie=>rw[hi]at hs;exact⟨ie,rfl,Option.some.inj hs⟩
 obtain⟨z,hz,hzs⟩:∃ z,ie.zero=some z/\z.cells.size=s:=by
  rw[hie]at hc3;simp only[Option.bind_some]at hc3
  cases hz:ie.zero with
  | none=>rw[hz]at hc3;cases hc3
  | some z=>rw[hz]at hc3;exact⟨z,rfl,A3 hc3⟩
 simp only at he;split at he
 case h_2=>cases he
 rename_i e' k' xs ky ys hl hcon;split at he
 case h_2=>cases he
 rename_i hk;simp only[A2]at hk;obtain⟨⟨⟨⟨⟨⟨hk1,hk2⟩,hk3⟩,hk4⟩,hk5⟩,hk6⟩,hus,hbig⟩:=hk;have hbig:=A7 hbig;have hk1:=A3 hk1;have hk2:=A3 hk2;have hk3:=A3 hk3;have hk4:=A3 hk4;have hk5:=A3 hk5;have hk6:=A3 hk6;subst hk1;subst hk2;subst hk3;subst hk4;subst hk5;subst hk6;split at he
 case h_2=>cases he
 rename_i hcl;simp only[A2]at hcl;obtain⟨⟨hcl,hdent⟩,hdn⟩:=hcl;have hdn:d<n:=A7 hdn;split at he
 case isFalse=>cases he
 rename_i hb;cases he
 have hby:((P.info? e').map (·.bytes)).getD 0=ie.bytes:=by rw[hie];rfl
 rw[hby]at hb;obtain⟨hy1,hy2⟩:=qdy h hyv hcon;obtain⟨h0,h3,h4,h5⟩:=h.slots id _ hl;obtain⟨q1,q2⟩:=hxv
 have hm:m<=xs.length:=by omega
 have hty:∀ z,z∈xs->z.cells.length=ky:=fun z hz=>(h3 z hz).1
 have hx':snapA 0 m xs=xs.take m:=by simp[snapA]
 have hlen:(snapA 0 m xs).length=m:=by rw[hx'];simp;omega
 have hyc:∀ y,y∈ys->y.cells.length=ky:=fun y hy=>(hy1 y hy).1
 obtain⟨news,hnl,hnv,hn1,hnr⟩:∃ news:LT,news.length=ys.length * ky/\((a.eval y=.slice none 0 0/\ys.length=0)\/∃ ad c,a.eval y=.slice (some ad) ys.length c/\∀ (j:Nat) u,news[j]? = some u->w.cell? (ad.add j)=some u) /\
   (∀ u∈news,u.oneCell'=true)/\∀ (j:Nat) c u,(flat ys)[j]? = some c->news[j]? = some u->R M c u:=by
  rcases hy2 with ⟨rfl,ad,c,e1⟩ | ⟨b,off,cap,us,e1,e2,e3⟩
  .cases ad with
   | none =>
    refine⟨[],by simp,?_,by simp,by simp⟩;refine .inl ⟨?_,rfl⟩;have h1:=hyv;rw[e1]at h1 ⊢
    have:c=0:=by
     cases q with
     | lst e k l xs =>
      have h2:=h1.1
      cases h2 with
      | lstn=>rfl
     | sb id e k off m =>
      obtain⟨_,h2⟩:=h1
      rcases h2 with ⟨_,ad,h2⟩ | ⟨g,cap,h2,_⟩
      .cases h2;rfl
      cases h2
     | _=>simp[content]at hcon
    rw[this]
   | some ad=>exact⟨[],by simp,.inr ⟨ad,c,e1,by simp⟩,by simp,by simp⟩
  have hfl:=jE hyc;refine⟨(D9 (ys.length * ky)).map us,by simp,.inr ⟨_,cap,e1,fun j u hu=>?_⟩,fun u hu=>?_,fun j c u hc hu=>?_⟩
  .rw[JV]at hu;split at hu
   .rename_i hj;cases hu;rw[QV];exact (e3 j _ (F8 (by rw[hfl];exact hj))).1
   cases hu
  .obtain⟨j,hj,rfl⟩:=List.mem_map.1 hu;have hj:j<ys.length * ky:=List.mem_range.1 hj;have hf:=F8 (l:=flat ys) (i:=j) (by rw[hfl];exact hj);refine (e3 j _ hf).2.one ?_;have hmem:=D5 hf;unfold flat at hmem;obtain⟨y,hy,hcy⟩:=List.mem_flatMap.1 hmem;have:=(hy1 y hy).2;rw[C7]at this;exact this _ hcy
  rw[JV]at hu;split at hu
  .cases hu;exact (e3 j c hc).2
  cases hu
 have hexec:∀ v' w',(Builtin.append_ #[t,t] o.type #[a.eval x,a.eval y]).run P w=.ok v' w'->(execOp a.eval o).run P w=.ok (.value v') w':=by
  intro v' w' hr;unfold execOp;rw[ho];simp only[resolve,invoke,builtin,E0,F9,G0,List.map_toArray,List.map_cons,List.map_nil,hr]
 have hxs:∀ z,z∈snapA 0 m xs++ys->z.cells.length=ky/\z.cells.all AV.one=true:=by
  intro z hz
  rcases List.mem_append.1 hz with hz | hz
  .rw[hx']at hz;exact h3 z (F7 hz)
  exact hy1 z hz
 have h1:=h.forget (s:=id) hus
 have hdent':∀ z,look (forget id env) d=some z->z.ent=false:=by
  intro z hz;obtain⟨_,y,hy,rfl⟩:=Vn hz
  cases hk:(killRef id y).ent with
  | false=>rfl
  | true =>
   have:=qgm hk;rw[hy]at hdent
   cases y <;> first | (cases this;done) | (cases hdent;done)
 have hflx:(flat (snapA 0 m xs)).length=m * ky:=by
  rw[jE (fun z hz=>(hxs z (List.mem_append_left _ hz)).1),hlen]
 have hflat0:flat (snapA 0 m xs)=(flat xs).take (m * ky):=by rw[hx',VP m hty]
 obtain⟨olds,hol,hsv,hro⟩:∃ olds:LT,olds.length=m * ky/\((m=0/\∃ ad,a.eval x=.slice ad 0 0)\/∃ g cap cur,a.eval x=.slice (some ⟨g,0,none⟩) m cap/\w.heap[g]? = some (.cells cur e' (0,0))/\cur.size=cap * ky/\m<=cap/\cap<=maxLen/\cur.toList.take (m * ky)=olds/\O true id=some g/\∀ o,M g o=none) /\
   ∀ (j:Nat) c u,(flat (snapA 0 m xs))[j]? = some c->olds[j]? = some u->R M c u:=by
  rcases q2 with ⟨rfl,ad,e1⟩ | ⟨g,cap,e1,k1,k2,k3,k4⟩
  .exact⟨[],by simp,.inl ⟨rfl,ad,e1⟩,by simp⟩
  rcases h5 with ⟨rfl,hn⟩ | ⟨g',cur,f1,f2,f3,f4,f5,f6⟩
  .rw[hn]at k1;cases k1
  have f2:=f2.plain hbig
  have:g'=g:=by rw[f1]at k1;exact Option.some.inj k1
  subst this
  have hsz2:cur.size=cap * ky:=by rw[f3,k2,D0]
  have hle:m * ky<=cur.size:=by rw[hsz2];exact Nat.mul_le_mul_right _ k3
  refine⟨cur.toList.take (m * ky),by simp;omega,.inr ⟨g',cap,cur,by simpa using e1,f2,hsz2,k3,by omega,rfl,f1,f5⟩,fun j c u hc hu=>?_⟩;rw[hflat0,D4]at hc;rw[D4]at hu;split at hc
  .rename_i hj;rw[if_pos hj]at hu;exact f6 j c u hc (by simpa using hu)
  cases hc
 have hcells:∀ (cur':LO),cur'.toList.take ((m+ys.length) * ky)=olds++news->∀ (j:Nat) c u,(flat (snapA 0 m xs++ys))[j]? = some c->cur'[j]? = some u->R M c u:=by
  intro cur' htk j c u hc hu;have hlt:=(List.getElem?_eq_some_iff.1 hc).1;rw[jE (fun z hz=>(hxs z hz).1),E7,hlen]at hlt
  have hu2:(olds++news)[j]? = some u:=by
   rw[<- htk,D4,if_pos hlt]
   simpa using hu
  rw[qbt]at hc;by_cases hj:j<m * ky
  .rw[D1 (by rw[hflx];exact hj)]at hc;rw[D1 (by rw[hol];exact hj)]at hu2;exact hro j c u hc hu2
  rw[E8 (by rw[hflx];omega),hflx]at hc;rw[E8 (by rw[hol];omega),hol]at hu2;exact hnr _ c u hc hu2
 have hxl:(snapA 0 m xs++ys).length=m+ys.length:=by rw[E7,hlen]
 have fin3:∀ v' w',(Builtin.append_ #[t,t] o.type #[a.eval x,a.eval y]).run P w=.ok v' w'->(∃ cap cur',v'=.slice (some ⟨w.heap.size,0,none⟩) (m+ys.length) cap/\w'=w.drew.alloc (.cells cur' e')/\cur'.size=cap * ky/\m+ys.length<=cap/\cap<=maxLen/\cur'.toList.take ((m+ys.length) * ky)=olds++news) ->
   Leads P bs n o a w (ins (1000000+d) (.obj e' ky (snapA 0 m xs++ys)) (ins d (.sb (1000000+d) e' ky 0 (snapA 0 m xs++ys).length) (forget id env))):=by
  rintro v' w' hrun ⟨cap,cur',rfl,rfl,r5,r6,r7,r8⟩
  have h2:=h1.grown (row:=none) (M':=M) (w':=w.drew.alloc (.cells cur' e')) (fun k hk=>by cases hk) ⟨rfl,rfl,rfl,by simp,fun k hk _=>heap_alloc_old w.drew _ hk⟩ (Sub.refl M) (fun b o u hu=>by
   have hb:=Ny (h.cons b o u hu);rw[Qr (w:=w) (heap_alloc_old w.drew _ hb)]
   exact h.cons b o u hu) (fun b o _ _=>rfl)
  obtain⟨O',hfin⟩:=h2.newRow (d:=d) (e:=e') (k:=ky) (cap:=cap) (g:=w.heap.size) (cur:=cur') (xs:=snapA 0 m xs++ys) (v:=.slice (some ⟨w.heap.size,0,none⟩) (m+ys.length) cap) hdn hdent' hcl hc2 hxs
   (.inr ⟨by rw[hxl],h.fresh (A4 _),by simp,fun i c hh=>by have:=(h1.own i c _ hh).2;omega,heap_alloc_new w.drew _,r5,by rw[hxl];exact r6,r7,fun o=>Xw h.cons (A4 _) o,hcells cur' r8⟩)
  exact⟨_,_,M,O',.inl (hexec _ _ hrun),by rw[hd];exact hfin⟩
 have fin1:∀ v',(Builtin.append_ #[t,t] o.type #[a.eval x,a.eval y]).run P w=.ok v' w->m+ys.length=0->(∃ ad,v'=.slice ad 0 0) ->
   Leads P bs n o a w (ins (1000000+d) (.obj e' ky (snapA 0 m xs++ys)) (ins d (.sb (1000000+d) e' ky 0 (snapA 0 m xs++ys).length) (forget id env))):=by
  rintro v' hrun hz0 ⟨ad,rfl⟩
  have hnil:snapA 0 m xs++ys=[]:=G4 oM;obtain⟨O',hfin⟩:=h1.newRow (d:=d) (e:=e') (k:=ky) (cap:=0) (g:=0) (cur:=#[]) (xs:=snapA 0 m xs++ys) (v:=.slice ad 0 0) hdn hdent' hcl hc2 hxs (.inl ⟨hnil,ad,rfl⟩);exact⟨_,_,M,O',.inl (hexec _ _ hrun),by rw[hd];exact hfin⟩
 rcases hsv with ⟨hm0,ad,e1⟩ | ⟨g',cap',cur1,e1,e2,e3,e4,e5,e6,e7,e8⟩
 .have ho0:olds=[]:=G4 (by rw[hol,hm0,Nat.zero_mul]);obtain⟨v',w',hrun,hways⟩:=qaF (w:=w) (P:=P) (t:=t) (e:=e') (i:=ie) (z:=z) (s:=ky) (ad:=ad) o.type hu hie hz hsz hc2 hzs (yv:=a.eval y) hnl hnv hn1 (by rw[<- hm0];exact hb.1) (by rw[<- hm0];exact hb.2);rw[<- e1]at hrun
  rcases hways with ⟨hz0,hv,rfl⟩ | hw
  .exact fin1 v' hrun oM hv
  refine fin3 v' w' hrun ?_;rw[hm0,ho0];exact hw
 obtain⟨v',w',hrun,hways⟩:=qbE (w:=w) (P:=P) (t:=t) (e:=e') (i:=ie) (z:=z) (s:=ky) o.type hu hie hz hsz hc2 hzs (sv:=a.eval x) (yv:=a.eval y) hol hnl
  (.inr ⟨g',cap',cur1,e1,e2,e3,e4,e5,e6⟩) hnv hn1 hb.1 hb.2
 rcases hways with ⟨hv,hz0,rfl⟩ | ⟨g,cap,cur,cur',r1,r2,rfl,rfl,r5,r6,r7,r8⟩ | hw
 .exact fin1 v' hrun hz0 ⟨none,hv⟩
 .rw[e1]at r1;cases r1;obtain⟨hgD,hgs⟩:=h.own true id g' e7
  have hnoO:∀ i c,(setO O true id none) i c≠some g':=by
   intro i c hh;rw[Jn]at hh;split at hh
   .cases hh
   rename_i hne;exact hne (h.inj _ _ _ _ g' hh e7)
  have h2:=h1.grown (row:=some g') (M':=M) (w':=w.setRow g' cur') (fun k hk=>by cases hk;exact⟨hgD,hnoO⟩) (XA w g' cur') (Sub.refl M) (fun b o u hu=>by
   have hb:=Ny (h.cons b o u hu)
   have hne:b≠g':=fun e=>by subst e;rw[e8]at hu;cases hu
   rw[Qr ((XA w g' cur').block b hb (fun e=>hne (Option.some.inj e)))]
   exact h.cons b o u hu) (fun b o _ _=>rfl)
  obtain⟨O',hfin⟩:=h2.newRow (d:=d) (e:=e') (k:=ky) (cap:=cap') (g:=g') (cur:=cur') (xs:=snapA 0 m xs++ys) (v:=.slice (some ⟨g',0,none⟩) (m+ys.length) cap') hdn hdent' hcl hc2 hxs
   (.inr ⟨by rw[hxl],hgD,by simpa using hgs,hnoO,setRow_heap w g' cur cur' e' _ r2,r5,by rw[hxl];exact r6,r7,e8,hcells cur' r8⟩)
  exact⟨_,_,M,O',.inl (hexec _ _ hrun),by rw[hd];exact hfin⟩
 exact fin3 v' w' hrun hw
theorem qfq (h:Inv bs n M O env a w) (ho:o.op=.call { callee:=.builtin .append,args:=args,argTypes:=ats }) {env':Env} (he:astep P n o env=some env'):Leads P bs n o a w env' :=
 qdB h ho he fun x y t t' d id ex kx off m q ha ht hd hp hq he=>qdC h ho ha ht hd hp hq he
end
end Go.AM
namespace Go.AM
open Go.RowKit
open Go.ChangeMaps (setBlock)
open Go.MapKept (heap_set)
variable {o:Oper} {t:TypeId} {env':Env}
section
variable {bs:Base} {n:Nat} {M:Mem} {O:Gh} {env:Env} {a:Act} {w:World} {P:Program}
theorem Yb {w:World} {b:Nat} {ob o':Obj} (h:w.heap[b]? = some ob):w.grownBy (setBlock w b o') (some b) :=
 ⟨rfl,rfl,rfl,by simp[setBlock],fun i _ hi=>(heap_set h).2 i (fun e=>hi (by rw[e]))⟩
theorem qjq {O:Gh} {M:Mem} {w:World} {x:AV} {v:Value} (h:ValOk O M w x v) (he:x.mapElem=true):R M x.strip v:=by
 have:R M x v:=by
  cases x <;> first | exact h.1 | cases he
 exact this.strip
theorem qds (h:Inv bs n M O env a w) (ho:o.op=.makeMap t none) (he:astep P n o env=some env'):Leads P bs n o a w env':=by
 unfold astep at he;rw[ho]at he;simp only at he;split at he
 case h_2=>cases he
 rename_i d q hd hq;split at he
 case h_2=>cases he
 rename_i hcl;rw[B1]at he;obtain⟨env1,he1,rfl⟩:=he;rw[hd]at he1;obtain⟨hdn,rfl,hdent⟩:=Um he1;obtain⟨c1,c2⟩:=JM hcl;have hn:=h.fix.1;have hne:(1000000+d:Nat)≠d:=Nat.ne_of_gt (G5 (by decide))
 have hrun:(execOp a.eval o).run P w=.ok (.value (.map (some w.heap.size))) (w.alloc (.map #[] 0)):=by
  have hx:execOp a.eval o=vS (Instr.makeMap t none):=by unfold execOp;rw[ho];rfl
  rw[hx];refine Nx ?_;simp[Instr.makeMap]
 have h':=h.grown (row:=none) (fun g e=>by cases e) (D2 w (.map #[] 0) none) (Sub.refl M) (ZY h.cons _) (fun b o _ _=>rfl);have h1:=h'.claim (t:=1000000+d) (x:=.hob 0 [] []) c2 oM (some w.heap.size) 0 0 (fun g' e=>by cases e;exact⟨h.fresh (A4 _),by simp,fun i c hh=>by have:=(h.own i c _ hh).2;omega⟩)
  ⟨w.heap.size,by simp[Qv],fun o=>Xw h.cons (A4 _) o,#[],0,heap_alloc_new w _,MapKept.stamped_empty 0,by simp[maxLen],rfl,rfl,fun j k e hk=>by simp at hk,fun j v e hv=>by simp at hv⟩
 have h2:=h1.put (d:=d) (x:=.mb 0 (1000000+d)) (v:=.map (some w.heap.size)) hdn ⟨w.heap.size,by simp[Qv],rfl⟩;exact⟨_,_,_,_,.inl hrun,by rw[hd];exact h2.looks fun s=>ZA hne env s⟩
theorem qfb (es:LW):leftOf es #[]=es:=by
 unfold leftOf;simp
theorem qfT (h:Inv bs n M O env a w) {x:Operand} (ho:o.op=.range t x) (he:astep P n o env=some env'):Leads P bs n o a w env':=by
 unfold astep at he;rw[ho]at he;simp only at he;split at he
 case h_2=>cases he
 rename_i d ks vs q hd hxx hq;obtain⟨kt,e⟩:=q;have hq:=QH hq;split at he
 case h_2=>cases he
 rename_i hcl;rw[B1]at he;obtain⟨env1,he1,rfl⟩:=he;rw[hd]at he1;obtain⟨hdn,rfl,hdent⟩:=Um he1;obtain⟨c1,c2⟩:=JM hcl;have hn:=h.fix.1;have hne:(1000000+d:Nat)≠d:=Nat.ne_of_gt (G5 (by decide));have hxv:=(qv h hxx).1
 have hx:execOp a.eval o=vS (Instr.range t (a.eval x)):=by unfold execOp;rw[ho];rfl
 have fin:∀ ob,(execOp a.eval o).run P w=.ok (.value (.pointer (some ⟨w.heap.size,0,none⟩))) (w.alloc ob) ->
   (∀ O',O'.o true (1000000+d)=some w.heap.size->HobOk O' M (w.alloc ob) (1000000+d) 1 ks vs)->Leads P bs n o a w (ins (1000000+d) (.hob 1 ks vs) (ins d (.mb 1 (1000000+d)) env)):=by
  intro ob hrun hok;have h':=h.grown (row:=none) (fun g e=>by cases e) (D2 w ob none) (Sub.refl M) (ZY h.cons _) (fun b o _ _=>rfl);have h1:=h'.claim (t:=1000000+d) (x:=.hob 1 ks vs) c2 oM (some w.heap.size) 0 0 (fun g' e=>by cases e;exact⟨h.fresh (A4 _),by simp,fun i c hh=>by have:=(h.own i c _ hh).2;omega⟩)
   (hok _ (by simp[Qv]))
  have h2:=h1.put (d:=d) (x:=.mb 1 (1000000+d)) (v:=.pointer (some ⟨w.heap.size,0,none⟩)) hdn ⟨w.heap.size,by simp[Qv],rfl⟩;exact⟨_,_,_,_,.inl hrun,by rw[hd];exact h2.looks fun s=>ZA hne env s⟩
 generalize hval:a.eval x=v at hxv
 rcases Uz hxv with ⟨rfl,rfl,rfl⟩ | ⟨ks',vs',b,es,clock,hp,rfl,h1,h2,h3,h4,h5,h6,h7⟩
 .refine fin (.mapIter none 0 #[] 0) ?_ fun O' hO'=>⟨w.heap.size,hO',fun o=>Xw h.cons (A4 _) o,.inl ⟨0,#[],heap_alloc_new w _,rfl,rfl⟩⟩
  rw[hx,hval];refine Nx ?_;simp[Instr.range,run_underlying hq]
 have hb:=Vt (h.cons _ _ _ h1)
 refine fin (.mapIter (some b) clock #[] clock) ?_ fun O' hO'=>⟨w.heap.size,hO',fun o=>Xw h.cons (A4 _) o,.inr ⟨b,es,clock,#[],clock,heap_alloc_new w _,A4 _,h1,h2,?_⟩⟩
 .rw[hx,hval];refine Nx ?_;simp[Instr.range,run_underlying hq,G1 hb]
 refine⟨ks',vs',hp,?_⟩;unfold LeftOk0;rw[qfb];exact⟨h4,h5,h6,h7⟩
theorem qbN (h:Inv bs n M O env a w) {m k v:Operand} (ho:o.op=.mapUpdate t m k v) (he:astep P n o env=some env'):Leads P bs n o a w env':=by
 unfold astep at he;rw[ho]at he;simp only at he;split at he
 case h_2=>cases he
 rename_i id kk vv kt e hd hm hk hv hq;have ht:=QH hq;split at he
 case h_2=>cases he
 rename_i ks vs hl;split at he
 case h_2=>cases he
 rename_i hc;simp only[A2]at hc;obtain⟨⟨⟨⟨hfit,hks⟩,hall⟩,hel⟩,hroom⟩:=hc;have hroom:ks.length<1000000000:=A7 hroom;obtain⟨g,g1,g2⟩:=qv h hm;obtain⟨g',k1,k2,es,clock,hb,E⟩:=h.slots id _ hl
 have:g'=g:=by rw[k1]at g1;exact Option.some.inj g1
 subst this;obtain⟨kv,hkv⟩:=Option.isSome_iff_exists.1 hks;have hkev:a.eval k=kv:=qeg (qv h hk) hkv;have hvr:R M vv.strip (a.eval v):=qjq (qv h hv) hel
 have hex:∀ w',(Instr.mapUpdate t (a.eval m) (a.eval k) (a.eval v)).run P w=.ok () w'->(execOp a.eval o).run P w=.ok .skip w':=by
  intro w' hr
  have:execOp a.eval o=(do Instr.mapUpdate t (a.eval m) (a.eval k) (a.eval v);pure .skip):=by unfold execOp;rw[ho]
  rw[this,E0,hr];rfl
 obtain⟨hck,hst,hfd⟩:=Zb (w:=w) hfit hkv hall E;obtain⟨E1,E2,E3,E4,E5,E6⟩:=E
 have fin:∀ es' clock' ks' vs',(Instr.mapUpdate t (.map (some g')) kv (a.eval v)).run P w=.ok () (setBlock w g' (.map es' clock'))->EntOk M es' clock' ks' vs'->Leads P bs n o a w (ins id (.hob 0 ks' vs') env):=by
  intro es' clock' ks' vs' hrun E';refine⟨undef,_,M,O,.inr ⟨hex _ (by rw[g2,hkev];exact hrun),rfl⟩,?_⟩;rw[hd,NP];exact h.setEnt hl rfl rfl k1 (Yb hb) k2 ⟨g',k1,k2,es',clock',(heap_set hb).1,E'⟩
 rcases hfd with ⟨f1,f2,f3⟩ | ⟨j,e0,f1,f2,f3,f4⟩
 .rw[f1]at he;cases he;refine fin (es.push ⟨kv,a.eval v,clock⟩) (clock+1) _ _ ?_ ⟨MapKept.stamped_push E1 f3,by simp[maxLen];omega,by simp[E3],by simp[E4],fun j k' e' hk' he'=>?_,fun j v' e' hv' he'=>?_⟩
  .simp[Instr.mapUpdate,run_underlying ht,G1 hb,hck,f2,G6 _ hb,Result.andThen,setBlock]
  .rw[G7]at he';split at he'
   .rename_i hj;cases he';rw[hj,<- E3]at hk';simp at hk';subst hk';exact hkv
   rename_i hj
   have hjl:j<ks.length:=by
    have:=(Array.getElem?_eq_some_iff.1 he').1;omega
   rw[D1 hjl]at hk';exact E5 j k' e' hk' he'
  rw[G7]at he';split at he'
  .rename_i hj;cases he';rw[hj,<- E4]at hv';simp at hv';subst hv';exact hvr
  rename_i hj
  have hjl:j<vs.length:=by
   have:=(Array.getElem?_eq_some_iff.1 he').1;omega
  rw[D1 hjl]at hv';exact E6 j v' e' hv' he'
 rw[f1]at he;cases he
 have hj:es[j]? = some e0:=by simpa using f3
 have hjs:j<es.size:=(Array.getElem?_eq_some_iff.1 hj).1
 have hkeyf:∀ e',es[j]? = some e'->({ e' with key:=kv,val:=a.eval v }:MapEntry).key=e'.key:=fun e' he'=>by rw[hj]at he';cases he';exact f4.symm
 refine fin (es.modify j (fun e'=>{ e' with key:=kv,val:=a.eval v })) clock _ _ ?_ ⟨MapKept.stamped_modify E1 _ _ (fun _ _=>rfl) (fun e' _ he'=>hkeyf e' he'),by simpa using E2,by simpa using E3,by simpa using E4,fun i k' e' hk' he'=>?_,fun i v' e' hv' he'=>?_⟩
 .simp[Instr.mapUpdate,run_underlying ht,G1 hb,hck,f2,hj,f4,hst,G6 _ hb,Result.andThen,setBlock]
 .rw[G8]at he';split at he'
  .rename_i hij;subst hij;rw[hj]at he';cases he';rw[<- f4];exact E5 j k' e0 hk' hj
  exact E5 i k' e' hk' he'
 rw[G8]at he';split at he'
 .rename_i hij;subst hij;rw[hj]at he';cases he';rw[List.getElem?_set_self (by omega)]at hv';cases hv';exact hvr
 rename_i hij;rw[List.getElem?_set_ne hij]at hv';exact E6 i v' e' hv' he'
end
end Go.AM
namespace Go.AM
open Go.RowKit
variable {d e f g id k m off t:Nat} {x y:AV} {args xs:LM} {v:Value} {o:Oper} {env':Env} {M':Mem}
section
variable {bs:Base} {n:Nat} {M:Mem} {O:Gh} {env:Env} {a:Act} {w:World} {P:Program}
theorem qjm (h:x.hasLab d=false) {c:Nat} (hc:x.lab? = some c):c≠d:=by
 intro e;subst e;simp[AV.hasLab,hc]at h
theorem Inv.clearOwn (h:Inv bs n M O env a w) (hn:labIn d env=false):Inv bs n M (setO O false d none) env a w:=by
 have hsub:∀ i c g,(setO O false d none) i c=some g->O i c=some g:=by
  intro i c g hg;rw[Jn]at hg;split at hg
  .cases hg
  exact hg
 refine⟨h.size,h.defers,h.below,h.hB,h.cons,h.ext,h.old,fun i c g hg=>h.own i c g (hsub i c g hg),fun i i' c c' g h1 h2=>h.inj i i' c c' g (hsub _ _ _ h1) (hsub _ _ _ h2),⟨h.fix.1,fun c k1 k2=>?_⟩,fun t x hx=>?_⟩
 .obtain⟨e1,e2,e3⟩:=h.fix.2 c k1 k2;exact⟨(JG O d none c).1.trans e1,e2,e3⟩
 have hs:=h.slots t x hx;have hl:=qhx hn hx
 have hf:∀ c,c≠d->(setO O false d none) false c=O false c:=fun c hc=>by simp[Jn,hc]
 cases x with
 | box cs =>
  refine BoxOk.change hs (Sub.refl M) (fun g hg=>⟨by rw[(JG O d none t).1];exact hg,rfl,fun _ hm=>hm⟩) fun c g z hz hzl hg=>⟨?_,rfl,fun _ hm=>hm⟩
  simp only[AV.hasLabB,List.any_eq_false]at hl;have:=hl z hz;rw[hf c (qjm (by simpa using this) hzl)];exact hg
 | obj e k xs=>exact ObjOk.change hs (Sub.refl M) (JG O d none t) fun g _=>⟨rfl,fun _ hm=>hm⟩
 | hob kd ks vs=>exact HobOk.change hs (Sub.refl M) (JG O d none t) fun g _=>⟨rfl,fun _ hm=>hm⟩
 | bxg cs=>exact BxgOk.change hs (Sub.refl M) (JG O d none t) (fun s _=>JG O d none s) fun g _=>⟨rfl,fun _ hm=>hm⟩
 | _ =>
  refine YU ((Nc rfl hs).change (Sub.refl M) (fun s _=>JG O d none s) fun c g hc hg=>⟨?_,rfl,fun _ hm=>hm⟩);rw[hf c fun e=>by subst e;rw[hl]at hc;cases hc];exact hg
theorem Inv.putFresh (h:Inv bs n M O env a w) {cap:Nat} {cur:LO} (hdn:d<n) (hn:labIn d env=false) (hR:R M (.lst e k none xs) v)
  (hv:(∃ ad,v=.slice ad 0 0)\/(v=.slice (some ⟨g,off,none⟩) xs.length cap/\¬ bs.D g/\(∀ i c,O i c≠some g)/\w.heap[g]? = some (.cells cur e (0,0))/\cur.size=off+cap * k/\xs.length<=cap/\cap<=maxLen/\∀ o,off+xs.length * k<=o->M g o=none)) :
  ∃ O',Inv bs n M O' (ins d (.lst e k (some d) xs) env) (a.put (some d) v) w:=by
 have h1:=h.clearOwn hn
 rcases hv with ⟨ad,rfl⟩ | ⟨rfl,hB,hO,hg,hs,hc,hm,hM⟩
 .exact⟨_,h1.put hdn ⟨hR.setLab,.inl ⟨ad,rfl⟩⟩⟩
 have h2:=h1.setOwn (d:=d) (g:=g) hn (by simp[Jn]) (fun i c hc'=>by
  rw[Jn]at hc';split at hc'
  .cases hc'
  exact hO i c hc') hB (Array.getElem?_eq_some_iff.1 hg).1
 exact⟨_,h2.put hdn ⟨hR.setLab,.inr ⟨g,off,cap,cur,rfl,by simp[Jn],hg,hs,hc,hm,hM⟩⟩⟩
theorem qbi (h:Inv bs n M O env a w) {ps:Array (Nat×Operand)} (ho:o.op=.buildSlice t m ps) (he:astep P n o env=some env'):Leads P bs n o a w env':=by
 have hsave:=he;unfold astep at he;rw[ho]at he;simp only at he;split at he
 case h_2=>cases he
 rename_i v hv;unfold fresh at he;split at he
 .rename_i e k xs t' hd;split at he
  .exact Nj h hv he
  rename_i hlab;rw[hd]at he;obtain⟨hdn,rfl⟩:=Un he;unfold apure at hv;rw[ho]at hv;simp only at hv;split at hv
  case h_2=>cases hv
  rename_i l hl;obtain⟨e1,k1,xs1,us,e2,h1,h2,h3,h4⟩:=YA (P:=P) h ho hl hv;cases e2;have h':=h.grown (row:=none) (fun g e=>by cases e) (D2 w (.cells us e) none) (VW h.cons us) (Hd h.cons us e) (fun b o hb _=>Nu us b o hb);have hBle:¬ bs.D w.heap.size:=h.fresh (A4 _)
  obtain⟨O',hfin⟩:=h'.putFresh (d:=t') (g:=w.heap.size) (off:=0) (cap:=xs.length) (cur:=us) hdn hlab h3 (.inr ⟨rfl,hBle,fun i c hc=>by have:=(h.own i c _ hc).2;omega,heap_alloc_new w _,by rw[D0];exact h2,A4 _,by unfold maxLen;omega,fun o ho=>by
   unfold addRow;rw[if_pos rfl];rw[D0]at ho;unfold cellsAt
   simp[h2,ho]⟩)
  exact⟨_,_,_,O',.inl h1,by rw[hd];exact hfin⟩
 rename_i hno;exact Nj h hv he
theorem qjX {M:Mem} (hs:x.scalar=true) (h:R M x v):R M' x v:=by
 cases x with
 | int k m=>rw[h.int_inv];exact .int _ _
 | bool b=>rw[h.bool_inv];exact .bool _
 | str s=>rw[h.str_inv];exact .str _
 | _=>cases hs
theorem qhh (hs:x.scalar=true):x.one=true:=by
 cases x <;> first | rfl | cases hs
theorem qhY (h:Inv bs n M O env a w) (he:aagr P n o env=some env'):Leads P bs n o a w env':=by
 unfold aagr at he;split at he
 case h_2=>cases he
 rename_i t ps ho;split at he
 case h_2=>cases he
 rename_i d l hd hl;split at he
 case h_2=>cases he
 rename_i v hv;obtain⟨u,h1,h2⟩:=Dk h ho hl hv;exact⟨u,w,M,O,.inl h1,Yi h h2 he⟩
theorem qhW (h:Inv bs n M O env a w) (he:arow P n o env=some env'):Leads P bs n o a w env':=by
 unfold arow at he;split at he
 case h_2=>cases he
 rename_i t m ps ho;split at he
 case h_2=>cases he
 rename_i d e k xs hd hv;split at he
 case h_2=>cases he
 rename_i hc;simp only[A2,C7]at hc;obtain⟨⟨hcl,hk⟩,hx⟩:=hc;have hk:0<k:=A7 hk;rw[B1]at he;obtain⟨env1,he1,rfl⟩:=he;rw[hd]at he1;obtain⟨hdn,rfl,hdent⟩:=Um he1;unfold apure at hv;rw[ho]at hv;simp only at hv;split at hv
 case h_2=>cases hv
 rename_i l hl;obtain⟨e1,k1,xs1,us,e2,h1,h2,h3,h4⟩:=YA (P:=P) h ho hl hv;cases e2
 have hlen:∀ x,x∈xs->x.cells.length=k:=fun x hxm=>A3 (hx x hxm).1
 have h':=h.grown (row:=none) (fun g e=>by cases e) (D2 w (.cells us e) none) (Sub.refl M) (ZY h.cons _) (fun b o _ _=>rfl);obtain⟨O',hfin⟩:=h'.newRow (d:=d) (e:=e) (k:=k) (cap:=xs.length) (g:=w.heap.size) (xs:=xs) (v:=.slice (some ⟨w.heap.size,0,none⟩) xs.length xs.length) (cur:=us) hdn hdent hcl hk
  (fun x hxm=>⟨hlen x hxm,by
   rw[C7];intro c hcm
   exact qhh ((hx x hxm).2 c hcm)⟩)
  (.inr ⟨rfl,h.fresh (A4 _),by simp,fun i c hg=>by have:=(h.own i c _ hg).2;omega,heap_alloc_new w _,h2,A4 _,by unfold maxLen;omega,fun o=>Xw h.cons (A4 _) o,fun j c u hj hu=>by
   have hsc:c.scalar=true:=by
    have hm:=D5 hj;unfold flat at hm;obtain⟨x,hxm,hcm⟩:=List.mem_flatMap.1 hm;exact (hx x hxm).2 c hcm
   cases hxs:xs with
   | nil=>rw[hxs]at hj;cases hj
   | cons x0 r0 =>
    generalize hv0:Value.slice (some ⟨w.heap.size,0,none⟩) xs.length xs.length=v0 at h3
    cases h3 with
    | lstn=>cases hv0
    | lste=>rw[hxs]at hv0;cases hv0
    | lst us' g1 g2 g5 g3 g4 =>
     injection hv0 with q1 q2 q3
     injection q1 with q1
     injection q1 with q4 q5
     subst q4;subst q5;have b1:=g3 j c hj;have b2:=g4 j c hj;unfold addRow at b1;rw[if_pos rfl,D0]at b1;have b1:=(Vq b1).1;rw[hu]at b1;rw[Option.some.inj b1]
     exact qjX hsc b2⟩)
 refine⟨_,_,M,O',.inl h1,?_⟩;rw[hd];exact hfin
theorem qbD (h:Inv bs n M O env a w) (he:astep P n o env=some env'):Leads P bs n o a w env':=by
 obtain⟨dst,op,ty,pos,after,guard⟩:=o
 have pure:(match apure P ⟨dst,op,ty,pos,after,guard⟩ env with | some v=>eput n dst v env | none=>none)=some env'->Leads P bs n ⟨dst,op,ty,pos,after,guard⟩ a w env':=by
  intro hp;split at hp
  .rename_i v hv;exact Nj h hv hp
  cases hp
 cases op with
 | alloc t=>exact qgT h rfl he
 | box t x=>exact qjE h rfl he
 | store t p x=>exact qfE h rfl he
 | buildSlice t m ps=>exact qbi h rfl he
 | makeSlice t l c=>exact qbO h rfl he
 | makeMap t r =>
  cases r with
  | none=>exact qds h rfl he
  | some r=>exact pure he
 | range t x=>exact qfT h rfl he
 | mapUpdate t m k v=>exact qbN h rfl he
 | call c =>
  obtain⟨callee,args,ats⟩:=c
  cases callee with
  | value f=>exact pure he
  | invoke r m=>exact pure he
  | builtin b =>
   cases b
   case append=>exact qfq h rfl he
   all_goals exact pure he
 | _=>exact pure he
def OwnR (M:Mem) (B:Nat) (w:World) (x:AV) (v:Value):Prop :=
 match x with
 | .lst e k (some _) xs=>(∃ ad,v=.slice ad 0 0)\/∃ g off cap cur,v=.slice (some ⟨g,off,none⟩) xs.length cap/\B<=g/\w.heap[g]? = some (.cells cur e (0,0))/\cur.size=off+cap * k/\xs.length<=cap/\cap<=maxLen/\∀ o,off+xs.length * k<=o->M g o=none
 | _=>True
def CallOk (P:Program) (f:Nat) (args:LM) (r:AV):Prop :=
 ∀ (M:Mem) (w:World) (vs:LT),Glob M->Cons M w->args.length=vs.length->(∀ (j:Nat) c v,args[j]? = some c->vs[j]? = some v->R M c v) ->
  Calls P f vs.toArray w fun e w'=>∃ v M',e=.returned v/\Below w.heap.size w w'/\Sub M M'/\Cons M' w'/\(∀ b o,b<w.heap.size->M' b o=M b o)/\R M' r v/\OwnR M' w.heap.size w' r v
def CallMOk (P:Program) (f:Nat) (args:LM) (hp:Env) (r:AV) (hp':Env):Prop :=
 ∀ (M:Mem) (O:Gh) (w:World) (vs:LT),Glob M->Cons M w->args.length=vs.length->(∀ i c g,O i c=some g->i=true/\g<w.heap.size)->(∀ c c' g,O true c=some g->O true c'=some g->c=c') ->
  (∀ (j:Nat) c v,args[j]? = some c->vs[j]? = some v->ValOk O M w c.strip v)->(∀ id x,look hp id=some x->Sat O M w id x undef) ->
  Calls P f vs.toArray w fun e w'=>∃ v M' O',e=.returned v/\BelowD (fun k=>k<w.heap.size/\∀ c,O true c≠some k) w w'/\Sub M M'/\Cons M' w'/\(∀ b o,b<w.heap.size->(∀ c,O true c≠some b)->M' b o=M b o) /\
   (∀ i c g,O' i c=some g->g<w'.heap.size/\(w.heap.size<=g\/∃ c',O true c'=some g))/\(∀ i i' c c' g,O' i c=some g->O' i' c'=some g->i=i'/\c=c')/\(∀ c,2000000<=c->c<3000000->Gh.Eq1 O O' c) /\
   ValOk O' M' w' r v/\∀ id x,look hp' id=some x->Sat O' M' w' id x undef
theorem UE {w w':World} (h:Below w.heap.size w w'):w.grownBy w' none:=⟨h.os,h.tape,h.output,h.size,fun k hk _=>h.block k hk⟩
theorem Hc (h : Inv bs n M O env a w) {o : Oper} {fo : Operand} {as : Array Operand} {ats : Array TypeId} (ho : o.op = .call { callee := .value fo, args := as, argTypes := ats }) {g : Nat} {caps l : LM} (hf : aop env fo = some (.clo g caps)) (hl : optAll (as.toList.map (aop env)) = some l) {fn : Func} (hfn : P.funcs[g]? = some fn) (hb1 : (fn.name != "runtime.NumGoroutine") = true) (hb2 : fn.body.isSome = true) :
  ∃ us cvs:LT,(execOp a.eval o).run P w=.ok (.enter g (us++cvs).toArray) w/\l.length=us.length/\(∀ (j:Nat) c v,l[j]? = some c->us[j]? = some v->ValOk O M w c v)/\caps.length=cvs.length/\∀ (j:Nat) c v,caps[j]? = some c->cvs[j]? = some v->R M c v:=by
 have hfv:=(qv h hf).1
 obtain⟨cvs,e1,e2,e3⟩:∃ cvs:LT,a.eval fo=.func (.func g) #[] cvs.toArray/\caps.length=cvs.length/\∀ (j:Nat) c v,caps[j]? = some c->cvs[j]? = some v->R M c v:=by
  generalize a.eval fo=y at hfv
  cases hfv with
  | clo h1 h2=>exact⟨_,rfl,h1,h2⟩
 obtain⟨l1,l2⟩:=DM h hl;refine⟨as.toList.map a.eval,cvs,?_,l1,l2,e2,e3⟩;unfold execOp;rw[ho];simp only[resolve,E0,e1,Deferred.ofValue,F9,G0,invoke];unfold callFunc
 have hne : (fn.name == "runtime.NumGoroutine") = false := by simpa [bne] using hb1
 simp only[E0,run_program,G0,hfn,hne,Bool.false_eq_true,if_false]
 have:fn.body.isNone=false:=by
  cases hbd:fn.body with
  | none=>rw[hbd]at hb2;cases hb2
  | some c=>rfl
 rw[this];simp only[Bool.false_eq_true,if_false,F9]
 congr 2
 apply Array.ext';simp
theorem Hi {Q:AV->Value->Prop} {l caps:LM} {us cvs:LT} (hlen:l.length=us.length) (h1:∀ (j:Nat) c v,l[j]? = some c->us[j]? = some v->Q c v) (h2:∀ (j:Nat) c v,caps[j]? = some c->cvs[j]? = some v->Q c v) :
  ∀ (j:Nat) c v,(l++caps)[j]? = some c->(us++cvs)[j]? = some v->Q c v:=by
 intro j c v hc hv;by_cases hj:j<l.length
 .rw[D1 hj]at hc;rw[D1 (by rw[<- hlen];exact hj)]at hv;exact h1 j c v hc hv
 rw[E8 (Nat.le_of_not_lt hj)]at hc;rw[E8 (by rw[<- hlen];exact Nat.le_of_not_lt hj),<- hlen]at hv;exact h2 _ c v hc hv
theorem Nt (h:Inv bs n M O env a w) (hc:acallee P o env=some (f,args)) :
  ∃ vs:LT,(execOp a.eval o).run P w=.ok (.enter f vs.toArray) w/\args.length=vs.length/\∀ (j:Nat) c v,args[j]? = some c->vs[j]? = some v->R M c v:=by
 unfold acallee at hc;split at hc
 case h_2=>cases hc
 rename_i fo as ats ho;split at hc
 case h_2=>cases hc
 rename_i g caps l hf hl;split at hc
 case h_2=>cases hc
 rename_i fn hfn;split at hc
 case h_2=>cases hc
 rename_i hb;cases hc;simp only[A2]at hb;obtain⟨⟨hb1,hb2⟩,hb3⟩:=hb;obtain⟨us,cvs,h1,h2,h3,h4,h5⟩:=Hc h ho hf hl hfn hb1 hb2;refine⟨us++cvs,h1,by simp;omega,Hi (by simpa using h2) (fun j c v hc hv=>?_) h5⟩;rw[A8]at hc
 cases hz:l[j]? with
 | none=>rw[hz]at hc;cases hc
 | some z =>
  rw[hz]at hc;cases hc;have:=h3 j z v hz hv;simp only[C7]at hb3;have hz3:=hb3 z (D5 hz);refine (this.r (fun s=>?_) (fun _ _ e=>by subst e;cases hz3) fun _ e=>by subst e;cases hz3).strip
  cases z <;> first | rfl | cases hz3
def memX (M:Mem) (O:Gh) (env:Env) (w:World):Mem:=fun b o=>mc w b o
theorem YL (h:Inv bs n M O env a w):Sub M (memX M O env w):=fun b o u hu=>h.cons b o u hu
theorem qjp (h:Inv bs n M O env a w):Cons (memX M O env w) w:=fun b o u hu=>hu
theorem qii (h:Inv bs n M O env a w) {e':Nat} (hx:SbOk O id k off m v) (hl:look env id=some (.obj e' k xs)):R (memX M O env w) (.lst e k none (snapA off m xs)) v:=by
 obtain⟨h0,h3,h4,h5⟩:=h.slots id _ hl;obtain⟨q1,q2⟩:=hx
 have hlen:(snapA off m xs).length=m:=by unfold snapA;simp;omega
 have hsub:∀ y,y∈snapA off m xs->y∈xs:=fun y hy=>D8 (F7 hy)
 rcases q2 with ⟨rfl,ad,rfl⟩ | ⟨g,cap,rfl,k1,k2,k3,k4⟩
 .have:snapA off 0 xs=[]:=by simp[snapA]
  rw[this]
  cases ad with
  | none=>exact .lstn _ _ _
  | some ad=>exact .lste _ _ _ _ _
 rcases h5 with ⟨rfl,hn⟩ | ⟨g',cur,f1,f2,f3,f4,f5,f6⟩
 .rw[hn]at k1;cases k1
 have:g'=g:=by rw[f1]at k1;exact Option.some.inj k1
 subst this
 have hty:∀ y,y∈xs->y.cells.length=k:=fun y hy=>(h3 y hy).1
 have hcell:∀ (j:Nat) c,(flat (snapA off m xs))[j]? = some c->cur[off * k+j]? = some (cur.getD (off * k+j) undef)/\R M c (cur.getD (off * k+j) undef):=by
  intro j c hj
  have hj2:(flat xs)[off * k+j]? = some c:=by
   unfold snapA at hj;rw[VP (k:=k) m (fun y hy=>hty y (D8 hy)),ZS off hty,D4]at hj;split at hj
   .rw[List.getElem?_drop]at hj;exact hj
   cases hj
  have hlt:=(List.getElem?_eq_some_iff.1 hj2).1;rw[jE hty]at hlt
  have e1:cur[off * k+j]? = some (cur.getD (off * k+j) undef):=by
   have:off * k+j<cur.size:=by omega
   simp[this]
  exact⟨e1,f6 _ _ _ hj2 e1⟩
 have:=R.lst (M:=memX M O env w) (e:=e) (k:=k) (l:=none) (xs:=snapA off m xs) (b:=g') (off:=off * k) (cap:=cap) (fun j=>cur.getD (off * k+j) undef) (by rw[hlen];exact k3) (fun y hy=>hty y (hsub y hy)) (fun y hy=>(h3 y (hsub y hy)).2)
  (fun j c hj=>by
   unfold memX;rw[mcRowAt f2]
   exact JN (hcell j c hj).1 (Yx ((hcell j c hj).2.one (UW (fun y hy=>(h3 y (hsub y hy)).2) hj)))) (fun j c hj=>(hcell j c hj).2.mono (YL h))
 rw[hlen]at this;exact this
theorem qgI (h:Inv bs n M O env a w) {s:Nat} {cs:LM} (hl:look env s=some (.box cs)) (hO:O true s=some g) (hy:y.cells=cs.map AV.strip):R (memX M O env w) (.ptr y) (.pointer (some ⟨g,0,none⟩)):=by
 obtain⟨cur,el,h1,h2,h3,h4⟩:=UZ h hl hO
 have hcell:∀ (j:Nat) c,y.cells[j]? = some c->cur[j]? = some (cur.getD j undef)/\R M c (cur.getD j undef)/\isTup (cur.getD j undef)=false:=by
  intro j c hc;rw[hy,A8]at hc
  cases hz:cs[j]? with
  | none=>rw[hz]at hc;cases hc
  | some z =>
   rw[hz]at hc;cases hc;obtain⟨q1,q2,q3,_⟩:=h4 j z hz
   have hj:j<cur.size:=by rw[h2];exact (List.getElem?_eq_some_iff.1 hz).1
   exact⟨by simp[hj],q3.strip,Yx (q3.one q2)⟩
 refine R.ptr (fun j=>cur.getD j undef) (fun j c hc=>?_) (fun j c hc=>(hcell j c hc).2.1.mono (YL h)) fun j c hc=>(hcell j c hc).2.2
 unfold memX;rw[mcRow h1,D0];exact JN (hcell j c hc).1 (hcell j c hc).2.2
theorem qkx (h:Inv bs n M O env a w) {ks vs:LM} (hl:look env id=some (.hob 0 ks vs)) (h1:O true id=some g):R (memX M O env w) (.mpv ks vs) (.map (some g)):=by
 obtain⟨g',k1,k2,es,clock,k3,k4⟩:=h.slots id _ hl
 have:g'=g:=by rw[k1]at h1;exact Option.some.inj h1
 subst this;obtain⟨q1,q2,q3,q4,q5,q6⟩:=k4
 exact .mpv (Zj k3) q1 q2 q3 q4 q5 fun j v e hv he=>(q6 j v e hv he).mono (YL h)
theorem qhV {z c:AV} (h:asnapC env z=some c):c.one=true:=by
 unfold asnapC at h;split at h
 .split at h
  .cases h;rfl
  cases h
 .split at h
  .split at h
   .cases h;rfl
   cases h
  cases h
 split at h
 .rename_i h1;cases h;exact Xm h1
 cases h
theorem qaD (h:Inv bs n M O env a w) (hx:CellR O M t x v) (hs:asnapC env x=some y):R (memX M O env w) y v:=by
 unfold asnapC at hs;split at hs
 .rename_i id;split at hs
  case h_2=>cases hs
  rename_i ks vs hl;cases hs;obtain⟨_,g,h1,h2⟩:=hx;rw[h2];exact qkx h hl h1
 .rename_i id e k off m;split at hs
  case h_2=>cases hs
  rename_i e' k2 xs hl;split at hs
  case h_2=>cases hs
  rename_i hk;have hk:=A3 hk;subst hk;cases hs;exact qii h hx hl
 split at hs
 .rename_i h1;cases hs;exact (hx.to_r h1).mono (YL h)
 cases hs
theorem qaC (h:Inv bs n M O env a w) (hx:CapOk O M x v) (hs:asnapP env x=some y):R (memX M O env w) y v:=by
 unfold asnapP at hs;split at hs
 .cases hs;exact R.mono (YL h) hx
 .rename_i s;obtain⟨g,h1,h2⟩:=hx;subst h1;split at hs
  .rename_i c hl;cases hs;refine qgI h hl h2 ?_;obtain⟨cur,el,k1,k2,k3,k4⟩:=UZ h hl h2;have:=(k4 0 c rfl).2.1;rw[ZZ (Xm this)];rfl
  .rename_i cs _ hl;cases hs;exact qgI h hl h2 rfl
  .rename_i cs hl;obtain⟨g',cur,el,k1,k2,k3,k4,k5,k6⟩:=h.slots s _ hl
   have:g'=g:=by rw[k2]at h2;exact Option.some.inj h2
   subst this
   have key:∀ (l:LM) (y:AV),optAll (cs.map (asnapC env))=some l->y.cells=l->R (memX M O env w) (.ptr y) (.pointer (some ⟨g',0,none⟩)):=by
    intro l y hl' hy;have hsp:=Jb hl'
    have hlen:cs.length=l.length:=by simpa using congrArg D6 hsp
    have hcell:∀ (j:Nat) c,y.cells[j]? = some c->cur[j]? = some (cur.getD j undef)/\R (memX M O env w) c (cur.getD j undef)/\isTup (cur.getD j undef)=false:=by
     intro j c hc;rw[hy]at hc;have hjj:=congrArg (fun q=>q[j]?) hsp;simp only[A8,hc,D3]at hjj
     cases hz:cs[j]? with
     | none=>rw[hz]at hjj;cases hjj
     | some z =>
      rw[hz]at hjj;have hz2:asnapC env z=some c:=Option.some.inj hjj
      have hj:j<cur.size:=by rw[k4];exact (List.getElem?_eq_some_iff.1 hz).1
      have e:cur[j]? = some (cur.getD j undef):=by simp[hj]
      have q:=k6 j z _ hz e;exact⟨e,qaD h q hz2,Yx q.one⟩
    refine R.ptr (fun j=>cur.getD j undef) (fun j c hc=>?_) (fun j c hc=>(hcell j c hc).2.1) fun j c hc=>(hcell j c hc).2.2
    unfold memX;rw[mcRow k3,D0];exact JN (hcell j c hc).1 (hcell j c hc).2.2
   split at hs
   .rename_i c hl';cases hs;refine key [c] c hl' ?_;have hsp:=Jb hl';have h0:=congrArg (fun q=>q[0]?) hsp
    cases hc0:cs[0]? with
    | none=>simp[hc0]at h0
    | some z =>
     simp[hc0]at h0;exact ZZ (qhV h0)
   .rename_i l _ hl';cases hs;exact key l _ hl' rfl
   cases hs
  cases hs
 cases hs
theorem qgP (h:Inv bs n M O env a w) (hx:ValOk O M w x v) (hs:asnap env x=some y):R (memX M O env w) y v:=by
 cases x with
 | sb id e k off m =>
  simp only[asnap]at hs;split at hs
  case h_2=>cases hs
  rename_i e' k2 xs hl;split at hs
  case h_2=>cases hs
  rename_i hk;have hk:=A3 hk;subst hk;cases hs;exact qii h hx hl
 | mb kd id =>
  cases kd with
  | succ kd=>simp[asnap]at hs
  | zero =>
   simp only[asnap]at hs;split at hs
   case h_2=>cases hs
   rename_i ks vs hl;cases hs;obtain⟨g,h1,h2⟩:=hx;obtain⟨g',k1,k2,es,clock,k3,k4⟩:=h.slots id _ hl
   have:g'=g:=by rw[k1]at h1;exact Option.some.inj h1
   subst this;obtain⟨q1,q2,q3,q4,q5,q6⟩:=k4;rw[h2]
   exact .mpv (Zj k3) q1 q2 q3 q4 q5 fun j v e hv he=>(q6 j v e hv he).mono (YL h)
 | clb f caps =>
  simp only[asnap]at hs;split at hs
  case h_2=>cases hs
  rename_i l hl;cases hs;obtain⟨vs,h1,h2,h3⟩:=hx;subst h1;have hsp:=Jb hl
  have hlen:caps.length=l.length:=by simpa using congrArg D6 hsp
  refine .clo oM fun j c v hc hv=>?_
  have hjj:=congrArg (fun q=>q[j]?) hsp;simp only[A8,hc,D3]at hjj
  cases hz:caps[j]? with
  | none=>rw[hz]at hjj;cases hjj
  | some z =>
   rw[hz]at hjj;exact qaC h (h3 j z v hz hv) (Option.some.inj hjj)
 | box cs=>cases hs
 | obj e k xs=>cases hs
 | hob kd ks vs=>cases hs
 | bxg cs=>cases hs
 | slf=>cases hs
 | agr cs =>
  simp only[asnap]at hs;split at hs
  case h_2=>cases hs
  rename_i l hl;cases hs;obtain⟨us,h1,h2,h3⟩:=hx;subst h1;have hsp:=Jb hl
  have hlen:cs.length=l.length:=by simpa using congrArg D6 hsp
  refine R.agg oM fun j c v hc hv=>?_
  have hjj:=congrArg (fun q=>q[j]?) hsp;simp only[A8,hc,D3]at hjj
  cases hz:cs[j]? with
  | none=>rw[hz]at hjj;cases hjj
  | some z =>
   rw[hz]at hjj;exact qaD h (h3 j z v hz hv).1 (Option.some.inj hjj)
 | pb s o =>
  simp only[asnap]at hs;exact qaC h (x:=.pb s o) hx hs
 | pe s k j o=>cases hs
 | tpr id e k off m rest=>cases hs
 | _ =>
  simp only[asnap,Option.some.injEq]at hs;subst hs;exact (hx.1.mono (YL h)).strip
theorem qdz (h:Inv bs n M O env a w) (hc:XI P o env=some (f,args)) :
  ∃ vs:LT,(execOp a.eval o).run P w=.ok (.enter f vs.toArray) w/\args.length=vs.length/\∀ (j:Nat) c v,args[j]? = some c->vs[j]? = some v->R (memX M O env w) c v:=by
 unfold XI at hc;split at hc
 case h_2=>cases hc
 rename_i fo as ats ho;split at hc
 case h_2=>cases hc
 rename_i g caps l hf hl;split at hc
 case h_2=>cases hc
 rename_i fn hfn;split at hc
 case h_2=>cases hc
 rename_i l' hb hl';cases hc;simp only[A2]at hb;obtain⟨hb1,hb2⟩:=hb;obtain⟨us,cvs,h1,h2,h3,h4,h5⟩:=Hc h ho hf hl hfn hb1 hb2;have hsp:=Jb hl'
 have hlen:l.length=l'.length:=by simpa using congrArg D6 hsp
 refine⟨us++cvs,h1,by simp;omega,Hi oM (fun j c v hc hv=>?_) fun j c v hc hv=>(h5 j c v hc hv).mono (YL h)⟩;have hjj:=congrArg (fun q=>q[j]?) hsp;simp only[A8,hc,D3]at hjj
 cases hz:l[j]? with
 | none=>rw[hz]at hjj;cases hjj
 | some z =>
  rw[hz]at hjj;exact qgP h (h3 j z v hz hv) (Option.some.inj hjj)
theorem qls {M:Mem} (hp:x.plain=true) (h:R M x v):R M' x v:=by
 cases h with
 | int k n=>exact .int k n
 | bool b=>exact .bool b
 | str s=>exact .str s
 | @agg cs vs hl hr =>
  refine .agg hl fun j c u hc hu=>?_
  simp only[AV.plain,C7]at hp;have h1:=hp c (D5 hc);have h2:=hr j c u hc hu
  cases h2 <;> first | exact .int _ _ | exact .bool _ | exact .str _ | cases h1
 | @tup cs vs hl hr =>
  refine .tup hl fun j c u hc hu=>?_
  simp only[AV.plain,C7]at hp;have h1:=hp c (D5 hc);have h2:=hr j c u hc hu
  cases h2 <;> first | exact .int _ _ | exact .bool _ | exact .str _ | cases h1
 | _=>cases hp
theorem qea (hp:x.plain=true):x.lab? = none:=by
 cases x <;> first | rfl | cases hp
end
end Go.AM
namespace Go.AM
open Go.RowKit
variable {P:Program} {bs:Base} {n:Nat} {M:Mem} {O:Gh} {env:Env} {a:Act} {w:World}
end Go.AM
namespace Go.AM
inductive J where
 | code (n:Nat) (c:Code) (env:Env) (ex:Ex) (env':Env)
 | ops (n:Nat) (draw:Bool) (all rest:LF) (env env':Env)
 | call (f:Nat) (args:LM) (r:AV)
 | callM (f:Nat) (args:LM) (hp:Env) (r:AV) (hp':Env)
 | opsB (n:Nat) (all rest:LF) (env env':Env)
 | any (n:Nat) (all:LF) (R:LQ) (env env':Env)
def readyR (all:LF) (R:LQ) (k:Nat):Bool:=R.all fun i=>!((Region.before all.toArray).getD k 0).testBit i
inductive Run (P:Program):J->Prop where
 | skip {n env}:Run P (.code n .skip env .normal env)
 | ret {n env}:Run P (.code n .ret env .ret env)
 | exit {n env id}:Run P (.code n (.exit id) env (.exit id) env)
 | seqN {n x y env e1 ex e2}:Run P (.code n x env .normal e1)->Run P (.code n y e1 ex e2)->Run P (.code n (.seq x y) env ex e2)
 | seqX {n x y env id e1}:Run P (.code n x env (.exit id) e1)->Run P (.code n (.seq x y) env (.exit id) e1)
 | seqR {n x y env e1}:Run P (.code n x env .ret e1)->Run P (.code n (.seq x y) env .ret e1)
 | cond {n c x y env ex e1} (b:Bool):aop env c=some (.bool b)->Run P (.code n (match b with | true=>x | false=>y) env ex e1)->Run P (.code n (.cond c x y) env ex e1)
 | seqU {n v c x y z env e0 ei e2} (p:Bool):Run P (.code n v env .normal e0)->aop e0 c=some (.ub p)->(p=true->Run P (.code n x e0 .ret e2))->Run P (.code n y e0 .normal ei)->Run P (.code n z ei .ret e2)->Run P (.code n (.seq (.seq v (.cond c x y)) z) env .ret e2)
 | mv {n c env ex e1} (q:List Mv):Run P (.code n c (mvAll env q) ex e1)->Run P (.code n c env ex e1)
 | mvOp {n all rest env e1} (q:List Mv):Run P (.ops n false all rest (mvAll env q) e1)->Run P (.ops n false all rest env e1)
 | callOpR {n draw all o rest env f args r e1 e2}:awanted all o env=some true->XI P o env=some (f,args)->r.plain=true->Run P (.call f args r)->eput n o.dst r env=some e1->Run P (.ops n draw all rest e1 e2)->Run P (.ops n draw all (o::rest) env e2)
 | callOpM {n all o rest env f args hp r hp' e1 e2} (ρ nw:LU):awanted all o env=some true->qaH P o env ρ=some (f,args,hp)->Run P (.callM f args hp r hp')->He n o.dst ρ nw r hp' env=some e1->Run P (.ops n false all rest e1 e2)->Run P (.ops n false all (o::rest) env e2)
 | callM {f args hp r fn c ex e1}:P.funcs[f]? = some fn->fn.body=some c->(A5 args.length fn.ntmps && A5 fn.ntmps 1000000 && hpOk hp)=true->Run P (.code fn.ntmps c (argsEnv 0 (args.map AV.strip)++hp) ex e1)->(match ex with | .exit _=>False | _=>True)->Df P fn e1=some r->Run P (.callM f args hp r (ents e1))
 | block {n id c env ex e1}:Run P (.code n c env ex e1)->Run P (.code n (.block id c) env (ex.unblock id) e1)
 | loopN {n c env e1 ex e2}:Run P (.code n c env .normal e1)->Run P (.code n (.loop c) e1 ex e2)->Run P (.code n (.loop c) env ex e2)
 | loopX {n c env id e1}:Run P (.code n c env (.exit id) e1)->Run P (.code n (.loop c) env (.exit id) e1)
 | loopR {n c env e1}:Run P (.code n c env .ret e1)->Run P (.code n (.loop c) env .ret e1)
 | region {n id ops draw env e1}:(draw=true->orderOk ops=true/\jO ops=true)->Run P (.ops n draw ops.toList ops.toList env e1)->Run P (.code n (.region id ops draw) env .normal e1)
 | regionA {n id ops env e1 e2}:jO ops=true->Run P (.any n ops.toList (D9 ops.size) env e1)->Run P (.ops n false ops.toList [] e1 e2)->Run P (.code n (.region id ops true) env .normal e2)
 | anyNil {n all env}:Run P (.any n all [] env env)
 | anyStep {n all R env e1} (F:Nat->Env):R≠[]->(∀ k o,k∈R->all[k]? = some o->readyR all R k=true->Run P (.ops n false all [o] env (F k)))->(∀ k,k∈R->readyR all R k=true->Run P (.any n all (R.erase k) (F k) e1))->Run P (.any n all R env e1)
 | nilB {n all env}:Run P (.opsB n all [] env env)
 | opB {n all o rest env e1 e2}:awanted all o env=some true->astepB P n o env=some e1->Run P (.opsB n all rest e1 e2)->Run P (.opsB n all (o::rest) env e2)
 | weak {n c env ex e1} (keep frz:LQ) (nl:LV) (rl:Lk):Run P (.code n c (weakE keep frz nl rl env) ex e1)->Run P (.code n c env ex e1)
 | nil {n draw all env}:Run P (.ops n draw all [] env env)
 | drop {n all rest env e1} (keep:LQ):Run P (.ops n false all rest (dropE keep env) e1)->Run P (.ops n false all rest env e1)
 | not {n draw all o rest env e1 e2}:awanted all o env=some false->eput n o.dst .und env=some e1->Run P (.ops n draw all rest e1 e2)->Run P (.ops n draw all (o::rest) env e2)
 | op {n draw all o rest env e1 e2}:awanted all o env=some true->(match draw with | true=>astepDA P n all o env | false=>astep P n o env)=some e1->Run P (.ops n draw all rest e1 e2)->Run P (.ops n draw all (o::rest) env e2)
 | rowOp {n all o rest env e1 e2}:awanted all o env=some true->arow P n o env=some e1->Run P (.ops n false all rest e1 e2)->Run P (.ops n false all (o::rest) env e2)
 | agrOp {n all o rest env e1 e2}:awanted all o env=some true->aagr P n o env=some e1->Run P (.ops n false all rest e1 e2)->Run P (.ops n false all (o::rest) env e2)
 | callOp {n draw all o rest env f args r e1 e2}:awanted all o env=some true->acallee P o env=some (f,args)->Run P (.call f args r)->callPut n draw o.dst r env=some e1->Run P (.ops n draw all rest e1 e2)->Run P (.ops n draw all (o::rest) env e2)
 | ext0 {f args r}:CallOk P f args r->Run P (.call f args r)
 | extM {f args hp r hp'}:CallMOk P f args hp r hp'->(∀ id x,look hp' id=some x->x.ent=true)->Run P (.callM f args hp r hp')
 | ext {f args r vs rv}:optAll (args.map AV.val)=some vs->r.val=some rv->Known P f vs rv->Run P (.call f args r)
 | call {f args r fn c ex e1}:P.funcs[f]? = some fn->fn.body=some c->(A5 args.length fn.ntmps && A5 fn.ntmps 1000000)=true->Run P (.code fn.ntmps c (argsEnv 0 (args.map AV.strip)) ex e1)->(match ex with | .exit _=>False | _=>True)->jK P fn e1=some r->Run P (.call f args r)
end Go.AM
namespace Go.AM
variable {c y:Code} {Q:Env->Prop} {Q':Ex->Env->Prop} {e1 e2 env env1:Env} {draw:Bool} {rest:LF} {o:Oper} {F bytes d e id k s:Nat} {α σ:Type} {v:AV} {C l xs ys zs:LM} {a:Int}
section
variable {P:Program} {n:Nat}
def W (P:Program) (n:Nat) (c:Code) (Q:Ex->Env->Prop) (env:Env):Prop:=∃ ex e',Run P (.code n c env ex e')/\Q ex e'
def WO (P:Program) (n:Nat) (draw:Bool) (all ops:LF) (Q:Env->Prop) (env:Env):Prop:=∃ e',Run P (.ops n draw all ops env e')/\Q e'
def Then (c:Code) (P:Program) (n:Nat) (Q:Ex->Env->Prop):Ex->Env->Prop
 | .normal,e=>W P n c Q e
 | ex,e=>Q ex e
theorem W.mono {Q:Ex->Env->Prop} (h:W P n c Q env) (hq:∀ ex e,Q ex e->Q' ex e):W P n c Q' env:=by
 obtain⟨ex,e',h1,h2⟩:=h;exact⟨ex,e',h1,hq _ _ h2⟩
theorem W.skip {Q:Ex->Env->Prop} {env:Env} (h:Q .normal env):W P n .skip Q env:=⟨_,_,.skip,h⟩
theorem W.ret {Q:Ex->Env->Prop} {env:Env} (h:Q .ret env):W P n .ret Q env:=⟨_,_,.ret,h⟩
theorem W.exit {Q:Ex->Env->Prop} {env:Env} {id:Nat} (h:Q (.exit id) env):W P n (.exit id) Q env:=⟨_,_,.exit,h⟩
theorem W.seq {x y:Code} {Q:Ex->Env->Prop} {env:Env} (h:W P n x (Then y P n Q) env):W P n (.seq x y) Q env:=by
 obtain⟨ex,e1,h1,h2⟩:=h
 cases ex with
 | normal=>obtain⟨ex2,e2,h3,h4⟩:=h2;exact⟨ex2,e2,.seqN h1 h3,h4⟩
 | exit id=>exact⟨_,e1,.seqX h1,h2⟩
 | ret=>exact⟨_,e1,.seqR h1,h2⟩
theorem W.cond {c:Operand} {x y:Code} {Q:Ex->Env->Prop} {env:Env} (b:Bool) (hc:aop env c=some (.bool b)) (ht:b=true->W P n x Q env) (hf:b=false->W P n y Q env):W P n (.cond c x y) Q env:=by
 cases b with
 | true=>obtain⟨ex,e1,h1,h2⟩:=ht rfl;exact⟨ex,e1,.cond true hc h1,h2⟩
 | false=>obtain⟨ex,e1,h1,h2⟩:=hf rfl;exact⟨ex,e1,.cond false hc h1,h2⟩
def Blk (id:Nat) (Q:Ex->Env->Prop):Ex->Env->Prop:=fun ex e=>Q (ex.unblock id) e
theorem W.block {id:Nat} {c:Code} {Q:Ex->Env->Prop} {env:Env} (h:W P n c (Blk id Q) env):W P n (.block id c) Q env:=by
 obtain⟨ex,e1,h1,h2⟩:=h;exact⟨_,e1,.block h1,h2⟩
theorem W.loop {c:Code} {Q:Ex->Env->Prop} {env:Env} (h:W P n c (Then (.loop c) P n Q) env):W P n (.loop c) Q env:=by
 obtain⟨ex,e1,h1,h2⟩:=h
 cases ex with
 | normal=>obtain⟨ex2,e2,h3,h4⟩:=h2;exact⟨ex2,e2,.loopN h1 h3,h4⟩
 | exit id=>exact⟨_,e1,.loopX h1,h2⟩
 | ret=>exact⟨_,e1,.loopR h1,h2⟩
theorem W.weak {c:Code} {Q:Ex->Env->Prop} {env:Env} (keep frz:LQ) (nl:LV) (rl:Lk) {env':Env} (he:weakE keep frz nl rl env=env') (h:W P n c Q env'):W P n c Q env:=by
 subst he;obtain⟨ex,e1,h1,h2⟩:=h;exact⟨ex,e1,.weak keep frz nl rl h1,h2⟩
theorem W.region {id:Nat} {ops:Lj} {draw:Bool} {Q:Ex->Env->Prop} {env:Env} (hd:(!draw || (orderOk ops && jO ops))=true) (h:WO P n draw ops.toList ops.toList (Q .normal) env):W P n (.region id ops draw) Q env:=by
 obtain⟨e1,h1,h2⟩:=h;refine⟨_,e1,.region (fun hdr=>?_) h1,h2⟩;subst hdr
 simpa using hd
theorem WO.nil {draw:Bool} {all:LF} {Q:Env->Prop} {env:Env} (h:Q env):WO P n draw all [] Q env:=⟨env,.nil,h⟩
theorem WO.mono {all ops:LF} {Q':Env->Prop} (h:WO P n draw all ops Q env) (hq:∀ e,Q e->Q' e):WO P n draw all ops Q' env:=by
 obtain⟨e',h1,h2⟩:=h;exact⟨e',h1,hq _ h2⟩
def step1 (P:Program) (n:Nat) (draw:Bool) (all:LF) (o:Oper) (env:Env):Ld :=
 match awanted all o env with
 | some true=>match draw with
  | true=>astepDA P n all o env
  | false=>astep P n o env
 | some false=>eput n o.dst .und env
 | none=>none
def stepsK (P:Program) (n:Nat) (draw:Bool) (all:LF):Nat->LF->Env->Ld
 | 0,_,env=>some env
 | _+1,[],env=>some env
 | k+1,o::rest,env=>match step1 P n draw all o env with
  | some e=>stepsK P n draw all k rest e
  | none=>none
theorem qdQ {all:LF} {e e':Env} (h:step1 P n draw all o env=some e) (hr:Run P (.ops n draw all rest e e')):Run P (.ops n draw all (o::rest) env e'):=by
 unfold step1 at h;split at h
 .rename_i hw;refine .op hw ?_ hr;cases draw <;> exact h
 .rename_i hw;exact .not hw h hr
 cases h
theorem WO.steps {draw:Bool} {all:LF} {Q:Env->Prop}:∀ (k:Nat) {ops:LF} {env e1:Env},stepsK P n draw all k ops env=some e1->WO P n draw all (ops.drop k) Q e1->WO P n draw all ops Q env
 | 0,ops,env,e1,h,hr=>by cases h;exact hr
 | k+1,[],env,e1,h,hr=>by cases h;exact hr
 | k+1,o::rest,env,e1,h,hr=>by
  simp only[stepsK]at h;split at h
  .rename_i e he;obtain⟨e',h1,h2⟩:=WO.steps k h hr;exact⟨e',qdQ he h1,h2⟩
  cases h
theorem WO.step {draw:Bool} {all rest:LF} {o:Oper} {Q:Env->Prop} {env e1:Env} (h:step1 P n draw all o env=some e1) (hr:WO P n draw all rest Q e1):WO P n draw all (o::rest) Q env:=by
 obtain⟨e',h1,h2⟩:=hr;exact⟨e',qdQ h h1,h2⟩
theorem WO.call {draw:Bool} {all rest:LF} {o:Oper} {Q:Env->Prop} {env e1:Env} {f:Nat} {args:LM} {r:AV} (hw:awanted all o env=some true) (hc:acallee P o env=some (f,args)) (hr:Run P (.call f args r)) (he:callPut n draw o.dst r env=some e1) (h:WO P n draw all rest Q e1):WO P n draw all (o::rest) Q env:=by
 obtain⟨e',h1,h2⟩:=h;exact⟨e',.callOp hw hc hr he h1,h2⟩
theorem WO.row {all:LF} {ops:LF} (hw:awanted all o env=some true) (he:arow P n o env=some e1) (h:WO P n false all ops Q e1):WO P n false all (o::ops) Q env:=by
 obtain⟨e',h1,h2⟩:=h;exact⟨e',.rowOp hw he h1,h2⟩
theorem WO.drop {all ops:LF} {Q:Env->Prop} {env:Env} (keep:LQ) {e1:Env} (he:dropE keep env=e1) (h:WO P n false all ops Q e1):WO P n false all ops Q env:=by
 subst he;obtain⟨e',h1,h2⟩:=h;exact⟨e',.drop keep h1,h2⟩
def Seg (P:Program) (n:Nat) (all:LF) (k:Nat) (keep:LQ) (ops:LF) (env envj:Env):Prop :=
 ∀ Q,WO P n false all (ops.drop k) Q envj->WO P n false all ops Q env
theorem Seg.steps {all:LF} {k:Nat} {keep:LQ} {ops:LF} {env envj e1:Env} (h:stepsK P n false all k ops env=some e1) (he:dropE keep e1=envj):Seg P n all k keep ops env envj :=
 fun Q hq=>WO.steps k h (WO.drop keep he hq)
def Post (P:Program) (fn:Func) (r:AV):Ex->Env->Prop
 | .exit _,_=>False
 | _,e=>jK P fn e=some r
theorem qjD {f:Nat} {args:LM} {r:AV} {fn:Func} (hf:P.funcs[f]? = some fn) (hb:fn.body=some c) (hlen:(A5 args.length fn.ntmps && A5 fn.ntmps 1000000)=true) {env0:Env} (he:argsEnv 0 (args.map AV.strip)=env0) (h:W P fn.ntmps c (Post P fn r) env0):Run P (.call f args r):=by
 subst he;obtain⟨ex,e1,h1,h2⟩:=h;refine .call hf hb hlen h1 ?_ ?_
 .cases ex <;> first | trivial | exact h2
 cases ex <;> first | exact h2 | exact h2.elim
theorem W.join {Q:Ex->Env->Prop} (E:σ->Env) (Pz:σ->Prop) (hrest:∀ s,Pz s->Q .normal (E s)) (h:(∀ s,Pz s->Q .normal (E s))->W P n c Q env):W P n c Q env:=h hrest
theorem W.range {Q:Ex->Env->Prop} (xs:List α) (E:Nat->σ->Env) (Pz:List α->Nat->σ->Prop)
  (hnil:∀ s,Pz [] xs.length s->W P n c (Then (.loop c) P n Q) (E xs.length s))
  (hcons:∀ x rest k s,xs[k]? = some x->k<xs.length->Pz (x::rest) k s->(∀ s',Pz rest (k+1) s'->W P n (.loop c) Q (E (k+1) s'))->W P n c (Then (.loop c) P n Q) (E k s)) :
  ∀ s,Pz xs 0 s->W P n (.loop c) Q (E 0 s):=by
 have key:∀ (rest:List α) (k:Nat) (s:σ),xs.drop k=rest->k<=xs.length->Pz rest k s->W P n (.loop c) Q (E k s):=by
  intro rest
  induction rest with
  | nil =>
   intro k s hd hk hp
   have:k=xs.length:=by
    have:=congrArg D6 hd;simp at this;omega
   subst this;exact W.loop (hnil s hp)
  | cons x rest ih =>
   intro k s hd hk hp
   have hx:xs[k]? = some x:=by
    have:=congrArg List.head? hd
    simpa[List.head?_drop] using this
   have hlt:k<xs.length:=(List.getElem?_eq_some_iff.1 hx).1;refine W.loop (hcons x rest k s hx hlt hp fun s' hp'=>ih (k+1) s' ?_ hlt hp')
   have:xs.drop (k+1)=(xs.drop k).drop 1:=by rw[C0]
   rw[this,hd];rfl
 exact fun s hp=>key xs 0 s (List.drop_zero) (Nat.zero_le _) hp
theorem W.fuel {Q:Ex->Env->Prop} (E:σ->Env) (Pz:Nat->σ->Prop) (h0:∀ s,Pz 0 s->False)
  (hs:∀ m s,Pz (m+1) s->(∀ s',Pz m s'->W P n (.loop c) Q (E s'))->W P n c (Then (.loop c) P n Q) (E s)) :
  ∀ m s,Pz m s->W P n (.loop c) Q (E s):=by
 intro m
 induction m with
 | zero=>intro s hp;exact (h0 s hp).elim
 | succ m ih=>intro s hp;exact W.loop (hs m s hp ih)
theorem WO.bool {all ops:LF} (E:Bool->Env) (b:Bool) (ht:b=true->WO P n draw all ops Q (E true)) (hf:b=false->WO P n draw all ops Q (E false)):WO P n draw all ops Q (E b):=by
 cases b with
 | true=>exact ht rfl
 | false=>exact hf rfl
def plainOp:Op->Bool
 | .alloc _ | .box .. | .makeSlice .. | .store .. | .buildSlice .. | .makeMap .. | .mapUpdate .. | .range ..=>false
 | .call { callee:=.builtin .append,.. }=>false
 | .call { callee:=.value _,.. }=>false
 | _=>true
theorem qgO (h:plainOp o.op=true):astep P n o env=match apure P o env with
  | some v=>eput n o.dst v env
  | none=>none:=by
 unfold astep
 split <;> first | (cases apure P o env <;> rfl) | simp_all [plainOp]
theorem qgq {o:Op} (h:plainOp o=true):isEff o=false:=by
 unfold isEff;split <;> simp_all [plainOp]
theorem Ug {all:LF} (h:isApp o.op=false):lfOk all o env=true:=by
 unfold lfOk;split
 .rename_i ho;rw[ho]at h;cases h
 rfl
theorem Zc {all:LF} {r:Ld} (hl:lfOk all o env=true) (h:astepD P n o env=r):astepDA P n all o env=r:=by
 unfold astepDA;rw[hl];exact h
theorem qgr {o:Op} (h:plainOp o=true):isApp o=false:=by
 unfold isApp;split <;> simp_all [plainOp]
theorem WO.pureE {all:LF} {X:Lb} (hw:awanted all o env=some true) (hp:(plainOp o.op && notBox v)=true) (hv:apure P o env=X) (hX:X=some v) (he:eput n o.dst v env=some e1) (h:WO P n draw all rest Q e1):WO P n draw all (o::rest) Q env:=by
 rw[hX]at hv;simp only[A2]at hp;refine WO.step (e1:=e1) ?_ h;unfold step1;rw[hw]
 cases draw with
 | true =>
  refine Zc (Ug (qgr hp.1)) ?_;unfold astepD;simp only[qgq hp.1,hv,hp.2,he]
 | false =>
  simp only[qgO hp.1,hv,he]
def appPre (P:Program) (all:LF) (o:Oper) (env:Env):Option (Nat×Nat×Nat×Nat×LM×LM×Env) :=
 match awanted all o env with
 | some true=>match o.op with
  | .call { callee:=.builtin .append,args,argTypes }=>match args.toList,argTypes.toList,o.dst with
   | [x,y],[t,t'],some d=>match aop env x,aop env y with
    | some a,some b=>match Jg P t with
     | some (e,s)=>match A0 t t' && D7 0 s && (match (P.info? e).bind (·.zero) with | some z=>A0 z.cells.size s | none=>false) with
      | false=>none
      | true=>match b with
       | .lst ey ky _ ys=>match A0 ky s with
        | false=>none
        | true=>match a with
         | .nils=>some (d,e,s,((P.info? e).map (·.bytes)).getD 0,[],ys,relabE d none env)
         | .lst ex kx (some c) xs=>match A0 ex e && A0 kx s with
          | false=>none
          | true=>some (d,e,s,((P.info? e).map (·.bytes)).getD 0,xs,ys,relabE d none (relabE c none env))
         | _=>none
       | _=>none
     | none=>none
    | _,_=>none
   | _,_,_=>none
  | _=>none
 | _=>none
def appPreD (P:Program) (draw:Bool) (all:LF) (o:Oper) (env:Env):Option (Nat×Nat×Nat×Nat×LM×LM×Env) :=
 match !draw || lfOk all o env with
 | true=>appPre P all o env
 | false=>none
theorem qaG {all:LF} {r:Nat×Nat×Nat×Nat×LM×LM×Env} (h:appPreD P draw all o env=some r):(!draw || lfOk all o env)=true/\appPre P all o env=some r:=by
 unfold appPreD at h;split at h
 .rename_i hl;exact⟨hl,h⟩
 cases h
def capOk (bytes n:Nat):Bool:=A5 (n * bytes) 140737488355328 && A5 n 140737488355328
theorem WO.append {all:LF} (hl:(!draw || lfOk all o env)=true) (hp:appPre P all o env=some (d,e,s,bytes,xs,ys,env1)) (hz:xs++ys=zs) (hc:capOk bytes zs.length=true) (he:eput n (some d) (.lst e s (some d) zs) env1=some e1) (h:WO P n draw all rest Q e1):WO P n draw all (o::rest) Q env:=by
 subst hz;simp only[capOk,A2,E9,E7]at hc;refine WO.step (e1:=e1) ?_ h;unfold step1
 have key:astep P n o env=some e1/\awanted all o env=some true/\isEff o.op=true:=by
  unfold appPre at hp;unfold astep
  split at hp <;> try cases hp
  rename_i hw
  split at hp <;> try cases hp
  rename_i args ats ho
  split at hp <;> try cases hp
  rename_i x y t t' d hax hat hd
  split at hp <;> try cases hp
  rename_i a b ha hb
  split at hp <;> try cases hp
  rename_i e s hse
  split at hp <;> try cases hp
  rename_i hcond
  split at hp <;> try cases hp
  rename_i ey ky l ys
  split at hp <;> try cases hp
  rename_i hky
  have hei:isEff o.op=true:=by rw[ho];rfl
  refine⟨?_,hw,hei⟩;have hcond':=hcond
  split at hp <;> try cases hp
  .have e1':aappend P t t' d .nils (.lst ey ky l ys) env=some (.lst e s (some d) ys,relabE d none env):=by
    unfold aappend;simp only[hse];split
    .rename_i hcf;exact A9 (hcf.symm.trans hcond')
    simp only[hky];rw[if_pos (by simpa using hc)]
   rw[ho];simp only[hax,hat,hd,ha,hb,e1']
   simpa[hd] using he
  rename_i ex kx c xs
  split at hp <;> try cases hp
  rename_i hx
  have e1':aappend P t t' d (.lst ex kx (some c) xs) (.lst ey ky l ys) env=some (.lst e s (some d) (xs++ys),relabE d none (relabE c none env)):=by
   unfold aappend;simp only[hse];split
   .rename_i hcf;exact A9 (hcf.symm.trans hcond')
   simp only[hky,hx];rw[if_pos hc]
  rw[ho];simp only[hax,hat,hd,ha,hb,e1']
  simpa[hd] using he
 rw[key.2.1]
 cases draw with
 | true =>
  refine Zc hl ?_;unfold astepD;simp only[key.2.2,key.1]
 | false=>exact key.1
def okFn (P:Program) (F:Nat):Bool:=match P.funcs[F]? with
 | some fn => fn.name != "runtime.NumGoroutine" && fn.body.isSome
 | none=>false
def callPre (all:LF) (o:Oper) (env:Env):Option (Nat×LM×LM) :=
 match awanted all o env with
 | some true=>match o.op with
  | .call { callee:=.value f,args,.. }=>match aop env f,optAll (args.toList.map (aop env)) with
   | some (.clo g caps),some l=>match l.all (fun x=>match x with | .box _ | .pb .. | .sb .. | .pe .. | .obj .. | .tpr .. | .hob .. | .mb .. | .bxg _ | .slf | .agr _ | .clb ..=>false | _=>true) with
    | true=>some (g,l.map AV.strip,caps)
    | false=>none
   | _,_=>none
  | _=>none
 | _=>none
theorem WO.callF {all:LF} {r:AV} (hp:callPre all o env=some (F,l,C)) (hok:okFn P F=true) (hr:Run P (.call F (l++C) r)) (he:callPut n draw o.dst r env=some e1) (h:WO P n draw all rest Q e1):WO P n draw all (o::rest) Q env:=by
 unfold callPre at hp
 split at hp <;> try cases hp
 rename_i hw
 split at hp <;> try cases hp
 rename_i f args ats ho
 split at hp <;> try cases hp
 rename_i g caps l hf hl
 split at hp <;> try cases hp
 rename_i hall;refine WO.call hw ?_ hr he h;unfold acallee;rw[ho];simp only[hf,hl];unfold okFn at hok;split at hok
 .rename_i fn hfn;simp only[hfn,hok];split
  .rfl
  rename_i hcf;exact A9 (hcf.symm.trans hall)
 cases hok
def chk {α:Type} (b:Bool) (o:Option α):Option α:=bif b then o else none
theorem qg {b:Bool} {o:Option α} {r:α} (h:chk b o=some r):b=true/\o=some r:=by
 cases b with
 | true=>exact⟨rfl,h⟩
 | false=>cases h
theorem qb {β:Type} {o:Option α} {f:α->Option β} {r:β} (h:o.bind f=some r):∃ x,o=some x/\f x=some r:=by
 cases o with
 | none=>cases h
 | some x=>exact⟨x,rfl,h⟩
def idx {α:Type} (l:List α) (i:Int):Option α:=if 0<=i then l[i.toNat]? else none
theorem Xu {l:List α} {i:Int} {x:α} {f:α->AV} (h:idx l i=some x):(if 0<=i then ((l.map f)[i.toNat]?).map AV.ptr else none)=some (.ptr (f x)):=by
 unfold idx at h;split at h
 .rename_i h0;rw[if_pos h0,A8,h];rfl
 cases h
theorem qX {l:List α} {x:α} {f:α->AV} (h:l[k]? = some x):(if (0:Int)<=(k:Int) then ((l.map f)[(k:Int).toNat]?).map AV.ptr else none)=some (.ptr (f x)) :=
 Xu (l:=l) (by unfold idx;rw[if_pos (Int.natCast_nonneg k),Int.toNat_natCast,h])
def lenOk {α:Type} (l:List α):Bool:=A5 l.length 9223372036854775807
theorem qli (h1 : -9223372036854775808<=a) (h2:a<9223372036854775808):G2 .i64 a=a:=by
 simp[G2,IntKind.signed,IntKind.bits];omega
theorem qz {l:List α} (hl:lenOk l=true) (hk:k<l.length):G2 .i64 ((k:Int)+1)=((k+1:Nat):Int):=by
 simp only[lenOk,E9]at hl;rw[qli (by omega) (by omega)];rfl
theorem qW {l:List α} (hk:k<l.length):decide ((k:Int)<(l.length:Int))=true:=by
 simp;exact_mod_cast hk
theorem qL {l:List α}:decide ((l.length:Int)<(l.length:Int))=false:=by
 simp
theorem UV {n:Int} (hk:k<(D9 n.toNat).length):decide ((k:Int)<n)=true:=by
 simp at hk;simp;omega
theorem VJ {n:Int}:decide (((D9 n.toNat).length:Int)<n)=false:=by
 simp;omega
def sub {α:Type} (l:List α) (lo hi:Int):Option (List α):=if 0<=lo/\lo<=hi/\hi<=l.length then some ((l.take hi.toNat).drop lo.toNat) else none
theorem qgX {l r:List α} {lo hi:Int} {f:α->AV} {lb:LP} (h:sub l lo hi=some r):(if (0:Int)<=lo/\lo<=hi/\hi<=((A1 f l).length:Int) then some (AV.lst e k lb (((A1 f l).take hi.toNat).drop lo.toNat)) else none)=some (AV.lst e k lb (A1 f r)):=by
 unfold sub at h;split at h
 .rename_i h0;cases h;rw[if_pos (by simpa using h0),List.map_drop,List.map_take]
 cases h
theorem qdr (h:decide (0<=a)=true):¬ a<0:=by
 have:=oT h;omega
def iAnd (k:IntKind) (a b:Int):Int:=k.wrap ((BitVec.ofInt k.bits a &&& BitVec.ofInt k.bits b).toNat)
def iOr (k:IntKind) (a b:Int):Int:=k.wrap ((BitVec.ofInt k.bits a ||| BitVec.ofInt k.bits b).toNat)
def iShl (k:IntKind) (a b:Int):Int:=k.wrap (a * 2 ^ (min b.toNat k.bits))
def iShr (k:IntKind) (a b:Int):Int:=a.fdiv (2 ^ (min b.toNat k.bits))
def stepsE (P:Program) (n:Nat) (draw:Bool) (all:LF) (k:Nat) (ops:LF) (env:Env) {α:Type} (f:LF->Env->Option α):Option α :=
 match stepsK P n draw all k ops env with
 | some e=>f (ops.drop k) e
 | none=>none
theorem je {all ops:LF} {f:LF->Env->Option α} {x:α} (h:stepsE P n draw all k ops env f=some x):∃ e,stepsK P n draw all k ops env=some e/\f (ops.drop k) e=some x:=by
 unfold stepsE at h;split at h
 .rename_i e he;exact⟨e,he,h⟩
 cases h
def finE (P:Program) (n:Nat) (draw:Bool) (all ops:LF) (keep frz:LQ) (nl:LV) (rl:Lk) (env:Env):Ld :=
 (stepsK P n draw all ops.length ops env).map (weakE keep frz nl rl)
theorem WO.fin {all ops:LF} (keep frz:LQ) (nl:LV) (rl:Lk) (he:finE P n draw all ops keep frz nl rl env=some e2) (hQ:∀ e,W P n c Q' e->Q e) (h:W P n c Q' e2):WO P n draw all ops Q env:=by
 unfold finE at he;rw[B1]at he;obtain⟨e1,h1,h2⟩:=he;refine WO.steps ops.length h1 ?_;rw[G3];exact .nil (hQ _ (W.weak keep frz nl rl h2 h))
theorem W.regS {ops:Lj} {Q:Ex->Env->Prop} (keep frz:LQ) (nl:LV) (rl:Lk) (hd:(!draw || (orderOk ops && jO ops))=true) (he:finE P n draw ops.toList ops.toList keep frz nl rl env=some e2) (h:W P n y Q e2):W P n (.seq (.region id ops draw) y) Q env :=
 W.seq (W.region hd (WO.fin keep frz nl rl he (fun _ h=>h) h))
theorem W.regT {ops:Lj} {Q:Ex->Env->Prop} (keep frz:LQ) (nl:LV) (rl:Lk) (hd:(!draw || (orderOk ops && jO ops))=true) (he:finE P n draw ops.toList ops.toList keep frz nl rl env=some e2) (hQ:∀ e,W P n y Q' e->Q .normal e) (h:W P n y Q' e2):W P n (.region id ops draw) Q env :=
 W.region hd (WO.fin keep frz nl rl he hQ h)
theorem WO.callK {all ops:LF} {r:AV} (k:Nat)
  (hp:stepsE P n draw all k ops env (fun os e=>match os with | o::_=>callPre all o e | []=>none)=some (F,l,C)) (hok:okFn P F=true) (hr:Run P (.call F (l++C) r))
  (he:stepsE P n draw all k ops env (fun os e=>match os with | o::_=>callPut n draw o.dst r e | []=>none)=some e1) (h:WO P n draw all (ops.drop (k+1)) Q e1):WO P n draw all ops Q env:=by
 obtain⟨e,h1,h2⟩:=je hp;obtain⟨e',h3,h4⟩:=je he;rw[h1]at h3;cases h3;refine WO.steps k h1 ?_
 have hd:ops.drop (k+1)=(ops.drop k).drop 1:=by rw[C0]
 rw[hd]at h
 cases hos:ops.drop k with
 | nil=>rw[hos]at h2;cases h2
 | cons o rest =>
  rw[hos]at h2 h4 h;exact WO.callF h2 hok hr h4 h
theorem WO.agr {all:LF} {ops:LF} (hw:awanted all o env=some true) (he:aagr P n o env=some e1) (h:WO P n false all ops Q e1):WO P n false all (o::ops) Q env:=by
 obtain⟨e',h1,h2⟩:=h;exact⟨e',.agrOp hw he h1,h2⟩
theorem WO.pureK {all ops:LF} (k:Nat) (X:Lb)
  (hp:stepsE P n draw all k ops env (fun os e=>match os with
   | o::_=>match awanted all o e with
    | some true=>match plainOp o.op && notBox v with
     | true=>some (apure P o e)
     | false=>none
    | _=>none
   | []=>none)=some X) (hX:X=some v)
  (he:stepsE P n draw all k ops env (fun os e=>match os with | o::_=>eput n o.dst v e | []=>none)=some e1) (h:WO P n draw all (ops.drop (k+1)) Q e1):WO P n draw all ops Q env:=by
 obtain⟨e,h1,h2⟩:=je hp;obtain⟨e',h3,h4⟩:=je he;rw[h1]at h3;cases h3;refine WO.steps k h1 ?_
 have hd:ops.drop (k+1)=(ops.drop k).drop 1:=by rw[C0]
 rw[hd]at h
 cases hos:ops.drop k with
 | nil=>rw[hos]at h2;cases h2
 | cons o rest =>
  rw[hos]at h2 h4 h;simp only at h2
  split at h2 <;> try cases h2
  rename_i hw
  split at h2 <;> try cases h2
  rename_i hpl;exact WO.pureE hw hpl rfl hX h4 h
theorem WO.appendK {all ops:LF} (k:Nat)
  (hp:stepsE P n draw all k ops env (fun os e=>match os with | o::_=>appPreD P draw all o e | []=>none)=some (d,e,s,bytes,xs,ys,env1)) (hz:xs++ys=zs) (hc:capOk bytes zs.length=true) (he:eput n (some d) (.lst e s (some d) zs) env1=some e1) (h:WO P n draw all (ops.drop (k+1)) Q e1):WO P n draw all ops Q env:=by
 obtain⟨e,h1,h2⟩:=je hp;refine WO.steps k h1 ?_
 have hd:ops.drop (k+1)=(ops.drop k).drop 1:=by rw[C0]
 rw[hd]at h
 cases hos:ops.drop k with
 | nil=>rw[hos]at h2;cases h2
 | cons o rest =>
  rw[hos]at h2 h;exact WO.append (qaG h2).1 (qaG h2).2 hz hc he h
theorem WO.boolK {all ops:LF} (k:Nat) (E:Bool->Env) (b:Bool) (he:stepsK P n draw all k ops env=some (E b)) (ht:b=true->WO P n draw all (ops.drop k) Q (E true)) (hf:b=false->WO P n draw all (ops.drop k) Q (E false)):WO P n draw all ops Q env :=
 WO.steps k he (WO.bool E b ht hf)
def WB (P:Program) (n:Nat) (all ops:LF) (Q:Env->Prop) (env:Env):Prop:=∃ e',Run P (.opsB n all ops env e')/\Q (dropB all e')
def stepB1 (P:Program) (n:Nat) (all:LF) (o:Oper) (env:Env):Ld :=
 match awanted all o env with
 | some true=>astepB P n o env
 | _=>none
def stepsB (P:Program) (n:Nat) (all:LF):Nat->LF->Env->Ld
 | 0,_,env=>some env
 | _+1,[],env=>some env
 | k+1,o::rest,env=>match stepB1 P n all o env with
  | some e=>stepsB P n all k rest e
  | none=>none
theorem WB.step {all rest:LF} {o:Oper} {Q:Env->Prop} {env e1:Env} (h:stepB1 P n all o env=some e1) (hr:WB P n all rest Q e1):WB P n all (o::rest) Q env:=by
 obtain⟨e',h1,h2⟩:=hr;unfold stepB1 at h;split at h
 .rename_i hw;exact⟨e',.opB hw h h1,h2⟩
 cases h
theorem WB.steps {all:LF} {Q:Env->Prop}:∀ (k:Nat) {ops:LF} {env e1:Env},stepsB P n all k ops env=some e1->WB P n all (ops.drop k) Q e1->WB P n all ops Q env
 | 0,ops,env,e1,h,hr=>by cases h;exact hr
 | k+1,[],env,e1,h,hr=>by cases h;exact hr
 | k+1,o::rest,env,e1,h,hr=>by
  simp only[stepsB]at h;split at h
  .rename_i e he;exact WB.step he (WB.steps k h hr)
  cases h
def stepsEB (P:Program) (n:Nat) (all:LF) (k:Nat) (ops:LF) (env:Env) {α:Type} (f:LF->Env->Option α):Option α :=
 match stepsB P n all k ops env with
 | some e=>f (ops.drop k) e
 | none=>none
theorem Vv {all ops:LF} {f:LF->Env->Option α} {x:α} (h:stepsEB P n all k ops env f=some x):∃ e,stepsB P n all k ops env=some e/\f (ops.drop k) e=some x:=by
 unfold stepsEB at h;split at h
 .rename_i e he;exact⟨e,he,h⟩
 cases h
def quietB:Op->Bool
 | .call { callee:=.builtin .append,.. }=>false
 | .buildSlice ..=>false
 | _=>true
theorem qfo (h:quietB o.op=true):astepB P n o env=match o.dst,apure P o env with
  | some d,some v=>match memFree o.op && notBox v with
   | true=>eput n o.dst v.strip env
   | false=>none
  | _,_=>none:=by
 unfold astepB
 split <;> first | rfl | simp_all [quietB]
theorem WB.pureK {all ops:LF} (k:Nat) (X:Lb)
  (hp:stepsEB P n all k ops env (fun os e=>match os with
   | o::_=>match awanted all o e with
    | some true=>match quietB o.op && memFree o.op && notBox v && o.dst.isSome with
     | true=>some (apure P o e)
     | false=>none
    | _=>none
   | []=>none)=some X) (hX:X=some v)
  (he:stepsEB P n all k ops env (fun os e=>match os with | o::_=>eput n o.dst v.strip e | []=>none)=some e1) (h:WB P n all (ops.drop (k+1)) Q e1):WB P n all ops Q env:=by
 obtain⟨e,h1,h2⟩:=Vv hp;obtain⟨e',h3,h4⟩:=Vv he;rw[h1]at h3;cases h3;refine WB.steps k h1 ?_
 have hd:ops.drop (k+1)=(ops.drop k).drop 1:=by rw[C0]
 rw[hd]at h
 cases hos:ops.drop k with
 | nil=>rw[hos]at h2;cases h2
 | cons o rest =>
  rw[hos]at h2 h4 h;simp only at h2
  split at h2 <;> try cases h2
  rename_i hw
  split at h2 <;> try cases h2
  rename_i hpl;simp only[A2]at hpl;refine WB.step (e1:=e1) ?_ h;unfold stepB1;rw[hw];simp only[qfo hpl.1.1.1]
  cases hdst:o.dst with
  | none=>rw[hdst]at hpl;cases hpl.2
  | some d =>
   rw[hX];simp only[hpl.1.1.2,hpl.1.2,Bool.and_self];rw[<- hdst];exact h4
def sideB (o:Oper) (env:Env):Bool:=match o.op with
 | .call { callee:=.builtin .append,args,.. }=>match args.toList,o.dst with
  | [.tmp x,.tmp y],some d=>match aop env (.tmp x) with
   | some (.lst _ _ (some c) _)=>A0 c x && !A0 x d && !A0 y d
   | _=>false
  | _,_=>false
 | _=>false
theorem WB.append {all:LF} (hs:sideB o env=true) (hp:appPre P all o env=some (d,e,s,bytes,xs,ys,env1)) (hz:xs++ys=zs) (hc:capOk bytes zs.length=true) (he:eput n (some d) (.lst e s (some d) zs) env1=some e1) (h:WB P n all rest Q e1):WB P n all (o::rest) Q env:=by
 subst hz;simp only[capOk,A2,E9,E7]at hc;refine WB.step (e1:=e1) ?_ h;unfold stepB1;unfold sideB at hs
 split at hs <;> try (cases hs;done)
 rename_i args ats ho
 split at hs <;> try (cases hs;done)
 rename_i x y d' hax hd'
 split at hs <;> try (cases hs;done)
 rename_i ex0 kx0 c0 xs0 hx0;unfold appPre at hp
 split at hp <;> try cases hp
 rename_i hw;rw[ho]at hp;simp only[hax]at hp
 split at hp <;> try cases hp
 rename_i x' y' t t' d2 hxy hat hd;cases hxy;rw[hd']at hd;cases hd;rw[hx0]at hp
 split at hp <;> try cases hp
 rename_i a b ha hb;cases ha
 split at hp <;> try cases hp
 rename_i e s hse
 split at hp <;> try cases hp
 rename_i hcond
 split at hp <;> try cases hp
 rename_i ey ky l ys
 split at hp <;> try cases hp
 rename_i hky;simp only at hp
 split at hp <;> try cases hp
 rename_i hx
 have e1':aappend P t t' d (.lst ex0 kx0 (some c0) xs) (.lst ey ky l ys) env=some (.lst e s (some d) (xs++ys),relabE d none (relabE c0 none env)):=by
  unfold aappend;simp only[hse];split
  .rename_i hcf;exact A9 (hcf.symm.trans hcond)
  simp only[hky,hx];rw[if_pos hc]
 unfold astepB;rw[ho];simp only[hax,hat,hd',hx0,hb,hs,e1'];exact he
theorem WB.appendK {all ops:LF} (k:Nat)
  (hs:stepsEB P n all k ops env (fun os e=>match os with | o::_=>some (sideB o e) | []=>none)=some true)
  (hp:stepsEB P n all k ops env (fun os e=>match os with | o::_=>appPre P all o e | []=>none)=some (d,e,s,bytes,xs,ys,env1)) (hz:xs++ys=zs) (hc:capOk bytes zs.length=true) (he:eput n (some d) (.lst e s (some d) zs) env1=some e1) (h:WB P n all (ops.drop (k+1)) Q e1):WB P n all ops Q env:=by
 obtain⟨e,h1,h2⟩:=Vv hp;obtain⟨e',h1',h2'⟩:=Vv hs;rw[h1]at h1';cases h1';refine WB.steps k h1 ?_
 have hd:ops.drop (k+1)=(ops.drop k).drop 1:=by rw[C0]
 rw[hd]at h
 cases hos:ops.drop k with
 | nil=>rw[hos]at h2;cases h2
 | cons o rest =>
  rw[hos]at h2 h2' h;exact WB.append (Option.some.inj h2') h2 hz hc he h
def finB (P:Program) (n:Nat) (all ops:LF) (keep frz:LQ) (nl:LV) (rl:Lk) (env:Env):Ld :=
 (stepsB P n all ops.length ops env).map fun e=>weakE keep frz nl rl (dropB all e)
theorem WB.fin {all ops:LF} (keep frz:LQ) (nl:LV) (rl:Lk) (he:finB P n all ops keep frz nl rl env=some e2) (hQ:∀ e,W P n c Q' e->Q e) (h:W P n c Q' e2):WB P n all ops Q env:=by
 unfold finB at he;rw[B1]at he;obtain⟨e1,h1,h2⟩:=he;refine WB.steps ops.length h1 ?_;rw[G3];exact⟨e1,.nilB,hQ _ (W.weak keep frz nl rl h2 h)⟩
def encL {α:Type} (e k:Nat) (f:α->AV) (l:List α):AV:=.lst e k none (l.map f)
end
end Go.AM
namespace Go.AM
variable {o:Oper} {rest:LF} {draw:Bool} {Q:Env->Prop} {e1 e2 env env0 env1 hp hp2:Env} {F bytes d e f id j m off s:Nat} {C args l vs xs zs:LM} {c x y:Code} {α:Type} {Q':Ex->Env->Prop} {v:AV}
section
variable {P:Program} {n:Nat}
theorem W.mv {c:Code} {Q:Ex->Env->Prop} {env env':Env} (q:List Mv) (he:mvAll env q=env') (h:W P n c Q env'):W P n c Q env:=by
 subst he;obtain⟨ex,e1,h1,h2⟩:=h;exact⟨ex,e1,.mv q h1,h2⟩
theorem WO.mv {all ops:LF} {Q:Env->Prop} {env env':Env} (q:List Mv) (he:mvAll env q=env') (h:WO P n false all ops Q env'):WO P n false all ops Q env:=by
 subst he;obtain⟨e',h1,h2⟩:=h;exact⟨e',.mvOp q h1,h2⟩
theorem W.seqU {v:Code} {c:Operand} {x y z:Code} {Q:Ex->Env->Prop} {env e0 ei e2:Env} (p:Bool) (h0:W P n v (fun ex' e'=>ex'=.normal/\e'=e0) env) (hc:aop e0 c=some (.ub p)) (ht:p=true->W P n x (fun ex' e'=>ex'=.ret/\e'=e2) e0) (hf:W P n y (fun ex' e'=>ex'=.normal/\e'=ei) e0) (hz:W P n z (fun ex' e'=>ex'=.ret/\e'=e2) ei) (hq:Q .ret e2):W P n (.seq (.seq v (.cond c x y)) z) Q env:=by
 refine⟨.ret,e2,.seqU (e0:=e0) (ei:=ei) p ?_ hc (fun hp=>?_) ?_ ?_,hq⟩
 .obtain⟨ex',e',h1,rfl,rfl⟩:=h0;exact h1
 .obtain⟨ex',e',h1,rfl,rfl⟩:=ht hp;exact h1
 .obtain⟨ex',e',h1,rfl,rfl⟩:=hf;exact h1
 obtain⟨ex',e',h1,rfl,rfl⟩:=hz;exact h1
theorem XW {ops:LF} {k:Nat} (h:ops.drop k=o::rest):ops.drop (k+1)=rest:=by
 have hd:ops.drop (k+1)=(ops.drop k).drop 1:=by rw[C0]
 rw[hd,h];rfl
def qda (all:LF) (o:Oper) (env:Env):Option (Nat×LM×LM) :=
 match awanted all o env with
 | some true=>match o.op with
  | .call { callee:=.value f,args,.. }=>match aop env f,optAll (args.toList.map (aop env)) with
   | some (.clo g caps),some l=>match optAll (l.map (asnap env)) with
    | some l'=>some (g,l',caps)
    | none=>none
   | _,_=>none
  | _=>none
 | _=>none
theorem WO.callRF {all:LF} {r:AV} (hp:qda all o env=some (F,l,C)) (ha:l++C=args) (hok:okFn P F=true) (hpl:r.plain=true) (hr:Run P (.call F args r)) (he:eput n o.dst r env=some e1) (h:WO P n draw all rest Q e1):WO P n draw all (o::rest) Q env:=by
 subst ha;unfold qda at hp
 split at hp <;> try cases hp
 rename_i hw
 split at hp <;> try cases hp
 rename_i f args ats ho
 split at hp <;> try cases hp
 rename_i g caps l hf hl
 split at hp <;> try cases hp
 rename_i l' hl';obtain⟨e',h1,h2⟩:=h;refine⟨e',.callOpR hw ?_ hpl hr he h1,h2⟩;unfold XI;rw[ho];simp only[hf,hl];unfold okFn at hok;split at hok
 .rename_i fn hfn;simp only[hfn,hok,hl']
 cases hok
theorem WO.callRK {all ops:LF} {r:AV} (k:Nat)
  (hp:stepsE P n draw all k ops env (fun os e=>match os with | o::_=>qda all o e | []=>none)=some (F,l,C)) (ha:l++C=args) (hok:okFn P F=true) (hpl:r.plain=true) (hr:Run P (.call F args r))
  (he:stepsE P n draw all k ops env (fun os e=>match os with | o::_=>eput n o.dst r e | []=>none)=some e1) (h:WO P n draw all (ops.drop (k+1)) Q e1):WO P n draw all ops Q env:=by
 obtain⟨e,h1,h2⟩:=je hp;obtain⟨e',h3,h4⟩:=je he;rw[h1]at h3;cases h3;refine WO.steps k h1 ?_
 cases hos:ops.drop k with
 | nil=>rw[hos]at h2;cases h2
 | cons o rest =>
  rw[hos]at h2 h4;rw[XW hos]at h;exact WO.callRF h2 ha hok hpl hr h4 h
def qdb (P:Program) (all:LF) (o:Oper) (env:Env) (ρ:LU):Option (Nat×LM×Env) :=
 match awanted all o env with
 | some true=>qaH P o env ρ
 | _=>none
theorem WO.callMK {all ops:LF} {r:AV} (k:Nat) (ρ nw:LU)
  (h0:stepsE P n false all k ops env (fun os e=>match os with | o::_=>qdb P all o e ρ | []=>none)=some (F,args,hp)) (hr:Run P (.callM F args hp r hp2))
  (he:stepsE P n false all k ops env (fun os e=>match os with | o::_=>He n o.dst ρ nw r hp2 e | []=>none)=some e1) (h:WO P n false all (ops.drop (k+1)) Q e1):WO P n false all ops Q env:=by
 obtain⟨e,h1,h2⟩:=je h0;obtain⟨e',h3,h4⟩:=je he;rw[h1]at h3;cases h3;refine WO.steps k h1 ?_
 cases hos:ops.drop k with
 | nil=>rw[hos]at h2;cases h2
 | cons o rest =>
  rw[hos]at h2 h4;rw[XW hos]at h;simp only[qdb]at h2
  split at h2 <;> try cases h2
  rename_i hw;obtain⟨e2,g1,g2⟩:=h;exact⟨e2,.callOpM ρ nw hw h2 hr h4 g1,g2⟩
def stPre (P:Program) (all:LF) (o:Oper) (env:Env):Option (Nat×Nat×Nat×LM×Nat×Nat×LM) :=
 match awanted all o env with
 | some true=>match o.op with
  | .store t p x=>match o.dst,aop env p,aop env x,tSize P t with
   | none,some (.pe id k j off),some v,some sz=>match A0 v.cells.length sz,look env id with
    | true,some (.obj e k' xs)=>match A0 k k' with
     | true=>some (id,e,k,xs,j,off,v.cells)
     | false=>none
    | _,_=>none
   | _,_,_,_=>none
  | _=>none
 | _=>none
theorem WO.storeK {all ops:LF} {y y':AV} (k:Nat)
  (hp:stepsE P n draw all k ops env (fun os e=>match os with | o::_=>stPre P all o e | []=>none)=some (id,e,s,xs,j,off,vs)) (hy:xs[j]? = some y) (hput:putElem y off vs=some y') (hz:xs.set j y'=zs)
  (he:stepsE P n draw all k ops env (fun os en=>some (ins id (.obj e s zs) en))=some e1) (h:WO P n draw all (ops.drop (k+1)) Q e1):WO P n draw all ops Q env:=by
 subst hz;obtain⟨en,h1,h2⟩:=je hp;obtain⟨en',h3,h4⟩:=je he;rw[h1]at h3;cases h3;cases h4;refine WO.steps k h1 ?_
 cases hos:ops.drop k with
 | nil=>rw[hos]at h2;cases h2
 | cons o rest =>
  rw[hos]at h2;rw[XW hos]at h;simp only[stPre]at h2
  split at h2 <;> try cases h2
  rename_i hw
  split at h2 <;> try cases h2
  rename_i t p x ho
  split at h2 <;> try cases h2
  rename_i id' k' j' off' v sz hd hpp hx hsz
  split at h2 <;> try cases h2
  rename_i e' k2 xs' hlen hl
  split at h2 <;> try cases h2
  rename_i hk
  have hst:astep P n o en=some (ins id (.obj e s (xs.set j y')) en):=by
   unfold astep;rw[ho];simp only[hd,hpp,hx,hsz,hlen];unfold putObj;simp only[hl,hk,hy,hput]
  refine WO.step (e1:=ins id (.obj e s (xs.set j y')) en) ?_ h;unfold step1;rw[hw]
  cases draw with
  | true =>
   have:isEff o.op=true:=by rw[ho];rfl
   refine Zc (Ug (by rw[ho];rfl)) ?_;unfold astepD;simp only[this,hst]
  | false=>exact hst
def mkPre (P:Program) (n:Nat) (all:LF) (o:Oper) (env:Env):Option (Nat×Nat×Nat×Int×Int×Nat×AV×Env) :=
 match awanted all o env with
 | some true=>match o.op with
  | .makeSlice t l c=>match o.dst,aop env l,aop env c,Jg P t with
   | some d,some (.int _ m),some (.int _ m'),some (e,s)=>match YT P e,clearOf (1000000+d) env && D7 0 s with
    | some z,true=>match A0 z.length s && z.all AV.one with
     | true=>(eput n o.dst (.sb (1000000+d) e s 0 m.toNat) env).map fun env1=>(d,e,s,m,m',((P.info? e).map (·.bytes)).getD 0,elemOf z s,env1)
     | false=>none
    | _,_=>none
   | _,_,_,_=>none
  | _=>none
 | _=>none
def mkOk (bytes:Nat) (m:Int):Bool:=decide (0<=m) && decide (m * bytes<=281474976710656) && decide (m<=9223372036854775807)
theorem WO.makeK {all ops:LF} {m:Int} {z:AV} (k:Nat)
  (hp:stepsE P n draw all k ops env (fun os e=>match os with | o::_=>mkPre P n all o e | []=>none)=some (d,e,s,m,m,bytes,z,env1)) (hc:mkOk bytes m=true) (hz:A6 m.toNat z=zs)
  (he:ins (1000000+d) (.obj e s zs) env1=e1) (h:WO P n draw all (ops.drop (k+1)) Q e1):WO P n draw all ops Q env:=by
 subst hz;subst he;obtain⟨en,h1,h2⟩:=je hp;refine WO.steps k h1 ?_
 cases hos:ops.drop k with
 | nil=>rw[hos]at h2;cases h2
 | cons o rest =>
  rw[hos]at h2;rw[XW hos]at h;simp only[mkPre]at h2
  split at h2 <;> try cases h2
  rename_i hw
  split at h2 <;> try cases h2
  rename_i t l c ho
  split at h2 <;> try cases h2
  rename_i d' k1 m1 k2 m2 e' s' hd hl hcc hse
  split at h2 <;> try cases h2
  rename_i z' hzc hcl
  split at h2 <;> try cases h2
  rename_i hzl;rw[B1]at h2;obtain⟨env',g1,g2⟩:=h2;cases g2;simp only[mkOk,A2,decide_eq_true_eq]at hc
  have hst:astep P n o en=some (ins (1000000+d) (.obj e s (A6 m.toNat (elemOf z' s))) env1):=by
   unfold astep;rw[ho];simp only[hd,hl,hcc,hse,hzc,hcl,hzl];rw[if_pos ⟨trivial,hc.1.1,hc.1.2,hc.2⟩];rw[hd]at g1;rw[g1];rfl
  refine WO.step (e1:=ins (1000000+d) (.obj e s (A6 m.toNat (elemOf z' s))) env1) ?_ h;unfold step1;rw[hw]
  cases draw with
  | true =>
   have:isEff o.op=true:=by rw[ho];rfl
   refine Zc (Ug (by rw[ho];rfl)) ?_;unfold astepD;simp only[this,hst]
  | false=>exact hst
def aoPre (P:Program) (n:Nat) (all:LF) (o:Oper) (env:Env):Option (Nat×Nat×Nat×Nat×Nat×LM×LM×Env) :=
 match awanted all o env with
 | some true=>match o.op with
  | .call { callee:=.builtin .append,args,argTypes }=>match args.toList,argTypes.toList,o.dst with
   | [x,y],[t,t'],some d=>match aop env x,aop env y with
    | some (.sb id ex kx off m),some q=>match Jg P t with
     | some (e,s)=>match A0 t t' && D7 0 s && (match (P.info? e).bind (·.zero) with | some z=>A0 z.cells.size s | none=>false) with
      | true=>match look env id,content env q with
       | some (.obj e' k' xs),some (ky,ys)=>match A0 ex e && A0 e' e && A0 kx s && A0 k' s && A0 ky s && A0 off 0 && (usable id && D7 e 1000000000) with
        | true=>match clearOf (1000000+d) (forget id env) && (match look env d with | some (.box _)=>false | some (.obj ..)=>false | some (.hob ..)=>false | some (.bxg _)=>false | _=>true) && D7 d n with
         | true=>some (d,e,s,((P.info? e).map (·.bytes)).getD 0,m,xs,ys,forget id env)
         | false=>none
        | false=>none
       | _,_=>none
      | false=>none
     | none=>none
    | _,_=>none
   | _,_,_=>none
  | _=>none
 | _=>none
def aoPreD (P:Program) (n:Nat) (draw:Bool) (all:LF) (o:Oper) (env:Env):Option (Nat×Nat×Nat×Nat×Nat×LM×LM×Env) :=
 match !draw || lfOk all o env with
 | true=>aoPre P n all o env
 | false=>none
theorem qgR {all:LF} {r:Nat×Nat×Nat×Nat×Nat×LM×LM×Env} (h:aoPreD P n draw all o env=some r):(!draw || lfOk all o env)=true/\aoPre P n all o env=some r:=by
 unfold aoPreD at h;split at h
 .rename_i hl;exact⟨hl,h⟩
 cases h
theorem WO.appendOK {all ops:LF} {n2:Nat} {ys:LM} (k:Nat)
  (hp:stepsE P n draw all k ops env (fun os e=>match os with | o::_=>aoPreD P n draw all o e | []=>none)=some (d,e,s,bytes,m,xs,ys,env1)) (hc:capOk bytes (m+ys.length)=true) (hz:snapA 0 m xs++ys=zs) (hn:zs.length=n2)
  (he:ins (1000000+d) (.obj e s zs) (ins d (.sb (1000000+d) e s 0 n2) env1)=e1) (h:WO P n draw all (ops.drop (k+1)) Q e1):WO P n draw all ops Q env:=by
 subst hn;subst hz;subst he;obtain⟨en,h1,h2⟩:=je hp;refine WO.steps k h1 ?_
 cases hos:ops.drop k with
 | nil=>rw[hos]at h2;cases h2
 | cons o rest =>
  rw[hos]at h2;rw[XW hos]at h;simp only at h2;obtain⟨hlf0,h2⟩:=qgR h2;simp only[capOk,A2,E9]at hc;simp only[aoPre]at h2
  split at h2 <;> try cases h2
  rename_i hw
  split at h2 <;> try cases h2
  rename_i args ats ho
  split at h2 <;> try cases h2
  rename_i x y t t' d' hax hat hd
  split at h2 <;> try cases h2
  rename_i id ex kx off m' q ha hb
  split at h2 <;> try cases h2
  rename_i e' s' hse
  split at h2 <;> try cases h2
  rename_i hcond
  split at h2 <;> try cases h2
  rename_i e2 k2 xs' ky ys' hl hcon
  split at h2 <;> try cases h2
  rename_i hk
  split at h2 <;> try cases h2
  rename_i hcl
  have hao:Us P n t t' d (.sb id ex kx off m) q en=some (ins (1000000+d) (.obj e s (snapA 0 m xs++ys)) (ins d (.sb (1000000+d) e s 0 (snapA 0 m xs++ys).length) (forget id en))):=by
   unfold Us;simp only[hse];split
   .rename_i hcf;exact A9 (hcf.symm.trans hcond)
   simp only[hl,hcon,hk];split
   .rw[if_pos hc]
   rename_i hcf;exact A9 (hcf.symm.trans hcl)
  have hst:astep P n o en=some (ins (1000000+d) (.obj e s (snapA 0 m xs++ys)) (ins d (.sb (1000000+d) e s 0 (snapA 0 m xs++ys).length) (forget id en))):=by
   unfold astep;rw[ho];simp only[hax,hat,hd,ha,hb,hao]
  refine WO.step (e1:=_) ?_ h;unfold step1;rw[hw]
  cases draw with
  | true =>
   have hlf:lfOk all o en=true:=by simpa using hlf0
   have:isEff o.op=true:=by rw[ho];rfl
   refine Zc hlf ?_;unfold astepD;simp only[this,hst]
  | false=>exact hst
def PostM (P:Program) (fn:Func) (r:AV) (hp:Env):Ex->Env->Prop
 | .exit _,_=>False
 | _,e=>Df P fn e=some r/\ents e=hp
theorem qhS {r:AV} {fn:Func} (hf:P.funcs[f]? = some fn) (hb:fn.body=some c) (hlen:(A5 args.length fn.ntmps && A5 fn.ntmps 1000000 && hpOk hp)=true) (he:argsEnv 0 (args.map AV.strip)++hp=env0) (h:W P fn.ntmps c (PostM P fn r hp2) env0):Run P (.callM f args hp r hp2):=by
 subst he;obtain⟨ex,e1,h1,h2⟩:=h
 cases ex with
 | exit id=>exact h2.elim
 | normal=>obtain⟨h2,rfl⟩:=h2;exact .callM hf hb hlen h1 trivial h2
 | ret=>obtain⟨h2,rfl⟩:=h2;exact .callM hf hb hlen h1 trivial h2
theorem WO.end0 {all ops:LF} (he:stepsK P n draw all ops.length ops env=some e2) (h:Q e2):WO P n draw all ops Q env:=by
 refine WO.steps ops.length he ?_;rw[G3];exact .nil h
def snap {α:Type} (off n:Nat) (l:List α):List α:=(l.drop off).take n
theorem YC {f:α->AV} {n:Nat} {l:List α}:snapA off n (A1 f l)=A1 f (snap off n l):=by
 unfold snapA snap;rw[List.map_take,List.map_drop]
theorem XK {l:List α}:snap 0 l.length l=l:=by
 unfold snap;simp
theorem YB {n:Nat} {x:α}:snap 0 n (A6 n x)=A6 n x:=by
 unfold snap;simp
def upd {α:Type} (l:List α) (j:Nat) (v:α):Option (List α):=if j<l.length then some (l.set j v) else none
theorem qfz {l l':List α} {v:α} (h:upd l j v=some l'):∃ y,l[j]? = some y/\l.set j v=l':=by
 unfold upd at h;split at h
 .rename_i hj;exact⟨l[j],F8 hj,Option.some.inj h⟩
 cases h
theorem qln {l:List α} {y:α} {f:α->AV} (h:l[j]? = some y):(A1 f l)[j]? = some (f y):=by
 rw[A8,h];rfl
theorem qlm {l l':List α} {v:α} {f:α->AV} (h:l.set j v=l'):(A1 f l).set j (f v)=A1 f l':=by
 rw[<- h,List.map_set]
theorem qlT {β:Type} {l:List α} {y:α} {f:α->AV} {G:AV->Option β} (h:l[j]? = some y):(match (A1 f l)[j]? with | some y=>G y | none=>none)=G (f y):=by
 rw[A8,h];rfl
theorem qbP {f:α->AV} {x:α}:A6 m (f x)=A1 f (A6 m x):=List.map_replicate.symm
theorem qkC {c:Prop} [Decidable c] {x:α} (h:decide c=true):(if c then some x else none)=some x:=if_pos (oT h)
theorem W.rg {ops:Lj} {Q:Ex->Env->Prop} (h:WO P n draw ops.toList ops.toList (Q .normal) env) (hd:(!draw || (orderOk ops && jO ops))=true:=by kernel_rfl):W P n (.region id ops draw) Q env:=W.region hd h
theorem W.wk {Q:Ex->Env->Prop} {e:Env} (h:W P n c Q e) (he:weakE (e.map F6) [] [] [] env=e:=by kernel_rfl):W P n c Q env:=W.weak _ _ _ _ he h
theorem WO.fn {all ops:LF} (h:W P n c Q' e2) (he:finE P n draw all ops (e2.map F6) [] [] [] env=some e2:=by kernel_rfl) (hQ:∀ e,W P n c Q' e->Q e:=by exact fun _ h=>h):WO P n draw all ops Q env:=WO.fin _ _ _ _ he hQ h
theorem W.rt {ops:Lj} {Q:Ex->Env->Prop} (h:W P n y Q' e2) (hd:(!draw || (orderOk ops && jO ops))=true:=by kernel_rfl) (he:finE P n draw ops.toList ops.toList (e2.map F6) [] [] [] env=some e2:=by kernel_rfl) (hQ:∀ e,W P n y Q' e->Q .normal e:=by exact fun _ h=>h):W P n (.region id ops draw) Q env:=W.regT _ _ _ _ hd he hQ h
theorem W.cb {c:Operand} {Q:Ex->Env->Prop} (b:Bool) (ht:b=true->W P n x Q env) (hf:b=false->W P n y Q env) (hc:aop env c=some (.bool b):=by kernel_rfl):W P n (.cond c x y) Q env:=W.cond b hc ht hf
theorem WO.bk {all ops:LF} (k:Nat) (E:Bool->Env) (b:Bool) (ht:b=true->WO P n draw all (ops.drop k) Q (E true)) (hf:b=false->WO P n draw all (ops.drop k) Q (E false)) (he:stepsK P n draw all k ops env=some (E b):=by kernel_rfl):WO P n draw all ops Q env:=WO.boolK k E b he ht hf
def gE:Ld->Env
 | some e=>e
 | none=>[]
theorem gE_some:∀{o:Ld},o.isSome=true->o=some (gE o)
 | some _,_=>rfl
theorem WO.sl {all ops:LF} (k:Nat) (h:WO P n draw all (ops.drop k) Q (gE (stepsK P n draw all k ops env))) (he:(stepsK P n draw all k ops env).isSome=true:=by kernel_rfl):WO P n draw all ops Q env:=WO.steps k (gE_some he) h
def ap6:Option (Nat×Nat×Nat×Nat×LM×LM×Env)->Env
 | some x=>x.2.2.2.2.2.2
 | none=>[]
theorem WO.ak {all ops:LF} (k d e s:Nat) (f:α->AV) (l m:List α) (hc:capOk bytes (l++m).length=true) (h:WO P n draw all (ops.drop (k+1)) Q (gE (eput n (some d) (.lst e s (some d) (A1 f (l++m))) (ap6 (stepsE P n draw all k ops env (fun os e=>match os with | o::_=>appPreD P draw all o e | []=>none))))))  (hp:stepsE P n draw all k ops env (fun os e=>match os with | o::_=>appPreD P draw all o e | []=>none)=some (d,e,s,bytes,A1 f l,A1 f m,ap6 (stepsE P n draw all k ops env (fun os e=>match os with | o::_=>appPreD P draw all o e | []=>none))):=by kernel_rfl) (he:(eput n (some d) (.lst e s (some d) (A1 f (l++m))) (ap6 (stepsE P n draw all k ops env (fun os e=>match os with | o::_=>appPreD P draw all o e | []=>none)))).isSome=true:=by kernel_rfl):WO P n draw all ops Q env:=WO.appendK k hp List.map_append.symm (by rw[List.length_map];exact hc) (gE_some he) h
theorem WO.ck {all ops:LF} {r:AV} (k:Nat) (hr:Run P (.call F (l++C) r)) (h:WO P n draw all (ops.drop (k+1)) Q (gE (stepsE P n draw all k ops env (fun os e=>match os with | o::_=>callPut n draw o.dst r e | []=>none))))
  (hp:stepsE P n draw all k ops env (fun os e=>match os with | o::_=>callPre all o e | []=>none)=some (F,l,C):=by kernel_rfl) (hok:okFn P F=true:=by kernel_rfl)
  (he:(stepsE P n draw all k ops env (fun os e=>match os with | o::_=>callPut n draw o.dst r e | []=>none)).isSome=true:=by kernel_rfl):WO P n draw all ops Q env:=WO.callK k hp hok hr (gE_some he) h
theorem WO.cm {all ops:LF} {r:AV} (k:Nat) (ρ nw:LU) (hr:Run P (.callM F args hp r hp2)) (h:WO P n false all (ops.drop (k+1)) Q e1)
  (h0:stepsE P n false all k ops env (fun os e=>match os with | o::_=>qdb P all o e ρ | []=>none)=some (F,args,hp):=by kernel_rfl)
  (he:stepsE P n false all k ops env (fun os e=>match os with | o::_=>He n o.dst ρ nw r hp2 e | []=>none)=some e1:=by kernel_rfl):WO P n false all ops Q env:=WO.callMK k ρ nw h0 hr he h
def pureX (P:Program) (n:Nat) (draw:Bool) (all:LF) (k:Nat) (ops:LF) (env:Env) (v:AV):Option Lb :=
 stepsE P n draw all k ops env (fun os e=>match os with
   | o::_=>match awanted all o e with
    | some true=>match plainOp o.op && notBox v with
     | true=>some (apure P o e)
     | false=>none
    | _=>none
   | []=>none)
def putX (n:Nat) (P:Program) (draw:Bool) (all:LF) (k:Nat) (ops:LF) (env:Env) (v:AV):Ld :=
 stepsE P n draw all k ops env (fun os e=>match os with | o::_=>eput n o.dst v e | []=>none)
theorem WO.pk {all ops:LF} (k:Nat) (X:Lb) (hX:X=some v) (h:WO P n draw all (ops.drop (k+1)) Q (gE (putX n P draw all k ops env v))) (hp:pureX P n draw all k ops env v=some X:=by kernel_rfl) (he:(putX n P draw all k ops env v).isSome=true:=by kernel_rfl):WO P n draw all ops Q env :=
 WO.pureK k X hp hX (gE_some he) h
theorem WO.pi {all ops:LF} (k:Nat) {c:Prop} [Decidable c] (hc:decide c=true) (h:WO P n draw all (ops.drop (k+1)) Q (gE (putX n P draw all k ops env v))) (hp:pureX P n draw all k ops env v=some (if c then some v else none):=by kernel_rfl) (he:(putX n P draw all k ops env v).isSome=true:=by kernel_rfl):WO P n draw all ops Q env :=
 WO.pureK k _ hp (qkC hc) (gE_some he) h
theorem WO.pl {all ops:LF} {l:List α} {y:α} (k:Nat) (F:α->AV) (T O:Nat) (hj:l[j]? = some y) (h:WO P n draw all (ops.drop (k+1)) Q (gE (putX n P draw all k ops env v)))
  (hp:pureX P n draw all k ops env v=some (match (A1 F l)[j]? with | some y=>cut P T (y.cells.map AV.strip) O | none=>none):=by kernel_rfl) (hv:cut P T ((F y).cells.map AV.strip) O=some v:=by kernel_rfl) (he:(putX n P draw all k ops env v).isSome=true:=by kernel_rfl):WO P n draw all ops Q env :=
 WO.pureK k _ hp ((qlT (f:=F) (G:=fun y=>cut P T (y.cells.map AV.strip) O) hj).trans hv) (gE_some he) h
theorem WO.sk {all ops:LF} {l l':List α} {y w:α} (k:Nat) (F:α->AV) (hy:l[j]? = some y) (hz:l.set j w=l') (h:WO P n draw all (ops.drop (k+1)) Q (gE (stepsE P n draw all k ops env (fun os en=>some (ins id (.obj e s (A1 F l')) en)))))
  (hp:stepsE P n draw all k ops env (fun os e=>match os with | o::_=>stPre P all o e | []=>none)=some (id,e,s,A1 F l,j,off,vs):=by kernel_rfl) (hput:putElem (F y) off vs=some (F w):=by kernel_rfl)
  (he:(stepsE P n draw all k ops env (fun os en=>some (ins id (.obj e s (A1 F l')) en))).isSome=true:=by kernel_rfl):WO P n draw all ops Q env :=
 WO.storeK k hp (qln hy) hput (qlm hz) (gE_some he) h
theorem cW {r:AV} {fn:Func} (hf:P.funcs[f]? = some fn) (hb:fn.body=some c) (h:W P fn.ntmps c (Post P fn r) env0) (hlen:(A5 args.length fn.ntmps && A5 fn.ntmps 1000000)=true:=by kernel_rfl) (he:argsEnv 0 (args.map AV.strip)=env0:=by kernel_rfl):Run P (.call f args r):=qjD hf hb hlen he h
theorem cM {r:AV} {fn:Func} (hf:P.funcs[f]? = some fn) (hb:fn.body=some c) (h:W P fn.ntmps c (PostM P fn r hp2) env0) (hlen:(A5 args.length fn.ntmps && A5 fn.ntmps 1000000 && hpOk hp)=true:=by kernel_rfl) (he:argsEnv 0 (args.map AV.strip)++hp=env0:=by kernel_rfl):Run P (.callM f args hp r hp2):=qhS hf hb hlen he h
abbrev EN (l:Env):Env:=l
abbrev hB (l:LI):AV:=.hob 3 [] (A1 AV.bool l)
abbrev hZ:AV:=.hob 3 [] (A1 AV.bool (A6 252 false))
theorem WO.pq {all ops:LF} {X:Lb} (k:Nat) (hX:X=some v) (h:WO P n draw all (ops.drop (k+1)) Q (gE (putX n P draw all k ops env v))) (hp:pureX P n draw all k ops env v=some X:=by kernel_rfl) (he:(putX n P draw all k ops env v).isSome=true:=by kernel_rfl):WO P n draw all ops Q env :=
 WO.pureK k X hp hX (gE_some he) h
theorem jB {b c:Bool} (h:b=c):(some (AV.bool b):Lb)=some (.bool c):=by rw[h]
theorem jI {a b:Int} (h:a=b):(some (AV.int .i64 a):Lb)=some (.int .i64 b):=by rw[h]
theorem jM (f:α->AV) (l:List α):(some (AV.int .i64 ((A1 f l).length:Int)):Lb)=some (.int .i64 (l.length:Int)):=by rw[List.length_map]
theorem W.rr {Q:Ex->Env->Prop} (h:Q .ret env:=by exact (show jK _ _ _=some _ by kernel_rfl)):W P n .ret Q env:=W.ret h
theorem W.sr {ops:Lj} {Q:Ex->Env->Prop} (h:WO P n draw ops.toList ops.toList (Then y P n Q .normal) env) (hd:(!draw || (orderOk ops && jO ops))=true:=by kernel_rfl):W P n (.seq (.region id ops draw) y) Q env:=W.seq (W.rg h hd)
theorem WO.fi {all ops:LF} (keep frz:LQ) (h:W P n c Q' e2) (he:finE P n draw all ops keep frz [] [] env=some e2:=by kernel_rfl) (hQ:∀ e,W P n c Q' e->Q e:=by exact fun _ h=>h):WO P n draw all ops Q env:=WO.fin _ _ _ _ he hQ h
theorem W.rT {ops:Lj} {Q:Ex->Env->Prop} (keep frz:LQ) (h:W P n y Q' e2) (hd:(!draw || (orderOk ops && jO ops))=true:=by kernel_rfl) (he:finE P n draw ops.toList ops.toList keep frz [] [] env=some e2:=by kernel_rfl) (hQ:∀ e,W P n y Q' e->Q .normal e:=by exact fun _ h=>h):W P n (.region id ops draw) Q env:=W.regT _ _ _ _ hd he hQ h
theorem WO.bh {all ops:LF} {x y o:α} (k:Nat) (E:Bool->Env) (b:Bool) (h:(bif b then x else y)=o) (ht:x=o->WO P n draw all (ops.drop k) Q (E true)) (hf:y=o->WO P n draw all (ops.drop k) Q (E false)) (he:stepsK P n draw all k ops env=some (E b):=by kernel_rfl):WO P n draw all ops Q env:=WO.boolK k E b he (fun hb=>ht (by subst hb;exact h)) (fun hb=>hf (by subst hb;exact h))
theorem W.ch {c:Operand} {Q:Ex->Env->Prop} {u v o:α} (b:Bool) (h:(bif b then u else v)=o) (ht:u=o->W P n x Q env) (hf:v=o->W P n y Q env) (hc:aop env c=some (.bool b):=by kernel_rfl):W P n (.cond c x y) Q env:=W.cond b hc (fun hb=>ht (by subst hb;exact h)) (fun hb=>hf (by subst hb;exact h))
theorem W.sw {Q:Ex->Env->Prop} {e:Env} (h:W P n c Q' e) (he:weakE (e.map F6) [] [] [] env=e:=by kernel_rfl) (hQ:W P n c Q' env->Q .normal env:=by exact fun h=>h):W P n .skip Q env:=W.skip (hQ (W.wk h he))
theorem W.cF {c:Operand} {Q:Ex->Env->Prop} (h:W P n y Q env) (hc:aop env c=some (.bool false):=by kernel_rfl):W P n (.cond c x y) Q env:=W.cond false hc (fun h=>A9 h) (fun _=>h)
theorem W.cT {c:Operand} {Q:Ex->Env->Prop} (h:W P n x Q env) (hc:aop env c=some (.bool true):=by kernel_rfl):W P n (.cond c x y) Q env:=W.cond true hc (fun _=>h) (fun h=>A9 h)
end
end Go.AM
