import Derived.Test.YtdghpfejmlpjhaaASimH
import Derived.Still
set_option linter.all false
set_option maxRecDepth 100000
open Nat renaming eq_of_beq_eq_true→A0, le_refl→A1, le_of_ble_eq_true→A3, zero_add→A5, lt_add_of_pos_left→E0
open Bool renaming and_eq_true→A2
open List renaming all_eq_true→A4, getElem?_append_left→A6, getElem?_map→A7, getElem?_take→B1, mem_of_getElem?→C0, mem_of_mem_drop→D0, getElem?_append_right→D2, length→D3, mem_of_mem_take→D4, getElem?_eq_getElem→D8, eq_nil_of_length_eq_zero→D9
open Go.World renaming grownBy_alloc→A8
open Option renaming map_some→A9, map_eq_some_iff→C7
open Go.Sem renaming run_bind→D1, run_pure→D5
open Go.Result renaming andThen_ok→D6
open Go.MapKept renaming run_getObj_map→D7, run_setObj_map→E7
open Array renaming getElem?_push→E8, getElem?_modify→E9
namespace Go.AM
open Go.RowKit
variable {d s t:Nat} {x:AV} {env':Env}
section
variable {bs:Base} {n:Nat} {M:Mem} {O:Gh} {env:Env} {a:Act} {w:World} {P:Program}
theorem Ua (h:usable s=true):¬ (2000000<=s/\s<3000000):=by
 unfold usable at h;simp only[Bool.or_eq_true]at h
 rcases h with h | h
 .have:s<2000000:=A3 h;omega
 have:=A3 h;omega
theorem Qv {s t:Nat} {x:AV}:∀ {env:Env},look (env.filter fun p=>!Nat.beq p.1 s) t=some x->t≠s/\look env t=some x
 | [],h=>by simp[look]at h
 | (k,y)::r,h=>by
  simp only[List.filter_cons]at h;split at h
  .rename_i hk;simp only[look]at h ⊢;split at h
   .rename_i hb;have:=A0 hb;subst this;refine⟨fun e=>?_,h⟩;subst e;simp at hk
   exact Qv h
  rename_i hk;obtain⟨h1,h2⟩:=Qv h;refine⟨h1,?_⟩;simp only[look];split
  .rename_i hb;have:=A0 hb;subst this;exfalso;simp at hk;exact h1 hk
  exact h2
theorem ZQ (h:look (forget s env) t=some x):t≠s/\∃ y,look env t=some y/\x=killRef s y:=by
 unfold forget at h;rw[Ze (killRef s)]at h
 cases hy:look (env.filter fun p=>!Nat.beq p.1 s) t with
 | none=>rw[hy]at h;cases h
 | some y =>
  rw[hy]at h;obtain⟨h1,h2⟩:=Qv hy;exact⟨h1,y,h2,(Option.some.inj h).symm⟩
theorem Inv.dropO (h:Inv bs n M O env a w) (hu:usable s=true) (hl:∀ t x,look env' t=some x->∃ y,look env t=some y/\x=killRef s y/\(x.ent=true->t≠s)):Inv bs n M (setO O true s none) env' a w:=by
 have hsub:∀ i c g,(setO O true s none) i c=some g->O i c=some g:=by
  intro i c g hg;rw[jU]at hg;split at hg
  .cases hg
  exact hg
 refine⟨h.size,h.defers,h.below,h.hB,h.cons,h.ext,h.old,fun i c g hg=>h.own i c g (hsub i c g hg),fun i i' c c' g h1 h2=>h.inj i i' c c' g (hsub _ _ _ h1) (hsub _ _ _ h2),⟨h.fix.1,fun c k1 k2=>?_⟩,fun t x hx=>?_⟩
 .obtain⟨e1,e2,e3⟩:=h.fix.2 c k1 k2
  have hne:c≠s:=fun e=>Ua hu ⟨by omega,by omega⟩
  exact⟨(ji (O:=O) (v:=none) hne).1.trans e1,e2,e3⟩
 obtain⟨y,h1,rfl,h2⟩:=hl t x hx
 refine ((h.slots t y h1).kill s).change2 (Sub.refl M) (fun he=>ji (h2 he)) (fun c hc=>ji fun e=>?_) (fun g _ _=>⟨rfl,fun _ hm=>hm⟩) fun c g hg=>⟨by simp[jU,hg],rfl,fun _ hm=>hm⟩
 rw[e,Nu]at hc;cases hc
theorem Inv.forget (h:Inv bs n M O env a w) {s:Nat} (hu:usable s=true):Inv bs n M (setO O true s none) (forget s env) a w:=by
 refine h.dropO hu fun t x hx=>?_
 obtain⟨h1,y,h2,h3⟩:=ZQ hx;exact⟨y,h2,h3,fun _=>h1⟩
def setR (O:Gh) (t:Nat) (v:LR) (len siz:Nat):Gh :=
 ⟨fun i c=>if i=true/\c=t then v else O.o i c,fun c=>if c=t then len else O.len c,fun c=>if c=t then siz else O.siz c⟩
theorem Qf (O:Gh) (t:Nat) (v:LR) (len siz:Nat) (i:Bool) (c:Nat):(setR O t v len siz).o i c=if i=true/\c=t then v else O.o i c:=rfl
theorem HV {O:Gh} {len siz:Nat} {v:LR} (h:t≠d):Gh.Eq1 O (setR O d v len siz) t:=⟨by simp[Qf,h],by simp[setR,h],by simp[setR,h]⟩
theorem Inv.claim (h:Inv bs n M O env a w) (hc:∀ s x,look env s=some x->x.refs t=false) (ht:t<2000000) (v:LR) (len siz:Nat) 
  (hv:∀ g,v=some g->¬ bs.D g/\g<w.heap.size/\∀ i c,O i c=some g->i=true/\c=t) (hx:Sat (setR O t v len siz) M w t x (a.tmps.getD t undef)):Inv bs n M (setR O t v len siz) (ins t x env) a w:=by
 refine⟨h.size,h.defers,h.below,h.hB,h.cons,h.ext,h.old,?_,?_,⟨h.fix.1,fun c k1 k2=>?_⟩,?_⟩
 .intro i c g hg;rw[Qf]at hg;split at hg
  .exact⟨(hv g hg).1,(hv g hg).2.1⟩
  exact h.own i c g hg
 .intro i i' c c' g hg hg';rw[Qf]at hg hg';split at hg <;> split at hg'
  .rename_i e1 e2;exact⟨e1.1.trans e2.1.symm,e1.2.trans e2.2.symm⟩
  .rename_i e1 e2;exact absurd ((hv g hg).2.2 i' c' hg') e2
  .rename_i e1 e2;exact absurd ((hv g hg').2.2 i c hg) e1
  exact h.inj i i' c c' g hg hg'
 .obtain⟨e1,e2,e3⟩:=h.fix.2 c k1 k2
  have hne:c≠t:=by omega
  obtain⟨f1,f2,f3⟩:=HV (O:=O) (v:=v) (len:=len) (siz:=siz) hne;exact⟨f1.trans e1,f2.trans e2,f3.trans e3⟩
 intro s y hy;rw[je]at hy;by_cases hst:s=t
 .subst hst;rw[if_pos rfl]at hy;cases hy;exact hx
 rw[if_neg hst]at hy
 refine (h.slots s y hy).change2 (Sub.refl M) (fun _=>HV hst) (fun c hcc=>HV fun e=>?_) (fun g _ _=>⟨rfl,fun _ hm=>hm⟩) fun c g hg=>⟨by simp[Qf,hg],rfl,fun _ hm=>hm⟩
 rw[e,hc s y hy]at hcc;cases hcc
theorem qfF {z:LJ} (hz:z.length=s) (h1:z.all AV.one=true):(elemOf z s).cells=z:=by
 unfold elemOf;split
 .rename_i x
  have:x.one=true:=by simpa using h1
  exact ZB this
 rfl
theorem Zb {y:AV} (h:t≠d) (env:Env) (s:Nat):look (ins t x (ins d y env)) s=look (ins d y (ins t x env)) s:=by
 simp only[je];by_cases h1:s=t
 .subst h1;simp[h]
 simp[h1]
theorem Inv.looks (h:Inv bs n M O env a w) (he:∀ s,look env' s=look env s):Inv bs n M O env' a w :=
 h.sub fun t x hx=>.inl (by rw[<- he];exact hx)
theorem Inv.newRow (h:Inv bs n M O env a w) {e k cap g:Nat} (hd:d<n) (hdent:∀ x,look env d=some x->x.ent=false) (hc:clearOf (1000000+d) env=true) {xs:LJ} {v:Value} {cur:LO} (hk:0<k)
  (hxs:∀ x,x∈xs->x.cells.length=k/\x.cells.all AV.one=true)
  (hv:(xs=[]/\∃ ad,v=.slice ad 0 0)\/(v=.slice (some ⟨g,0,none⟩) xs.length cap/\¬ bs.D g/\g<w.heap.size/\(∀ i c,O i c≠some g)/\w.heap[g]? = some (.cells cur e (0,0))/\cur.size=cap * k/\xs.length<=cap/\cap<=maxLen/\(∀ o,M g o=none) /\
   ∀ (j:Nat) c u,(flat xs)[j]? = some c->cur[j]? = some u->R M c u)) :
  ∃ O',Inv bs n M O' (ins (1000000+d) (.obj e k xs) (ins d (.sb (1000000+d) e k 0 xs.length) env)) (a.put (some d) v) w:=by
 obtain⟨c1,c2⟩:=Jx hc;have hn:=h.fix.1
 have hne:1000000+d≠d:=by omega
 rcases hv with ⟨rfl,ad,rfl⟩ | ⟨rfl,k1,k2,k3,k4,k5,k6,k7,k8,k9⟩
 .refine⟨setR O (1000000+d) none 0 0,?_⟩;have h1:=h.claim (t:=1000000+d) (x:=.obj e k []) c2 oM none 0 0 (fun g e=>by cases e) ⟨hk,hxs,by simp[setR],.inl ⟨rfl,by simp[Qf]⟩⟩;have h2:=h1.put (d:=d) (x:=.sb (1000000+d) e k 0 0) (v:=.slice ad 0 0) hd ⟨by simp,.inl ⟨rfl,ad,rfl⟩⟩
  exact h2.looks fun s=>Zb hne env s
 refine⟨setR O (1000000+d) (some g) xs.length cur.size,?_⟩;have h1:=h.claim (t:=1000000+d) (x:=.obj e k xs) c2 oM (some g) xs.length cur.size (fun g' e=>by cases e;exact⟨k1,k2,fun i c hh=>absurd hh (k3 i c)⟩)
  ⟨hk,hxs,by simp[setR],.inr ⟨g,cur,by simp[Qf],RowAt.of k4,by simp[setR],by rw[k5];exact Nat.mul_le_mul_right _ k6,k8,k9⟩⟩
 have h2:=h1.put (d:=d) (x:=.sb (1000000+d) e k 0 xs.length) (v:=.slice (some ⟨g,0,none⟩) xs.length cap) hd ⟨by simp[setR],.inr ⟨g,cap,by simp,by simp[Qf],by simp[setR,k5],k6,by simpa using k7⟩⟩
 exact h2.looks fun s=>Zb hne env s
theorem VV {env:Env} (he:eput n (some d) x env=some env'):d<n/\env'=ins d x env/\∀ y,look env d=some y->y.ent=false:=by
 unfold eput at he;simp only at he;split at he
 .rename_i hc;cases he;simp only[A2]at hc;refine⟨A3 hc.1,rfl,fun y hy=>?_⟩;rw[hy]at hc
  cases y <;> first | rfl | cases hc.2
 cases he
theorem qcl (h:Inv bs n M O env a w) {o:Oper} {t:TypeId} {l c:Operand} (ho:o.op=.makeSlice t l c) (he:astep P n o env=some env'):Leads P bs n o a w env':=by
 unfold astep at he;rw[ho]at he;simp only at he;split at he
 case h_2=>cases he
 rename_i d k1 m k2 m' e s hd hl hcc hse;obtain⟨hu,hs⟩:=Jp hse;split at he
 case h_2=>cases he
 rename_i z hz hcl;simp only[A2]at hcl;obtain⟨hcl,hs0⟩:=hcl;have hs0:0<s:=A3 hs0;split at he
 case h_2=>cases he
 rename_i hzl;simp only[A2]at hzl;obtain⟨hz1,hz2⟩:=hzl;have hz1:=A0 hz1;split at he
 case isFalse=>cases he
 rename_i hb;obtain⟨rfl,b1,b2,b3⟩:=hb;rw[C7]at he;obtain⟨env1,he1,rfl⟩:=he;rw[hd]at he1;obtain⟨hdn,rfl,hdent⟩:=VV he1;have e1:=(qv h hl).1.int_inv;have e2:=(qv h hcc).1.int_inv;obtain⟨it,zv,hi,hzz,hzr,hzo⟩:=Xo (M:=M) hz
 have hsz:it.size=s:=by
  unfold tSize at hs;rw[hi]at hs;exact Option.some.inj hs
 have hby:((P.info? e).map (·.bytes)).getD 0=it.bytes:=by rw[hi];rfl
 rw[hby]at b2;obtain⟨q,rfl⟩:∃ q:Nat,m=q:=⟨m.toNat,by omega⟩
 have hb2:(it.bytes:Int) * q<=281474976710656:=by rw[Int.mul_comm];exact b2
 have hrun:=run_make (P:=P) w t e it zv hu hi hzz k1 k2 (q:Int) (q:Int) b1 (Int.le_refl _) hb2 b3;simp only[Int.toNat_natCast,hsz]at hrun
 have hex:(execOp a.eval o).run P w=.ok (.value (.slice (some ⟨w.heap.size,0,none⟩) q q)) (w.alloc (.cells (madeCells zv.cells (q * s)) e)):=by
  have:execOp a.eval o=vS (Instr.makeSlice t (a.eval l) (a.eval c)):=by unfold execOp;rw[ho];rfl
  rw[this,e1,e2];exact NI hrun
 have h':=h.grown (row:=none) (fun g e=>by cases e) (A8 w (.cells (madeCells zv.cells (q * s)) e) none) (Sub.refl M) (ZA h.cons _) (fun b o _ _=>rfl);have hzc:=qfF hz1 hz2
 have hty:∀ x,x∈List.replicate q (elemOf z s)->x.cells.length=s/\x.cells.all AV.one=true:=by
  intro x hx;have:=List.eq_of_mem_replicate hx;subst this;rw[hzc];exact⟨hz1,hz2⟩
 obtain⟨O',hfin⟩:=h'.newRow (d:=d) (e:=e) (k:=s) (cap:=q) (g:=w.heap.size) (xs:=List.replicate q (elemOf z s)) (v:=.slice (some ⟨w.heap.size,0,none⟩) q q) (cur:=madeCells zv.cells (q * s)) hdn hdent hcl hs0 hty
  (.inr ⟨by simp,h.fresh (A1 _),by simp,fun i c hg=>by have:=(h.own i c _ hg).2;omega,heap_alloc_new w _,size_madeCells _ _,by simp,by unfold maxLen;omega,fun o=>Xb h.cons (A1 _) o,fun j cc u hj huu=>by
   have hlt:=(List.getElem?_eq_some_iff.1 hj).1;have hfl:=jh (fun x hx=>(hty x hx).1);rw[hfl]at hlt;simp only[List.length_replicate]at hlt;have hd1:j / s<q:=Nat.div_lt_of_lt_mul (by rw[Nat.mul_comm];exact hlt);have hm1:j % s<s:=Nat.mod_lt _ hs0;have hg:=Yu (fun x hx=>(hty x hx).1) (i:=j / s) (x:=elemOf z s) (by simp[hd1]) (j % s) hm1
   have e3:j / s * s+j % s=j:=by rw[Nat.mul_comm];exact Nat.div_add_mod j s
   rw[e3,hj,hzc]at hg
   have hzs:zv.cells.size=s:=by rw[<- hzr.1,hz1]
   have hu2:zv.cells[j % s]? = some u:=by
    unfold madeCells at huu;simp only[Array.getElem?_map,Array.getElem?_range,hlt,if_true,A9,Option.some.injEq,hzs]at huu
    have:j % s<zv.cells.size:=by omega
    rw[getElem!_pos zv.cells (j % s) this]at huu;rw[<- huu];exact Array.getElem?_eq_getElem this
   exact hzr.2 _ _ _ hg.symm hu2⟩)
 refine⟨_,_,M,O',.inl hex,?_⟩;rw[hd]
 simpa using hfin
end
end Go.AM
namespace Go.AM
open Go.RowKit
variable {o:Oper} {args:Array Operand} {ats:Array TypeId}
section
variable {bs:Base} {n:Nat} {M:Mem} {O:Gh} {env:Env} {a:Act} {w:World} {P:Program}
theorem qdQ (h:Inv bs n M O env a w) {x:AV} {v:Value} (hx:ValOk O M w x v) {k:Nat} {ys:LJ} (hc:content env x=some (k,ys)) :
  (∀ y,y∈ys->y.cells.length=k/\y.cells.all AV.one=true)/\((ys=[]/\∃ ad c,v=.slice ad 0 c)\/∃ (b off cap:Nat) (us:Nat->Value),v=.slice (some ⟨b,off,none⟩) ys.length cap/\ys.length<=cap/\∀ (j:Nat) c,(flat ys)[j]? = some c->w.cell? ⟨b,off+j,none⟩=some (us j)/\R M c (us j)):=by
 cases x with
 | lst e k' l xs =>
  simp only[content,Option.some.injEq,Prod.mk.injEq]at hc;obtain⟨rfl,rfl⟩:=hc
  rcases hx.1.lst_inv with ⟨rfl,rfl | ⟨ad,cap,rfl⟩⟩ | ⟨b,off,cap,us,rfl,g1,g2,g3,g4,g5⟩
  .exact⟨by simp,.inl ⟨rfl,_,_,rfl⟩⟩
  .exact⟨by simp,.inl ⟨rfl,_,_,rfl⟩⟩
  exact⟨fun y hy=>⟨g2 y hy,g5 y hy⟩,.inr ⟨b,off,cap,us,rfl,g1,fun j c hj=>⟨JS (h.cons _ _ _ (g3 j c hj)) (Ye ((g4 j c hj).one (UQ g5 hj))),g4 j c hj⟩⟩⟩
 | sb id e k' off m =>
  simp only[content]at hc;split at hc
  case h_2=>cases hc
  rename_i e' k2 xs hl;split at hc
  case h_2=>cases hc
  rename_i hk;have hk:=A0 hk;subst hk;simp only[Option.some.injEq,Prod.mk.injEq]at hc;obtain⟨rfl,rfl⟩:=hc;obtain⟨h0,h3,h4,h5⟩:=h.slots id _ hl;obtain⟨q1,q2⟩:=hx
  have hsub:∀ y,y∈snapA off m xs->y∈xs:=fun y hy=>D0 (D4 hy)
  refine⟨fun y hy=>h3 y (hsub y hy),?_⟩
  have hlen:(snapA off m xs).length=m:=by unfold snapA;simp;omega
  rcases q2 with ⟨rfl,ad,rfl⟩ | ⟨g,cap,rfl,k1,k2,k3,k4⟩
  .exact .inl ⟨by simp[snapA],ad,0,rfl⟩
  rcases h5 with ⟨rfl,hn⟩ | ⟨g',cur,f1,f2,f3,f4,f5,f6⟩
  .rw[hn]at k1;cases k1
  have:g'=g:=by rw[f1]at k1;exact Option.some.inj k1
  subst this
  have hty:∀ y,y∈xs->y.cells.length=k':=fun y hy=>(h3 y hy).1
  refine .inr ⟨g',off * k',cap,fun j=>cur.getD (off * k'+j) undef,by rw[hlen],by rw[hlen];exact k3,fun j c hj=>?_⟩
  have hj2:(flat xs)[off * k'+j]? = some c:=by
   unfold snapA at hj;rw[Vx (k:=k') m (fun y hy=>hty y (D0 hy)),Zu off hty,B1]at hj;split at hj
   .rw[List.getElem?_drop]at hj;exact hj
   cases hj
  have hlt:=(List.getElem?_eq_some_iff.1 hj2).1;rw[jh hty]at hlt
  have e1:cur[off * k'+j]? = some (cur.getD (off * k'+j) undef):=by
   have:off * k'+j<cur.size:=by omega
   simp[this]
  exact⟨by rw[f2.cell];exact e1,f6 _ _ _ hj2 e1⟩
 | _=>simp[content]at hc
theorem qdU (h:Inv bs n M O env a w) (ho:o.op=.call { callee:=.builtin .append,args:=args,argTypes:=ats })
  {x y:Operand} {t t' d id ex kx off m:Nat} {q:AV} (ha:args.toList=[x,y]) (ht:ats.toList=[t,t']) (hd:o.dst=some d) (hp:aop env x=some (.sb id ex kx off m)) (hq:aop env y=some q) {env':Env} (he:VZ P n t t' d (.sb id ex kx off m) q env=some env'):Leads P bs n o a w env':=by
 have ea:args=#[x,y]:=by apply Array.ext';simpa using ha
 have et:ats=#[t,t']:=by apply Array.ext';simpa using ht
 subst ea;subst et;have hxv:=qv h hp;have hyv:=qv h hq;unfold VZ at he;split at he
 case h_2=>cases he
 rename_i e s hse;obtain⟨hu,hs⟩:=Jp hse;split at he
 .cases he
 rename_i hc;simp only[A2]at hc;obtain⟨⟨hc1,hc2⟩,hc3⟩:=hc;have hc1:=A0 hc1;subst hc1;have hc2:0<s:=A3 hc2
 obtain⟨ie,hie,hsz⟩:∃ ie,P.info? e=some ie/\ie.size=s:=by
  unfold tSize at hs
  cases hi:P.info? e with
  | none=>rw[hi]at hs;cases hs
  | some ie=>rw[hi]at hs;exact⟨ie,rfl,Option.some.inj hs⟩
 obtain⟨z,hz,hzs⟩:∃ z,ie.zero=some z/\z.cells.size=s:=by
  rw[hie]at hc3;simp only[Option.bind_some]at hc3
  cases hz:ie.zero with
  | none=>rw[hz]at hc3;cases hc3
  | some z=>rw[hz]at hc3;exact⟨z,rfl,A0 hc3⟩
 simp only at he;split at he
 case h_2=>cases he
 rename_i e' k' xs ky ys hl hcon;split at he
 case h_2=>cases he
 rename_i hk;simp only[A2]at hk;obtain⟨⟨⟨⟨⟨⟨hk1,hk2⟩,hk3⟩,hk4⟩,hk5⟩,hk6⟩,hus,hbig⟩:=hk;have hbig:=A3 hbig;have hk1:=A0 hk1;have hk2:=A0 hk2;have hk3:=A0 hk3;have hk4:=A0 hk4;have hk5:=A0 hk5;have hk6:=A0 hk6;subst hk1;subst hk2;subst hk3;subst hk4;subst hk5;subst hk6;split at he
 case h_2=>cases he
 rename_i hcl;simp only[A2]at hcl;obtain⟨⟨hcl,hdent⟩,hdn⟩:=hcl;have hdn:d<n:=A3 hdn;split at he
 case isFalse=>cases he
 rename_i hb;cases he
 have hby:((P.info? e').map (·.bytes)).getD 0=ie.bytes:=by rw[hie];rfl
 rw[hby]at hb;obtain⟨hy1,hy2⟩:=qdQ h hyv hcon;obtain⟨h0,h3,h4,h5⟩:=h.slots id _ hl;obtain⟨q1,q2⟩:=hxv
 have hm:m<=xs.length:=by omega
 have hty:∀ z,z∈xs->z.cells.length=ky:=fun z hz=>(h3 z hz).1
 have hx':snapA 0 m xs=xs.take m:=by simp[snapA]
 have hlen:(snapA 0 m xs).length=m:=by rw[hx'];simp;omega
 have hyc:∀ y,y∈ys->y.cells.length=ky:=fun y hy=>(hy1 y hy).1
 obtain⟨news,hnl,hnv,hn1,hnr⟩:∃ news:LT,news.length=ys.length * ky/\((a.eval y=.slice none 0 0/\ys.length=0)\/∃ ad c,a.eval y=.slice (some ad) ys.length c/\∀ (j:Nat) u,news[j]? = some u->w.cell? (ad.add j)=some u) /\
   (∀ u∈news,u.oneCell'=true)/\∀ (j:Nat) c u,(flat ys)[j]? = some c->news[j]? = some u->R M c u:=by
  rcases hy2 with ⟨rfl,ad,c,e1⟩ | ⟨b,off,cap,us,e1,e2,e3⟩
  .cases ad with
   | none =>
    refine⟨[],by simp,?_,by simp,by simp⟩;refine .inl ⟨?_,rfl⟩;have h1:=hyv;rw[e1]at h1 ⊢
    have:c=0:=by
     cases q with
     | lst e k l xs =>
      have h2:=h1.1
      cases h2 with
      | lstn=>rfl
     | sb id e k off m =>
      obtain⟨_,h2⟩:=h1
      rcases h2 with ⟨_,ad,h2⟩ | ⟨g,cap,h2,_⟩
      .cases h2;rfl
      cases h2
     | _=>simp[content]at hcon
    rw[this]
   | some ad=>exact⟨[],by simp,.inr ⟨ad,c,e1,by simp⟩,by simp,by simp⟩
  have hfl:=jh hyc;refine⟨(List.range (ys.length * ky)).map us,by simp,.inr ⟨_,cap,e1,fun j u hu=>?_⟩,fun u hu=>?_,fun j c u hc hu=>?_⟩
  .rw[JL]at hu;split at hu
   .rename_i hj;cases hu;rw[QC];exact (e3 j _ (D8 (by rw[hfl];exact hj))).1
   cases hu
  .obtain⟨j,hj,rfl⟩:=List.mem_map.1 hu;have hj:j<ys.length * ky:=List.mem_range.1 hj;have hf:=D8 (l:=flat ys) (i:=j) (by rw[hfl];exact hj);refine (e3 j _ hf).2.one ?_;have hmem:=C0 hf;unfold flat at hmem;obtain⟨y,hy,hcy⟩:=List.mem_flatMap.1 hmem;have:=(hy1 y hy).2;rw[A4]at this;exact this _ hcy
  rw[JL]at hu;split at hu
  .cases hu;exact (e3 j c hc).2
  cases hu
 have hexec:∀ v' w',(Builtin.append_ #[t,t] o.type #[a.eval x,a.eval y]).run P w=.ok v' w'->(execOp a.eval o).run P w=.ok (.value v') w':=by
  intro v' w' hr;unfold execOp;rw[ho];simp only[resolve,invoke,builtin,D1,D5,D6,List.map_toArray,List.map_cons,List.map_nil,hr]
 have hxs:∀ z,z∈snapA 0 m xs++ys->z.cells.length=ky/\z.cells.all AV.one=true:=by
  intro z hz
  rcases List.mem_append.1 hz with hz | hz
  .rw[hx']at hz;exact h3 z (D4 hz)
  exact hy1 z hz
 have h1:=h.forget (s:=id) hus
 have hdent':∀ z,look (forget id env) d=some z->z.ent=false:=by
  intro z hz;obtain⟨_,y,hy,rfl⟩:=ZQ hz
  cases hk:(killRef id y).ent with
  | false=>rfl
  | true =>
   have:=qgE hk;rw[hy]at hdent
   cases y <;> first | (cases this;done) | (cases hdent;done)
 have hflx:(flat (snapA 0 m xs)).length=m * ky:=by
  rw[jh (fun z hz=>(hxs z (List.mem_append_left _ hz)).1),hlen]
 have hflat0:flat (snapA 0 m xs)=(flat xs).take (m * ky):=by rw[hx',Vx m hty]
 obtain⟨olds,hol,hsv,hro⟩:∃ olds:LT,olds.length=m * ky/\((m=0/\∃ ad,a.eval x=.slice ad 0 0)\/∃ g cap cur,a.eval x=.slice (some ⟨g,0,none⟩) m cap/\w.heap[g]? = some (.cells cur e' (0,0))/\cur.size=cap * ky/\m<=cap/\cap<=maxLen/\cur.toList.take (m * ky)=olds/\O true id=some g/\∀ o,M g o=none) /\
   ∀ (j:Nat) c u,(flat (snapA 0 m xs))[j]? = some c->olds[j]? = some u->R M c u:=by
  rcases q2 with ⟨rfl,ad,e1⟩ | ⟨g,cap,e1,k1,k2,k3,k4⟩
  .exact⟨[],by simp,.inl ⟨rfl,ad,e1⟩,by simp⟩
  rcases h5 with ⟨rfl,hn⟩ | ⟨g',cur,f1,f2,f3,f4,f5,f6⟩
  .rw[hn]at k1;cases k1
  have f2:=f2.plain hbig
  have:g'=g:=by rw[f1]at k1;exact Option.some.inj k1
  subst this
  have hsz2:cur.size=cap * ky:=by rw[f3,k2,A5]
  have hle:m * ky<=cur.size:=by rw[hsz2];exact Nat.mul_le_mul_right _ k3
  refine⟨cur.toList.take (m * ky),by simp;omega,.inr ⟨g',cap,cur,by simpa using e1,f2,hsz2,k3,by omega,rfl,f1,f5⟩,fun j c u hc hu=>?_⟩;rw[hflat0,B1]at hc;rw[B1]at hu;split at hc
  .rename_i hj;rw[if_pos hj]at hu;exact f6 j c u hc (by simpa using hu)
  cases hc
 have hcells:∀ (cur':LO),cur'.toList.take ((m+ys.length) * ky)=olds++news->∀ (j:Nat) c u,(flat (snapA 0 m xs++ys))[j]? = some c->cur'[j]? = some u->R M c u:=by
  intro cur' htk j c u hc hu;have hlt:=(List.getElem?_eq_some_iff.1 hc).1;rw[jh (fun z hz=>(hxs z hz).1),List.length_append,hlen]at hlt
  have hu2:(olds++news)[j]? = some u:=by
   rw[<- htk,B1,if_pos hlt]
   simpa using hu
  rw[qbQ]at hc;by_cases hj:j<m * ky
  .rw[A6 (by rw[hflx];exact hj)]at hc;rw[A6 (by rw[hol];exact hj)]at hu2;exact hro j c u hc hu2
  rw[D2 (by rw[hflx];omega),hflx]at hc;rw[D2 (by rw[hol];omega),hol]at hu2;exact hnr _ c u hc hu2
 have hxl:(snapA 0 m xs++ys).length=m+ys.length:=by rw[List.length_append,hlen]
 have fin3:∀ v' w',(Builtin.append_ #[t,t] o.type #[a.eval x,a.eval y]).run P w=.ok v' w'->(∃ cap cur',v'=.slice (some ⟨w.heap.size,0,none⟩) (m+ys.length) cap/\w'=w.drew.alloc (.cells cur' e')/\cur'.size=cap * ky/\m+ys.length<=cap/\cap<=maxLen/\cur'.toList.take ((m+ys.length) * ky)=olds++news) ->
   Leads P bs n o a w (ins (1000000+d) (.obj e' ky (snapA 0 m xs++ys)) (ins d (.sb (1000000+d) e' ky 0 (snapA 0 m xs++ys).length) (forget id env))):=by
  rintro v' w' hrun ⟨cap,cur',rfl,rfl,r5,r6,r7,r8⟩
  have h2:=h1.grown (row:=none) (M':=M) (w':=w.drew.alloc (.cells cur' e')) (fun k hk=>by cases hk) ⟨rfl,rfl,rfl,by simp,fun k hk _=>heap_alloc_old w.drew _ hk⟩ (Sub.refl M) (fun b o u hu=>by
   have hb:=NJ (h.cons b o u hu);rw[Qd (w:=w) (heap_alloc_old w.drew _ hb)]
   exact h.cons b o u hu) (fun b o _ _=>rfl)
  obtain⟨O',hfin⟩:=h2.newRow (d:=d) (e:=e') (k:=ky) (cap:=cap) (g:=w.heap.size) (cur:=cur') (xs:=snapA 0 m xs++ys) (v:=.slice (some ⟨w.heap.size,0,none⟩) (m+ys.length) cap) hdn hdent' hcl hc2 hxs
   (.inr ⟨by rw[hxl],h.fresh (A1 _),by simp,fun i c hh=>by have:=(h1.own i c _ hh).2;omega,heap_alloc_new w.drew _,r5,by rw[hxl];exact r6,r7,fun o=>Xb h.cons (A1 _) o,hcells cur' r8⟩)
  exact⟨_,_,M,O',.inl (hexec _ _ hrun),by rw[hd];exact hfin⟩
 have fin1:∀ v',(Builtin.append_ #[t,t] o.type #[a.eval x,a.eval y]).run P w=.ok v' w->m+ys.length=0->(∃ ad,v'=.slice ad 0 0) ->
   Leads P bs n o a w (ins (1000000+d) (.obj e' ky (snapA 0 m xs++ys)) (ins d (.sb (1000000+d) e' ky 0 (snapA 0 m xs++ys).length) (forget id env))):=by
  rintro v' hrun hz0 ⟨ad,rfl⟩
  have hnil:snapA 0 m xs++ys=[]:=D9 oM;obtain⟨O',hfin⟩:=h1.newRow (d:=d) (e:=e') (k:=ky) (cap:=0) (g:=0) (cur:=#[]) (xs:=snapA 0 m xs++ys) (v:=.slice ad 0 0) hdn hdent' hcl hc2 hxs (.inl ⟨hnil,ad,rfl⟩);exact⟨_,_,M,O',.inl (hexec _ _ hrun),by rw[hd];exact hfin⟩
 rcases hsv with ⟨hm0,ad,e1⟩ | ⟨g',cap',cur1,e1,e2,e3,e4,e5,e6,e7,e8⟩
 .have ho0:olds=[]:=D9 (by rw[hol,hm0,Nat.zero_mul]);obtain⟨v',w',hrun,hways⟩:=qbb (w:=w) (P:=P) (t:=t) (e:=e') (i:=ie) (z:=z) (s:=ky) (ad:=ad) o.type hu hie hz hsz hc2 hzs (yv:=a.eval y) hnl hnv hn1 (by rw[<- hm0];exact hb.1) (by rw[<- hm0];exact hb.2);rw[<- e1]at hrun
  rcases hways with ⟨hz0,hv,rfl⟩ | hw
  .exact fin1 v' hrun oM hv
  refine fin3 v' w' hrun ?_;rw[hm0,ho0];exact hw
 obtain⟨v',w',hrun,hways⟩:=qca (w:=w) (P:=P) (t:=t) (e:=e') (i:=ie) (z:=z) (s:=ky) o.type hu hie hz hsz hc2 hzs (sv:=a.eval x) (yv:=a.eval y) hol hnl
  (.inr ⟨g',cap',cur1,e1,e2,e3,e4,e5,e6⟩) hnv hn1 hb.1 hb.2
 rcases hways with ⟨hv,hz0,rfl⟩ | ⟨g,cap,cur,cur',r1,r2,rfl,rfl,r5,r6,r7,r8⟩ | hw
 .exact fin1 v' hrun hz0 ⟨none,hv⟩
 .rw[e1]at r1;cases r1;obtain⟨hgD,hgs⟩:=h.own true id g' e7
  have hnoO:∀ i c,(setO O true id none) i c≠some g':=by
   intro i c hh;rw[jU]at hh;split at hh
   .cases hh
   rename_i hne;exact hne (h.inj _ _ _ _ g' hh e7)
  have h2:=h1.grown (row:=some g') (M':=M) (w':=w.setRow g' cur') (fun k hk=>by cases hk;exact⟨hgD,hnoO⟩) (Xi w g' cur') (Sub.refl M) (fun b o u hu=>by
   have hb:=NJ (h.cons b o u hu)
   have hne:b≠g':=fun e=>by subst e;rw[e8]at hu;cases hu
   rw[Qd ((Xi w g' cur').block b hb (fun e=>hne (Option.some.inj e)))]
   exact h.cons b o u hu) (fun b o _ _=>rfl)
  obtain⟨O',hfin⟩:=h2.newRow (d:=d) (e:=e') (k:=ky) (cap:=cap') (g:=g') (cur:=cur') (xs:=snapA 0 m xs++ys) (v:=.slice (some ⟨g',0,none⟩) (m+ys.length) cap') hdn hdent' hcl hc2 hxs
   (.inr ⟨by rw[hxl],hgD,by simpa using hgs,hnoO,setRow_heap w g' cur cur' e' _ r2,r5,by rw[hxl];exact r6,r7,e8,hcells cur' r8⟩)
  exact⟨_,_,M,O',.inl (hexec _ _ hrun),by rw[hd];exact hfin⟩
 exact fin3 v' w' hrun hw
theorem qfL (h:Inv bs n M O env a w) (ho:o.op=.call { callee:=.builtin .append,args:=args,argTypes:=ats }) {env':Env} (he:astep P n o env=some env'):Leads P bs n o a w env' :=
 qdT h ho he fun x y t t' d id ex kx off m q ha ht hd hp hq he=>qdU h ho ha ht hd hp hq he
end
end Go.AM
namespace Go.AM
open Go.RowKit
open Go.ChangeMaps (setBlock)
open Go.MapKept (heap_set)
variable {o:Oper} {t:TypeId} {env':Env}
section
variable {bs:Base} {n:Nat} {M:Mem} {O:Gh} {env:Env} {a:Act} {w:World} {P:Program}
theorem XE {w:World} {b:Nat} {ob o':Obj} (h:w.heap[b]? = some ob):w.grownBy (setBlock w b o') (some b) :=
 ⟨rfl,rfl,rfl,by simp[setBlock],fun i _ hi=>(heap_set h).2 i (fun e=>hi (by rw[e]))⟩
theorem qjS {O:Gh} {M:Mem} {w:World} {x:AV} {v:Value} (h:ValOk O M w x v) (he:x.mapElem=true):R M x.strip v:=by
 have:R M x v:=by
  cases x <;> first | exact h.1 | cases he
 exact this.strip
theorem qdL (h:Inv bs n M O env a w) (ho:o.op=.makeMap t none) (he:astep P n o env=some env'):Leads P bs n o a w env':=by
 unfold astep at he;rw[ho]at he;simp only at he;split at he
 case h_2=>cases he
 rename_i d q hd hq;split at he
 case h_2=>cases he
 rename_i hcl;rw[C7]at he;obtain⟨env1,he1,rfl⟩:=he;rw[hd]at he1;obtain⟨hdn,rfl,hdent⟩:=VV he1;obtain⟨c1,c2⟩:=Jx hcl;have hn:=h.fix.1;have hne:(1000000+d:Nat)≠d:=Nat.ne_of_gt (E0 (by decide))
 have hrun:(execOp a.eval o).run P w=.ok (.value (.map (some w.heap.size))) (w.alloc (.map #[] 0)):=by
  have hx:execOp a.eval o=vS (Instr.makeMap t none):=by unfold execOp;rw[ho];rfl
  rw[hx];refine NI ?_;simp[Instr.makeMap]
 have h':=h.grown (row:=none) (fun g e=>by cases e) (A8 w (.map #[] 0) none) (Sub.refl M) (ZA h.cons _) (fun b o _ _=>rfl);have h1:=h'.claim (t:=1000000+d) (x:=.hob 0 [] []) c2 oM (some w.heap.size) 0 0 (fun g' e=>by cases e;exact⟨h.fresh (A1 _),by simp,fun i c hh=>by have:=(h.own i c _ hh).2;omega⟩)
  ⟨w.heap.size,by simp[Qf],fun o=>Xb h.cons (A1 _) o,#[],0,heap_alloc_new w _,MapKept.stamped_empty 0,by simp[maxLen],rfl,rfl,fun j k e hk=>by simp at hk,fun j v e hv=>by simp at hv⟩
 have h2:=h1.put (d:=d) (x:=.mb 0 (1000000+d)) (v:=.map (some w.heap.size)) hdn ⟨w.heap.size,by simp[Qf],rfl⟩;exact⟨_,_,_,_,.inl hrun,by rw[hd];exact h2.looks fun s=>Zb hne env s⟩
theorem qfx (es:LX):leftOf es #[]=es:=by
 unfold leftOf;simp
theorem qgj (h:Inv bs n M O env a w) {x:Operand} (ho:o.op=.range t x) (he:astep P n o env=some env'):Leads P bs n o a w env':=by
 unfold astep at he;rw[ho]at he;simp only at he;split at he
 case h_2=>cases he
 rename_i d ks vs q hd hxx hq;obtain⟨kt,e⟩:=q;have hq:=Ql hq;split at he
 case h_2=>cases he
 rename_i hcl;rw[C7]at he;obtain⟨env1,he1,rfl⟩:=he;rw[hd]at he1;obtain⟨hdn,rfl,hdent⟩:=VV he1;obtain⟨c1,c2⟩:=Jx hcl;have hn:=h.fix.1;have hne:(1000000+d:Nat)≠d:=Nat.ne_of_gt (E0 (by decide));have hxv:=(qv h hxx).1
 have hx:execOp a.eval o=vS (Instr.range t (a.eval x)):=by unfold execOp;rw[ho];rfl
 have fin:∀ ob,(execOp a.eval o).run P w=.ok (.value (.pointer (some ⟨w.heap.size,0,none⟩))) (w.alloc ob) ->
   (∀ O',O'.o true (1000000+d)=some w.heap.size->HobOk O' M (w.alloc ob) (1000000+d) 1 ks vs)->Leads P bs n o a w (ins (1000000+d) (.hob 1 ks vs) (ins d (.mb 1 (1000000+d)) env)):=by
  intro ob hrun hok;have h':=h.grown (row:=none) (fun g e=>by cases e) (A8 w ob none) (Sub.refl M) (ZA h.cons _) (fun b o _ _=>rfl);have h1:=h'.claim (t:=1000000+d) (x:=.hob 1 ks vs) c2 oM (some w.heap.size) 0 0 (fun g' e=>by cases e;exact⟨h.fresh (A1 _),by simp,fun i c hh=>by have:=(h.own i c _ hh).2;omega⟩)
   (hok _ (by simp[Qf]))
  have h2:=h1.put (d:=d) (x:=.mb 1 (1000000+d)) (v:=.pointer (some ⟨w.heap.size,0,none⟩)) hdn ⟨w.heap.size,by simp[Qf],rfl⟩;exact⟨_,_,_,_,.inl hrun,by rw[hd];exact h2.looks fun s=>Zb hne env s⟩
 generalize hval:a.eval x=v at hxv
 rcases Ug hxv with ⟨rfl,rfl,rfl⟩ | ⟨ks',vs',b,es,clock,hp,rfl,h1,h2,h3,h4,h5,h6,h7⟩
 .refine fin (.mapIter none 0 #[] 0) ?_ fun O' hO'=>⟨w.heap.size,hO',fun o=>Xb h.cons (A1 _) o,.inl ⟨0,#[],heap_alloc_new w _,rfl,rfl⟩⟩
  rw[hx,hval];refine NI ?_;simp[Instr.range,run_underlying hq]
 have hb:=ZW (h.cons _ _ _ h1)
 refine fin (.mapIter (some b) clock #[] clock) ?_ fun O' hO'=>⟨w.heap.size,hO',fun o=>Xb h.cons (A1 _) o,.inr ⟨b,es,clock,#[],clock,heap_alloc_new w _,A1 _,h1,h2,?_⟩⟩
 .rw[hx,hval];refine NI ?_;simp[Instr.range,run_underlying hq,D7 hb]
 refine⟨ks',vs',hp,?_⟩;unfold LeftOk0;rw[qfx];exact⟨h4,h5,h6,h7⟩
theorem qck (h:Inv bs n M O env a w) {m k v:Operand} (ho:o.op=.mapUpdate t m k v) (he:astep P n o env=some env'):Leads P bs n o a w env':=by
 unfold astep at he;rw[ho]at he;simp only at he;split at he
 case h_2=>cases he
 rename_i id kk vv kt e hd hm hk hv hq;have ht:=Ql hq;split at he
 case h_2=>cases he
 rename_i ks vs hl;split at he
 case h_2=>cases he
 rename_i hc;simp only[A2]at hc;obtain⟨⟨⟨⟨hfit,hks⟩,hall⟩,hel⟩,hroom⟩:=hc;have hroom:ks.length<1000000000:=A3 hroom;obtain⟨g,g1,g2⟩:=qv h hm;obtain⟨g',k1,k2,es,clock,hb,E⟩:=h.slots id _ hl
 have:g'=g:=by rw[k1]at g1;exact Option.some.inj g1
 subst this;obtain⟨kv,hkv⟩:=Option.isSome_iff_exists.1 hks;have hkev:a.eval k=kv:=qeA (qv h hk) hkv;have hvr:R M vv.strip (a.eval v):=qjS (qv h hv) hel
 have hex:∀ w',(Instr.mapUpdate t (a.eval m) (a.eval k) (a.eval v)).run P w=.ok () w'->(execOp a.eval o).run P w=.ok .skip w':=by
  intro w' hr
  have:execOp a.eval o=(do Instr.mapUpdate t (a.eval m) (a.eval k) (a.eval v);pure .skip):=by unfold execOp;rw[ho]
  rw[this,D1,hr];rfl
 obtain⟨hck,hst,hfd⟩:=YE (w:=w) hfit hkv hall E;obtain⟨E1,E2,E3,E4,E5,E6⟩:=E
 have fin:∀ es' clock' ks' vs',(Instr.mapUpdate t (.map (some g')) kv (a.eval v)).run P w=.ok () (setBlock w g' (.map es' clock'))->EntOk M es' clock' ks' vs'->Leads P bs n o a w (ins id (.hob 0 ks' vs') env):=by
  intro es' clock' ks' vs' hrun E';refine⟨undef,_,M,O,.inr ⟨hex _ (by rw[g2,hkev];exact hrun),rfl⟩,?_⟩;rw[hd,Hb];exact h.setEnt hl rfl rfl k1 (XE hb) k2 ⟨g',k1,k2,es',clock',(heap_set hb).1,E'⟩
 rcases hfd with ⟨f1,f2,f3⟩ | ⟨j,e0,f1,f2,f3,f4⟩
 .rw[f1]at he;cases he;refine fin (es.push ⟨kv,a.eval v,clock⟩) (clock+1) _ _ ?_ ⟨MapKept.stamped_push E1 f3,by simp[maxLen];omega,by simp[E3],by simp[E4],fun j k' e' hk' he'=>?_,fun j v' e' hv' he'=>?_⟩
  .simp[Instr.mapUpdate,run_underlying ht,D7 hb,hck,f2,E7 _ hb,Result.andThen,setBlock]
  .rw[E8]at he';split at he'
   .rename_i hj;cases he';rw[hj,<- E3]at hk';simp at hk';subst hk';exact hkv
   rename_i hj
   have hjl:j<ks.length:=by
    have:=(Array.getElem?_eq_some_iff.1 he').1;omega
   rw[A6 hjl]at hk';exact E5 j k' e' hk' he'
  rw[E8]at he';split at he'
  .rename_i hj;cases he';rw[hj,<- E4]at hv';simp at hv';subst hv';exact hvr
  rename_i hj
  have hjl:j<vs.length:=by
   have:=(Array.getElem?_eq_some_iff.1 he').1;omega
  rw[A6 hjl]at hv';exact E6 j v' e' hv' he'
 rw[f1]at he;cases he
 have hj:es[j]? = some e0:=by simpa using f3
 have hjs:j<es.size:=(Array.getElem?_eq_some_iff.1 hj).1
 have hkeyf:∀ e',es[j]? = some e'->({ e' with key:=kv,val:=a.eval v }:MapEntry).key=e'.key:=fun e' he'=>by rw[hj]at he';cases he';exact f4.symm
 refine fin (es.modify j (fun e'=>{ e' with key:=kv,val:=a.eval v })) clock _ _ ?_ ⟨MapKept.stamped_modify E1 _ _ (fun _ _=>rfl) (fun e' _ he'=>hkeyf e' he'),by simpa using E2,by simpa using E3,by simpa using E4,fun i k' e' hk' he'=>?_,fun i v' e' hv' he'=>?_⟩
 .simp[Instr.mapUpdate,run_underlying ht,D7 hb,hck,f2,hj,f4,hst,E7 _ hb,Result.andThen,setBlock]
 .rw[E9]at he';split at he'
  .rename_i hij;subst hij;rw[hj]at he';cases he';rw[<- f4];exact E5 j k' e0 hk' hj
  exact E5 i k' e' hk' he'
 rw[E9]at he';split at he'
 .rename_i hij;subst hij;rw[hj]at he';cases he';rw[List.getElem?_set_self (by omega)]at hv';cases hv';exact hvr
 rename_i hij;rw[List.getElem?_set_ne hij]at hv';exact E6 i v' e' hv' he'
end
end Go.AM
namespace Go.AM
open Go.RowKit
variable {d e f g id k m off t:Nat} {x y:AV} {args xs:LJ} {v:Value} {o:Oper} {env':Env} {M':Mem}
section
variable {bs:Base} {n:Nat} {M:Mem} {O:Gh} {env:Env} {a:Act} {w:World} {P:Program}
theorem qjO (h:x.hasLab d=false) {c:Nat} (hc:x.lab? = some c):c≠d:=by
 intro e;subst e;simp[AV.hasLab,hc]at h
theorem Inv.clearOwn (h:Inv bs n M O env a w) (hn:labIn d env=false):Inv bs n M (setO O false d none) env a w:=by
 have hsub:∀ i c g,(setO O false d none) i c=some g->O i c=some g:=by
  intro i c g hg;rw[jU]at hg;split at hg
  .cases hg
  exact hg
 refine⟨h.size,h.defers,h.below,h.hB,h.cons,h.ext,h.old,fun i c g hg=>h.own i c g (hsub i c g hg),fun i i' c c' g h1 h2=>h.inj i i' c c' g (hsub _ _ _ h1) (hsub _ _ _ h2),⟨h.fix.1,fun c k1 k2=>?_⟩,fun t x hx=>?_⟩
 .obtain⟨e1,e2,e3⟩:=h.fix.2 c k1 k2;exact⟨(Jq O d none c).1.trans e1,e2,e3⟩
 have hs:=h.slots t x hx;have hl:=qhY hn hx
 have hf:∀ c,c≠d->(setO O false d none) false c=O false c:=fun c hc=>by simp[jU,hc]
 cases x with
 | box cs =>
  refine BoxOk.change hs (Sub.refl M) (fun g hg=>⟨by rw[(Jq O d none t).1];exact hg,rfl,fun _ hm=>hm⟩) fun c g z hz hzl hg=>⟨?_,rfl,fun _ hm=>hm⟩
  simp only[AV.hasLabB,List.any_eq_false]at hl;have:=hl z hz;rw[hf c (qjO (by simpa using this) hzl)];exact hg
 | obj e k xs=>exact ObjOk.change hs (Sub.refl M) (Jq O d none t) fun g _=>⟨rfl,fun _ hm=>hm⟩
 | hob kd ks vs=>exact HobOk.change hs (Sub.refl M) (Jq O d none t) fun g _=>⟨rfl,fun _ hm=>hm⟩
 | bxg cs=>exact BxgOk.change hs (Sub.refl M) (Jq O d none t) (fun s _=>Jq O d none s) fun g _=>⟨rfl,fun _ hm=>hm⟩
 | _ =>
  refine Yz ((UZ rfl hs).change (Sub.refl M) (fun s _=>Jq O d none s) fun c g hc hg=>⟨?_,rfl,fun _ hm=>hm⟩);rw[hf c fun e=>by subst e;rw[hl]at hc;cases hc];exact hg
theorem Inv.putFresh (h:Inv bs n M O env a w) {cap:Nat} {cur:LO} (hdn:d<n) (hn:labIn d env=false) (hR:R M (.lst e k none xs) v)
  (hv:(∃ ad,v=.slice ad 0 0)\/(v=.slice (some ⟨g,off,none⟩) xs.length cap/\¬ bs.D g/\(∀ i c,O i c≠some g)/\w.heap[g]? = some (.cells cur e (0,0))/\cur.size=off+cap * k/\xs.length<=cap/\cap<=maxLen/\∀ o,off+xs.length * k<=o->M g o=none)) :
  ∃ O',Inv bs n M O' (ins d (.lst e k (some d) xs) env) (a.put (some d) v) w:=by
 have h1:=h.clearOwn hn
 rcases hv with ⟨ad,rfl⟩ | ⟨rfl,hB,hO,hg,hs,hc,hm,hM⟩
 .exact⟨_,h1.put hdn ⟨hR.setLab,.inl ⟨ad,rfl⟩⟩⟩
 have h2:=h1.setOwn (d:=d) (g:=g) hn (by simp[jU]) (fun i c hc'=>by
  rw[jU]at hc';split at hc'
  .cases hc'
  exact hO i c hc') hB (Array.getElem?_eq_some_iff.1 hg).1
 exact⟨_,h2.put hdn ⟨hR.setLab,.inr ⟨g,off,cap,cur,rfl,by simp[jU],hg,hs,hc,hm,hM⟩⟩⟩
theorem qbB (h:Inv bs n M O env a w) {ps:Array (Nat×Operand)} (ho:o.op=.buildSlice t m ps) (he:astep P n o env=some env'):Leads P bs n o a w env':=by
 have hsave:=he;unfold astep at he;rw[ho]at he;simp only at he;split at he
 case h_2=>cases he
 rename_i v hv;unfold fresh at he;split at he
 .rename_i e k xs t' hd;split at he
  .exact Np h hv he
  rename_i hlab;rw[hd]at he;obtain⟨hdn,rfl⟩:=VW he;unfold apure at hv;rw[ho]at hv;simp only at hv;split at hv
  case h_2=>cases hv
  rename_i l hl;obtain⟨e1,k1,xs1,us,e2,h1,h2,h3,h4⟩:=Yj (P:=P) h ho hl hv;cases e2;have h':=h.grown (row:=none) (fun g e=>by cases e) (A8 w (.cells us e) none) (VB h.cons us) (Hu h.cons us e) (fun b o hb _=>NF us b o hb);have hBle:¬ bs.D w.heap.size:=h.fresh (A1 _)
  obtain⟨O',hfin⟩:=h'.putFresh (d:=t') (g:=w.heap.size) (off:=0) (cap:=xs.length) (cur:=us) hdn hlab h3 (.inr ⟨rfl,hBle,fun i c hc=>by have:=(h.own i c _ hc).2;omega,heap_alloc_new w _,by rw[A5];exact h2,A1 _,by unfold maxLen;omega,fun o ho=>by
   unfold addRow;rw[if_pos rfl];rw[A5]at ho;unfold cellsAt
   simp[h2,ho]⟩)
  exact⟨_,_,_,O',.inl h1,by rw[hd];exact hfin⟩
 rename_i hno;exact Np h hv he
theorem qkC {M:Mem} (hs:x.scalar=true) (h:R M x v):R M' x v:=by
 cases x with
 | int k m=>rw[h.int_inv];exact .int _ _
 | bool b=>rw[h.bool_inv];exact .bool _
 | str s=>rw[h.str_inv];exact .str _
 | _=>cases hs
theorem qhG (hs:x.scalar=true):x.one=true:=by
 cases x <;> first | rfl | cases hs
theorem qiw (h:Inv bs n M O env a w) (he:aagr P n o env=some env'):Leads P bs n o a w env':=by
 unfold aagr at he;split at he
 case h_2=>cases he
 rename_i t ps ho;split at he
 case h_2=>cases he
 rename_i d l hd hl;split at he
 case h_2=>cases he
 rename_i v hv;obtain⟨u,h1,h2⟩:=DA h ho hl hv;exact⟨u,w,M,O,.inl h1,XR h h2 he⟩
theorem qiu (h:Inv bs n M O env a w) (he:arow P n o env=some env'):Leads P bs n o a w env':=by
 unfold arow at he;split at he
 case h_2=>cases he
 rename_i t m ps ho;split at he
 case h_2=>cases he
 rename_i d e k xs hd hv;split at he
 case h_2=>cases he
 rename_i hc;simp only[A2,A4]at hc;obtain⟨⟨hcl,hk⟩,hx⟩:=hc;have hk:0<k:=A3 hk;rw[C7]at he;obtain⟨env1,he1,rfl⟩:=he;rw[hd]at he1;obtain⟨hdn,rfl,hdent⟩:=VV he1;unfold apure at hv;rw[ho]at hv;simp only at hv;split at hv
 case h_2=>cases hv
 rename_i l hl;obtain⟨e1,k1,xs1,us,e2,h1,h2,h3,h4⟩:=Yj (P:=P) h ho hl hv;cases e2
 have hlen:∀ x,x∈xs->x.cells.length=k:=fun x hxm=>A0 (hx x hxm).1
 have h':=h.grown (row:=none) (fun g e=>by cases e) (A8 w (.cells us e) none) (Sub.refl M) (ZA h.cons _) (fun b o _ _=>rfl);obtain⟨O',hfin⟩:=h'.newRow (d:=d) (e:=e) (k:=k) (cap:=xs.length) (g:=w.heap.size) (xs:=xs) (v:=.slice (some ⟨w.heap.size,0,none⟩) xs.length xs.length) (cur:=us) hdn hdent hcl hk
  (fun x hxm=>⟨hlen x hxm,by
   rw[A4];intro c hcm
   exact qhG ((hx x hxm).2 c hcm)⟩)
  (.inr ⟨rfl,h.fresh (A1 _),by simp,fun i c hg=>by have:=(h.own i c _ hg).2;omega,heap_alloc_new w _,h2,A1 _,by unfold maxLen;omega,fun o=>Xb h.cons (A1 _) o,fun j c u hj hu=>by
   have hsc:c.scalar=true:=by
    have hm:=C0 hj;unfold flat at hm;obtain⟨x,hxm,hcm⟩:=List.mem_flatMap.1 hm;exact (hx x hxm).2 c hcm
   cases hxs:xs with
   | nil=>rw[hxs]at hj;cases hj
   | cons x0 r0 =>
    generalize hv0:Value.slice (some ⟨w.heap.size,0,none⟩) xs.length xs.length=v0 at h3
    cases h3 with
    | lstn=>cases hv0
    | lste=>rw[hxs]at hv0;cases hv0
    | lst us' g1 g2 g5 g3 g4 =>
     injection hv0 with q1 q2 q3
     injection q1 with q1
     injection q1 with q4 q5
     subst q4;subst q5;have b1:=g3 j c hj;have b2:=g4 j c hj;unfold addRow at b1;rw[if_pos rfl,A5]at b1;have b1:=(ZU b1).1;rw[hu]at b1;rw[Option.some.inj b1]
     exact qkC hsc b2⟩)
 refine⟨_,_,M,O',.inl h1,?_⟩;rw[hd];exact hfin
theorem qbZ (h:Inv bs n M O env a w) (he:astep P n o env=some env'):Leads P bs n o a w env':=by
 obtain⟨dst,op,ty,pos,after,guard⟩:=o
 have pure:(match apure P ⟨dst,op,ty,pos,after,guard⟩ env with | some v=>eput n dst v env | none=>none)=some env'->Leads P bs n ⟨dst,op,ty,pos,after,guard⟩ a w env':=by
  intro hp;split at hp
  .rename_i v hv;exact Np h hv hp
  cases hp
 cases op with
 | alloc t=>exact qhs h rfl he
 | box t x=>exact qkh h rfl he
 | store t p x=>exact qfR h rfl he
 | buildSlice t m ps=>exact qbB h rfl he
 | makeSlice t l c=>exact qcl h rfl he
 | makeMap t r =>
  cases r with
  | none=>exact qdL h rfl he
  | some r=>exact pure he
 | range t x=>exact qgj h rfl he
 | mapUpdate t m k v=>exact qck h rfl he
 | call c =>
  obtain⟨callee,args,ats⟩:=c
  cases callee with
  | value f=>exact pure he
  | invoke r m=>exact pure he
  | builtin b =>
   cases b
   case append=>exact qfL h rfl he
   all_goals exact pure he
 | _=>exact pure he
def OwnR (M:Mem) (B:Nat) (w:World) (x:AV) (v:Value):Prop :=
 match x with
 | .lst e k (some _) xs=>(∃ ad,v=.slice ad 0 0)\/∃ g off cap cur,v=.slice (some ⟨g,off,none⟩) xs.length cap/\B<=g/\w.heap[g]? = some (.cells cur e (0,0))/\cur.size=off+cap * k/\xs.length<=cap/\cap<=maxLen/\∀ o,off+xs.length * k<=o->M g o=none
 | _=>True
def CallOk (P:Program) (f:Nat) (args:LJ) (r:AV):Prop :=
 ∀ (M:Mem) (w:World) (vs:LT),Glob M->Cons M w->args.length=vs.length->(∀ (j:Nat) c v,args[j]? = some c->vs[j]? = some v->R M c v) ->
  Calls P f vs.toArray w fun e w'=>∃ v M',e=.returned v/\Below w.heap.size w w'/\Sub M M'/\Cons M' w'/\(∀ b o,b<w.heap.size->M' b o=M b o)/\R M' r v/\OwnR M' w.heap.size w' r v
def CallMOk (P:Program) (f:Nat) (args:LJ) (hp:Env) (r:AV) (hp':Env):Prop :=
 ∀ (M:Mem) (O:Gh) (w:World) (vs:LT),Glob M->Cons M w->args.length=vs.length->(∀ i c g,O i c=some g->i=true/\g<w.heap.size)->(∀ c c' g,O true c=some g->O true c'=some g->c=c') ->
  (∀ (j:Nat) c v,args[j]? = some c->vs[j]? = some v->ValOk O M w c.strip v)->(∀ id x,look hp id=some x->Sat O M w id x undef) ->
  Calls P f vs.toArray w fun e w'=>∃ v M' O',e=.returned v/\BelowD (fun k=>k<w.heap.size/\∀ c,O true c≠some k) w w'/\Sub M M'/\Cons M' w'/\(∀ b o,b<w.heap.size->(∀ c,O true c≠some b)->M' b o=M b o) /\
   (∀ i c g,O' i c=some g->g<w'.heap.size/\(w.heap.size<=g\/∃ c',O true c'=some g))/\(∀ i i' c c' g,O' i c=some g->O' i' c'=some g->i=i'/\c=c')/\(∀ c,2000000<=c->c<3000000->Gh.Eq1 O O' c) /\
   ValOk O' M' w' r v/\∀ id x,look hp' id=some x->Sat O' M' w' id x undef
theorem Um {w w':World} (h:Below w.heap.size w w'):w.grownBy w' none:=⟨h.os,h.tape,h.output,h.size,fun k hk _=>h.block k hk⟩
theorem Ht (h : Inv bs n M O env a w) {o : Oper} {fo : Operand} {as : Array Operand} {ats : Array TypeId} (ho : o.op = .call { callee := .value fo, args := as, argTypes := ats }) {g : Nat} {caps l : LJ} (hf : aop env fo = some (.clo g caps)) (hl : optAll (as.toList.map (aop env)) = some l) {fn : Func} (hfn : P.funcs[g]? = some fn) (hb1 : (fn.name != "runtime.NumGoroutine") = true) (hb2 : fn.body.isSome = true) :
  ∃ us cvs:LT,(execOp a.eval o).run P w=.ok (.enter g (us++cvs).toArray) w/\l.length=us.length/\(∀ (j:Nat) c v,l[j]? = some c->us[j]? = some v->ValOk O M w c v)/\caps.length=cvs.length/\∀ (j:Nat) c v,caps[j]? = some c->cvs[j]? = some v->R M c v:=by
 have hfv:=(qv h hf).1
 obtain⟨cvs,e1,e2,e3⟩:∃ cvs:LT,a.eval fo=.func (.func g) #[] cvs.toArray/\caps.length=cvs.length/\∀ (j:Nat) c v,caps[j]? = some c->cvs[j]? = some v->R M c v:=by
  generalize a.eval fo=y at hfv
  cases hfv with
  | clo h1 h2=>exact⟨_,rfl,h1,h2⟩
 obtain⟨l1,l2⟩:=qah h hl;refine⟨as.toList.map a.eval,cvs,?_,l1,l2,e2,e3⟩;unfold execOp;rw[ho];simp only[resolve,D1,e1,Deferred.ofValue,D5,D6,invoke];unfold callFunc
 have hne : (fn.name == "runtime.NumGoroutine") = false := by simpa [bne] using hb1
 simp only[D1,run_program,D6,hfn,hne,Bool.false_eq_true,if_false]
 have:fn.body.isNone=false:=by
  cases hbd:fn.body with
  | none=>rw[hbd]at hb2;cases hb2
  | some c=>rfl
 rw[this];simp only[Bool.false_eq_true,if_false,D5]
 congr 2
 apply Array.ext';simp
theorem Hz {Q:AV->Value->Prop} {l caps:LJ} {us cvs:LT} (hlen:l.length=us.length) (h1:∀ (j:Nat) c v,l[j]? = some c->us[j]? = some v->Q c v) (h2:∀ (j:Nat) c v,caps[j]? = some c->cvs[j]? = some v->Q c v) :
  ∀ (j:Nat) c v,(l++caps)[j]? = some c->(us++cvs)[j]? = some v->Q c v:=by
 intro j c v hc hv;by_cases hj:j<l.length
 .rw[A6 hj]at hc;rw[A6 (by rw[<- hlen];exact hj)]at hv;exact h1 j c v hc hv
 rw[D2 (Nat.le_of_not_lt hj)]at hc;rw[D2 (by rw[<- hlen];exact Nat.le_of_not_lt hj),<- hlen]at hv;exact h2 _ c v hc hv
theorem NE (h:Inv bs n M O env a w) (hc:acallee P o env=some (f,args)) :
  ∃ vs:LT,(execOp a.eval o).run P w=.ok (.enter f vs.toArray) w/\args.length=vs.length/\∀ (j:Nat) c v,args[j]? = some c->vs[j]? = some v->R M c v:=by
 unfold acallee at hc;split at hc
 case h_2=>cases hc
 rename_i fo as ats ho;split at hc
 case h_2=>cases hc
 rename_i g caps l hf hl;split at hc
 case h_2=>cases hc
 rename_i fn hfn;split at hc
 case h_2=>cases hc
 rename_i hb;cases hc;simp only[A2]at hb;obtain⟨⟨hb1,hb2⟩,hb3⟩:=hb;obtain⟨us,cvs,h1,h2,h3,h4,h5⟩:=Ht h ho hf hl hfn hb1 hb2;refine⟨us++cvs,h1,by simp;omega,Hz (by simpa using h2) (fun j c v hc hv=>?_) h5⟩;rw[A7]at hc
 cases hz:l[j]? with
 | none=>rw[hz]at hc;cases hc
 | some z =>
  rw[hz]at hc;cases hc;have:=h3 j z v hz hv;simp only[A4]at hb3;have hz3:=hb3 z (C0 hz);refine (this.r (fun s=>?_) (fun _ _ e=>by subst e;cases hz3) fun _ e=>by subst e;cases hz3).strip
  cases z <;> first | rfl | cases hz3
def memX (M:Mem) (O:Gh) (env:Env) (w:World):Mem:=fun b o=>mc w b o
theorem Yr (h:Inv bs n M O env a w):Sub M (memX M O env w):=fun b o u hu=>h.cons b o u hu
theorem qjR (h:Inv bs n M O env a w):Cons (memX M O env w) w:=fun b o u hu=>hu
theorem qiG (h:Inv bs n M O env a w) {e':Nat} (hx:SbOk O id k off m v) (hl:look env id=some (.obj e' k xs)):R (memX M O env w) (.lst e k none (snapA off m xs)) v:=by
 obtain⟨h0,h3,h4,h5⟩:=h.slots id _ hl;obtain⟨q1,q2⟩:=hx
 have hlen:(snapA off m xs).length=m:=by unfold snapA;simp;omega
 have hsub:∀ y,y∈snapA off m xs->y∈xs:=fun y hy=>D0 (D4 hy)
 rcases q2 with ⟨rfl,ad,rfl⟩ | ⟨g,cap,rfl,k1,k2,k3,k4⟩
 .have:snapA off 0 xs=[]:=by simp[snapA]
  rw[this]
  cases ad with
  | none=>exact .lstn _ _ _
  | some ad=>exact .lste _ _ _ _ _
 rcases h5 with ⟨rfl,hn⟩ | ⟨g',cur,f1,f2,f3,f4,f5,f6⟩
 .rw[hn]at k1;cases k1
 have:g'=g:=by rw[f1]at k1;exact Option.some.inj k1
 subst this
 have hty:∀ y,y∈xs->y.cells.length=k:=fun y hy=>(h3 y hy).1
 have hcell:∀ (j:Nat) c,(flat (snapA off m xs))[j]? = some c->cur[off * k+j]? = some (cur.getD (off * k+j) undef)/\R M c (cur.getD (off * k+j) undef):=by
  intro j c hj
  have hj2:(flat xs)[off * k+j]? = some c:=by
   unfold snapA at hj;rw[Vx (k:=k) m (fun y hy=>hty y (D0 hy)),Zu off hty,B1]at hj;split at hj
   .rw[List.getElem?_drop]at hj;exact hj
   cases hj
  have hlt:=(List.getElem?_eq_some_iff.1 hj2).1;rw[jh hty]at hlt
  have e1:cur[off * k+j]? = some (cur.getD (off * k+j) undef):=by
   have:off * k+j<cur.size:=by omega
   simp[this]
  exact⟨e1,f6 _ _ _ hj2 e1⟩
 have:=R.lst (M:=memX M O env w) (e:=e) (k:=k) (l:=none) (xs:=snapA off m xs) (b:=g') (off:=off * k) (cap:=cap) (fun j=>cur.getD (off * k+j) undef) (by rw[hlen];exact k3) (fun y hy=>hty y (hsub y hy)) (fun y hy=>(h3 y (hsub y hy)).2)
  (fun j c hj=>by
   unfold memX;rw[mcRowAt f2]
   exact Jy (hcell j c hj).1 (Ye ((hcell j c hj).2.one (UQ (fun y hy=>(h3 y (hsub y hy)).2) hj)))) (fun j c hj=>(hcell j c hj).2.mono (Yr h))
 rw[hlen]at this;exact this
theorem qhg (h:Inv bs n M O env a w) {s:Nat} {cs:LJ} (hl:look env s=some (.box cs)) (hO:O true s=some g) (hy:y.cells=cs.map AV.strip):R (memX M O env w) (.ptr y) (.pointer (some ⟨g,0,none⟩)):=by
 obtain⟨cur,el,h1,h2,h3,h4⟩:=UW h hl hO
 have hcell:∀ (j:Nat) c,y.cells[j]? = some c->cur[j]? = some (cur.getD j undef)/\R M c (cur.getD j undef)/\isTup (cur.getD j undef)=false:=by
  intro j c hc;rw[hy,A7]at hc
  cases hz:cs[j]? with
  | none=>rw[hz]at hc;cases hc
  | some z =>
   rw[hz]at hc;cases hc;obtain⟨q1,q2,q3,_⟩:=h4 j z hz
   have hj:j<cur.size:=by rw[h2];exact (List.getElem?_eq_some_iff.1 hz).1
   exact⟨by simp[hj],q3.strip,Ye (q3.one q2)⟩
 refine R.ptr (fun j=>cur.getD j undef) (fun j c hc=>?_) (fun j c hc=>(hcell j c hc).2.1.mono (Yr h)) fun j c hc=>(hcell j c hc).2.2
 unfold memX;rw[mcRow h1,A5];exact Jy (hcell j c hc).1 (hcell j c hc).2.2
theorem qkY (h:Inv bs n M O env a w) {ks vs:LJ} (hl:look env id=some (.hob 0 ks vs)) (h1:O true id=some g):R (memX M O env w) (.mpv ks vs) (.map (some g)):=by
 obtain⟨g',k1,k2,es,clock,k3,k4⟩:=h.slots id _ hl
 have:g'=g:=by rw[k1]at h1;exact Option.some.inj h1
 subst this;obtain⟨q1,q2,q3,q4,q5,q6⟩:=k4
 exact .mpv (YK k3) q1 q2 q3 q4 q5 fun j v e hv he=>(q6 j v e hv he).mono (Yr h)
theorem qit {z c:AV} (h:asnapC env z=some c):c.one=true:=by
 unfold asnapC at h;split at h
 .split at h
  .cases h;rfl
  cases h
 .split at h
  .split at h
   .cases h;rfl
   cases h
  cases h
 split at h
 .rename_i h1;cases h;exact QQ h1
 cases h
theorem qaZ (h:Inv bs n M O env a w) (hx:CellR O M t x v) (hs:asnapC env x=some y):R (memX M O env w) y v:=by
 unfold asnapC at hs;split at hs
 .rename_i id;split at hs
  case h_2=>cases hs
  rename_i ks vs hl;cases hs;obtain⟨_,g,h1,h2⟩:=hx;rw[h2];exact qkY h hl h1
 .rename_i id e k off m;split at hs
  case h_2=>cases hs
  rename_i e' k2 xs hl;split at hs
  case h_2=>cases hs
  rename_i hk;have hk:=A0 hk;subst hk;cases hs;exact qiG h hx hl
 split at hs
 .rename_i h1;cases hs;exact (hx.to_r h1).mono (Yr h)
 cases hs
theorem qaY (h:Inv bs n M O env a w) (hx:CapOk O M x v) (hs:asnapP env x=some y):R (memX M O env w) y v:=by
 unfold asnapP at hs;split at hs
 .cases hs;exact R.mono (Yr h) hx
 .rename_i s;obtain⟨g,h1,h2⟩:=hx;subst h1;split at hs
  .rename_i c hl;cases hs;refine qhg h hl h2 ?_;obtain⟨cur,el,k1,k2,k3,k4⟩:=UW h hl h2;have:=(k4 0 c rfl).2.1;rw[ZB (QQ this)];rfl
  .rename_i cs _ hl;cases hs;exact qhg h hl h2 rfl
  .rename_i cs hl;obtain⟨g',cur,el,k1,k2,k3,k4,k5,k6⟩:=h.slots s _ hl
   have:g'=g:=by rw[k2]at h2;exact Option.some.inj h2
   subst this
   have key:∀ (l:LJ) (y:AV),optAll (cs.map (asnapC env))=some l->y.cells=l->R (memX M O env w) (.ptr y) (.pointer (some ⟨g',0,none⟩)):=by
    intro l y hl' hy;have hsp:=jE hl'
    have hlen:cs.length=l.length:=by simpa using congrArg D3 hsp
    have hcell:∀ (j:Nat) c,y.cells[j]? = some c->cur[j]? = some (cur.getD j undef)/\R (memX M O env w) c (cur.getD j undef)/\isTup (cur.getD j undef)=false:=by
     intro j c hc;rw[hy]at hc;have hjj:=congrArg (fun q=>q[j]?) hsp;simp only[A7,hc,A9]at hjj
     cases hz:cs[j]? with
     | none=>rw[hz]at hjj;cases hjj
     | some z =>
      rw[hz]at hjj;have hz2:asnapC env z=some c:=Option.some.inj hjj
      have hj:j<cur.size:=by rw[k4];exact (List.getElem?_eq_some_iff.1 hz).1
      have e:cur[j]? = some (cur.getD j undef):=by simp[hj]
      have q:=k6 j z _ hz e;exact⟨e,qaZ h q hz2,Ye q.one⟩
    refine R.ptr (fun j=>cur.getD j undef) (fun j c hc=>?_) (fun j c hc=>(hcell j c hc).2.1) fun j c hc=>(hcell j c hc).2.2
    unfold memX;rw[mcRow k3,A5];exact Jy (hcell j c hc).1 (hcell j c hc).2.2
   split at hs
   .rename_i c hl';cases hs;refine key [c] c hl' ?_;have hsp:=jE hl';have h0:=congrArg (fun q=>q[0]?) hsp
    cases hc0:cs[0]? with
    | none=>simp[hc0]at h0
    | some z =>
     simp[hc0]at h0;exact ZB (qit h0)
   .rename_i l _ hl';cases hs;exact key l _ hl' rfl
   cases hs
  cases hs
 cases hs
theorem qhn (h:Inv bs n M O env a w) (hx:ValOk O M w x v) (hs:asnap env x=some y):R (memX M O env w) y v:=by
 cases x with
 | sb id e k off m =>
  simp only[asnap]at hs;split at hs
  case h_2=>cases hs
  rename_i e' k2 xs hl;split at hs
  case h_2=>cases hs
  rename_i hk;have hk:=A0 hk;subst hk;cases hs;exact qiG h hx hl
 | mb kd id =>
  cases kd with
  | succ kd=>simp[asnap]at hs
  | zero =>
   simp only[asnap]at hs;split at hs
   case h_2=>cases hs
   rename_i ks vs hl;cases hs;obtain⟨g,h1,h2⟩:=hx;obtain⟨g',k1,k2,es,clock,k3,k4⟩:=h.slots id _ hl
   have:g'=g:=by rw[k1]at h1;exact Option.some.inj h1
   subst this;obtain⟨q1,q2,q3,q4,q5,q6⟩:=k4;rw[h2]
   exact .mpv (YK k3) q1 q2 q3 q4 q5 fun j v e hv he=>(q6 j v e hv he).mono (Yr h)
 | clb f caps =>
  simp only[asnap]at hs;split at hs
  case h_2=>cases hs
  rename_i l hl;cases hs;obtain⟨vs,h1,h2,h3⟩:=hx;subst h1;have hsp:=jE hl
  have hlen:caps.length=l.length:=by simpa using congrArg D3 hsp
  refine .clo oM fun j c v hc hv=>?_
  have hjj:=congrArg (fun q=>q[j]?) hsp;simp only[A7,hc,A9]at hjj
  cases hz:caps[j]? with
  | none=>rw[hz]at hjj;cases hjj
  | some z =>
   rw[hz]at hjj;exact qaY h (h3 j z v hz hv) (Option.some.inj hjj)
 | box cs=>cases hs
 | obj e k xs=>cases hs
 | hob kd ks vs=>cases hs
 | bxg cs=>cases hs
 | slf=>cases hs
 | agr cs =>
  simp only[asnap]at hs;split at hs
  case h_2=>cases hs
  rename_i l hl;cases hs;obtain⟨us,h1,h2,h3⟩:=hx;subst h1;have hsp:=jE hl
  have hlen:cs.length=l.length:=by simpa using congrArg D3 hsp
  refine R.agg oM fun j c v hc hv=>?_
  have hjj:=congrArg (fun q=>q[j]?) hsp;simp only[A7,hc,A9]at hjj
  cases hz:cs[j]? with
  | none=>rw[hz]at hjj;cases hjj
  | some z =>
   rw[hz]at hjj;exact qaZ h (h3 j z v hz hv).1 (Option.some.inj hjj)
 | pb s o =>
  simp only[asnap]at hs;exact qaY h (x:=.pb s o) hx hs
 | pe s k j o=>cases hs
 | tpr id e k off m rest=>cases hs
 | _ =>
  simp only[asnap,Option.some.injEq]at hs;subst hs;exact (hx.1.mono (Yr h)).strip
theorem qdR (h:Inv bs n M O env a w) (hc:Xr P o env=some (f,args)) :
  ∃ vs:LT,(execOp a.eval o).run P w=.ok (.enter f vs.toArray) w/\args.length=vs.length/\∀ (j:Nat) c v,args[j]? = some c->vs[j]? = some v->R (memX M O env w) c v:=by
 unfold Xr at hc;split at hc
 case h_2=>cases hc
 rename_i fo as ats ho;split at hc
 case h_2=>cases hc
 rename_i g caps l hf hl;split at hc
 case h_2=>cases hc
 rename_i fn hfn;split at hc
 case h_2=>cases hc
 rename_i l' hb hl';cases hc;simp only[A2]at hb;obtain⟨hb1,hb2⟩:=hb;obtain⟨us,cvs,h1,h2,h3,h4,h5⟩:=Ht h ho hf hl hfn hb1 hb2;have hsp:=jE hl'
 have hlen:l.length=l'.length:=by simpa using congrArg D3 hsp
 refine⟨us++cvs,h1,by simp;omega,Hz oM (fun j c v hc hv=>?_) fun j c v hc hv=>(h5 j c v hc hv).mono (Yr h)⟩;have hjj:=congrArg (fun q=>q[j]?) hsp;simp only[A7,hc,A9]at hjj
 cases hz:l[j]? with
 | none=>rw[hz]at hjj;cases hjj
 | some z =>
  rw[hz]at hjj;exact qhn h (h3 j z v hz hv) (Option.some.inj hjj)
theorem qlQ {M:Mem} (hp:x.plain=true) (h:R M x v):R M' x v:=by
 cases h with
 | int k n=>exact .int k n
 | bool b=>exact .bool b
 | str s=>exact .str s
 | @agg cs vs hl hr =>
  refine .agg hl fun j c u hc hu=>?_
  simp only[AV.plain,A4]at hp;have h1:=hp c (C0 hc);have h2:=hr j c u hc hu
  cases h2 <;> first | exact .int _ _ | exact .bool _ | exact .str _ | cases h1
 | @tup cs vs hl hr =>
  refine .tup hl fun j c u hc hu=>?_
  simp only[AV.plain,A4]at hp;have h1:=hp c (C0 hc);have h2:=hr j c u hc hu
  cases h2 <;> first | exact .int _ _ | exact .bool _ | exact .str _ | cases h1
 | _=>cases hp
theorem qet (hp:x.plain=true):x.lab? = none:=by
 cases x <;> first | rfl | cases hp
end
end Go.AM
namespace Go.AM
open Go.RowKit
variable {P:Program} {bs:Base} {n:Nat} {M:Mem} {O:Gh} {env:Env} {a:Act} {w:World}
end Go.AM
namespace Go.AM
inductive J where
 | code (n:Nat) (c:Code) (env:Env) (ex:Ex) (env':Env)
 | ops (n:Nat) (draw:Bool) (all rest:LF) (env env':Env)
 | call (f:Nat) (args:LJ) (r:AV)
 | callM (f:Nat) (args:LJ) (hp:Env) (r:AV) (hp':Env)
 | opsB (n:Nat) (all rest:LF) (env env':Env)
 | any (n:Nat) (all:LF) (R:LP) (env env':Env)
def readyR (all:LF) (R:LP) (k:Nat):Bool:=R.all fun i=>!((Region.before all.toArray).getD k 0).testBit i
inductive Run (P:Program):J->Prop where
 | skip {n env}:Run P (.code n .skip env .normal env)
 | ret {n env}:Run P (.code n .ret env .ret env)
 | exit {n env id}:Run P (.code n (.exit id) env (.exit id) env)
 | seqN {n x y env e1 ex e2}:Run P (.code n x env .normal e1)->Run P (.code n y e1 ex e2)->Run P (.code n (.seq x y) env ex e2)
 | seqX {n x y env id e1}:Run P (.code n x env (.exit id) e1)->Run P (.code n (.seq x y) env (.exit id) e1)
 | seqR {n x y env e1}:Run P (.code n x env .ret e1)->Run P (.code n (.seq x y) env .ret e1)
 | cond {n c x y env ex e1} (b:Bool):aop env c=some (.bool b)->Run P (.code n (match b with | true=>x | false=>y) env ex e1)->Run P (.code n (.cond c x y) env ex e1)
 | seqU {n v c x y z env e0 ei e2} (p:Bool):Run P (.code n v env .normal e0)->aop e0 c=some (.ub p)->(p=true->Run P (.code n x e0 .ret e2))->Run P (.code n y e0 .normal ei)->Run P (.code n z ei .ret e2)->Run P (.code n (.seq (.seq v (.cond c x y)) z) env .ret e2)
 | mv {n c env ex e1} (q:List Mv):Run P (.code n c (mvAll env q) ex e1)->Run P (.code n c env ex e1)
 | mvOp {n all rest env e1} (q:List Mv):Run P (.ops n false all rest (mvAll env q) e1)->Run P (.ops n false all rest env e1)
 | callOpR {n draw all o rest env f args r e1 e2}:awanted all o env=some true->Xr P o env=some (f,args)->r.plain=true->Run P (.call f args r)->eput n o.dst r env=some e1->Run P (.ops n draw all rest e1 e2)->Run P (.ops n draw all (o::rest) env e2)
 | callOpM {n all o rest env f args hp r hp' e1 e2} (ρ nw:LV):awanted all o env=some true->qbd P o env ρ=some (f,args,hp)->Run P (.callM f args hp r hp')->Hx n o.dst ρ nw r hp' env=some e1->Run P (.ops n false all rest e1 e2)->Run P (.ops n false all (o::rest) env e2)
 | callM {f args hp r fn c ex e1}:P.funcs[f]? = some fn->fn.body=some c->(Nat.ble args.length fn.ntmps && Nat.ble fn.ntmps 1000000 && hpOk hp)=true->Run P (.code fn.ntmps c (argsEnv 0 (args.map AV.strip)++hp) ex e1)->(match ex with | .exit _=>False | _=>True)->Dx P fn e1=some r->Run P (.callM f args hp r (ents e1))
 | block {n id c env ex e1}:Run P (.code n c env ex e1)->Run P (.code n (.block id c) env (ex.unblock id) e1)
 | loopN {n c env e1 ex e2}:Run P (.code n c env .normal e1)->Run P (.code n (.loop c) e1 ex e2)->Run P (.code n (.loop c) env ex e2)
 | loopX {n c env id e1}:Run P (.code n c env (.exit id) e1)->Run P (.code n (.loop c) env (.exit id) e1)
 | loopR {n c env e1}:Run P (.code n c env .ret e1)->Run P (.code n (.loop c) env .ret e1)
 | region {n id ops draw env e1}:(draw=true->orderOk ops=true/\ju ops=true)->Run P (.ops n draw ops.toList ops.toList env e1)->Run P (.code n (.region id ops draw) env .normal e1)
 | regionA {n id ops env e1 e2}:ju ops=true->Run P (.any n ops.toList (List.range ops.size) env e1)->Run P (.ops n false ops.toList [] e1 e2)->Run P (.code n (.region id ops true) env .normal e2)
 | anyNil {n all env}:Run P (.any n all [] env env)
 | anyStep {n all R env e1} (F:Nat->Env):R≠[]->(∀ k o,k∈R->all[k]? = some o->readyR all R k=true->Run P (.ops n false all [o] env (F k)))->(∀ k,k∈R->readyR all R k=true->Run P (.any n all (R.erase k) (F k) e1))->Run P (.any n all R env e1)
 | nilB {n all env}:Run P (.opsB n all [] env env)
 | opB {n all o rest env e1 e2}:awanted all o env=some true->astepB P n o env=some e1->Run P (.opsB n all rest e1 e2)->Run P (.opsB n all (o::rest) env e2)
 | weak {n c env ex e1} (keep frz:LP) (nl:LW) (rl:Lk):Run P (.code n c (weakE keep frz nl rl env) ex e1)->Run P (.code n c env ex e1)
 | nil {n draw all env}:Run P (.ops n draw all [] env env)
 | drop {n all rest env e1} (keep:LP):Run P (.ops n false all rest (dropE keep env) e1)->Run P (.ops n false all rest env e1)
 | not {n draw all o rest env e1 e2}:awanted all o env=some false->eput n o.dst .und env=some e1->Run P (.ops n draw all rest e1 e2)->Run P (.ops n draw all (o::rest) env e2)
 | op {n draw all o rest env e1 e2}:awanted all o env=some true->(match draw with | true=>astepDA P n all o env | false=>astep P n o env)=some e1->Run P (.ops n draw all rest e1 e2)->Run P (.ops n draw all (o::rest) env e2)
 | rowOp {n all o rest env e1 e2}:awanted all o env=some true->arow P n o env=some e1->Run P (.ops n false all rest e1 e2)->Run P (.ops n false all (o::rest) env e2)
 | agrOp {n all o rest env e1 e2}:awanted all o env=some true->aagr P n o env=some e1->Run P (.ops n false all rest e1 e2)->Run P (.ops n false all (o::rest) env e2)
 | callOp {n draw all o rest env f args r e1 e2}:awanted all o env=some true->acallee P o env=some (f,args)->Run P (.call f args r)->callPut n draw o.dst r env=some e1->Run P (.ops n draw all rest e1 e2)->Run P (.ops n draw all (o::rest) env e2)
 | ext0 {f args r}:CallOk P f args r->Run P (.call f args r)
 | extM {f args hp r hp'}:CallMOk P f args hp r hp'->(∀ id x,look hp' id=some x->x.ent=true)->Run P (.callM f args hp r hp')
 | ext {f args r vs rv}:optAll (args.map AV.val)=some vs->r.val=some rv->Known P f vs rv->Run P (.call f args r)
 | call {f args r fn c ex e1}:P.funcs[f]? = some fn->fn.body=some c->(Nat.ble args.length fn.ntmps && Nat.ble fn.ntmps 1000000)=true->Run P (.code fn.ntmps c (argsEnv 0 (args.map AV.strip)) ex e1)->(match ex with | .exit _=>False | _=>True)->jX P fn e1=some r->Run P (.call f args r)
end Go.AM
