/- s -/
import Derived.Test.YtdghpfejmlpjhaaASimR
set_option linter.unusedVariables false
set_option linter.unusedSimpArgs false
namespace Go.AM
open Go.RowKit
section
variable {bs:Base} {n:Nat} {M:Mem} {O:Gh} {env:Env} {a:Act} {w:World} {P:Program}
theorem DC (h:Inv bs n M O env a w) {x:AV} {v:Value} (hx:ValOk O M w x v) {k:Nat} {ys:List AV} (hc:content env x=some (k,ys)) :
  (∀ y,y∈ys→y.cells.length=k∧y.cells.all AV.one=true)∧((ys=[]∧∃ ad c,v=.slice ad 0 c)∨∃ (b off cap:Nat) (us:Nat→Value),v=.slice (some ⟨b,off,none⟩) ys.length cap∧ys.length≤cap∧∀ (j:Nat) c,(flat ys)[j]? = some c→w.cell? ⟨b,off+j,none⟩=some (us j)∧R M c (us j)):=by
 cases x with
 | lst e k' l xs =>
  simp only[content,Option.some.injEq,Prod.mk.injEq]at hc;obtain⟨rfl,rfl⟩:=hc
  rcases hx.1.lst_inv with ⟨rfl,rfl | ⟨ad,cap,rfl⟩⟩ | ⟨b,off,cap,us,rfl,g1,g2,g3,g4,g5⟩
  ·exact⟨by simp,.inl ⟨rfl,_,_,rfl⟩⟩
  ·exact⟨by simp,.inl ⟨rfl,_,_,rfl⟩⟩
  ·exact⟨fun y hy=>⟨g2 y hy,g5 y hy⟩,.inr ⟨b,off,cap,us,rfl,g1,fun j c hj=>⟨Ju (h.cons _ _ _ (g3 j c hj)) (QR ((g4 j c hj).one (Zp g5 hj))),g4 j c hj⟩⟩⟩
 | sb id e k' off m =>
  simp only[content]at hc
  split at hc
  case h_2=>cases hc
  rename_i e' k2 xs hl
  split at hc
  case h_2=>cases hc
  rename_i hk;have hk:=Nat.eq_of_beq_eq_true hk;subst hk;simp only[Option.some.injEq,Prod.mk.injEq]at hc;obtain⟨rfl,rfl⟩:=hc;obtain⟨h0,h3,h4,h5⟩:=h.slots id _ hl;obtain⟨q1,q2⟩:=hx
  have hsub:∀ y,y∈snapA off m xs→y∈xs:=fun y hy=>List.mem_of_mem_drop (List.mem_of_mem_take hy)
  refine⟨fun y hy=>h3 y (hsub y hy),?_⟩
  have hlen:(snapA off m xs).length=m:=by unfold snapA;simp;omega
  rcases q2 with ⟨rfl,ad,rfl⟩ | ⟨g,cap,rfl,k1,k2,k3,k4⟩
  ·exact .inl ⟨by simp[snapA],ad,0,rfl⟩
  ·rcases h5 with ⟨rfl,hn⟩ | ⟨g',cur,f1,f2,f3,f4,f5,f6⟩
   ·rw[hn]at k1;cases k1
   have:g'=g:=by rw[f1]at k1;exact Option.some.inj k1
   subst this
   have hty:∀ y,y∈xs→y.cells.length=k':=fun y hy=>(h3 y hy).1
   refine .inr ⟨g',off * k',cap,fun j=>cur.getD (off * k'+j) undef,by rw[hlen],by rw[hlen];exact k3,fun j c hj=>?_⟩
   have hj2:(flat xs)[off * k'+j]? = some c:=by
    unfold snapA at hj;rw[Xu (k:=k') m (fun y hy=>hty y (List.mem_of_mem_drop hy)),Xv off hty,List.getElem?_take]at hj
    split at hj
    ·rw[List.getElem?_drop]at hj;exact hj
    ·cases hj
   have hlt:=(List.getElem?_eq_some_iff.1 hj2).1;rw[qW hty]at hlt
   have e1:cur[off * k'+j]? = some (cur.getD (off * k'+j) undef):=by
    have:off * k'+j<cur.size:=by omega
    simp[this]
   exact⟨by rw[f2.cell];exact e1,f6 _ _ _ hj2 e1⟩
 | _=>simp[content]at hc
theorem DG (h:Inv bs n M O env a w) {o:Oper} {args:Array Operand} {ats:Array TypeId} (ho:o.op=.call { callee:=.builtin .append,args:=args,argTypes:=ats })
  {x y:Operand} {t t' d id ex kx off m:Nat} {q:AV} (ha:args.toList=[x,y]) (ht:ats.toList=[t,t']) (hd:o.dst=some d) (hp:aop env x=some (.sb id ex kx off m)) (hq:aop env y=some q) {env':Env} (he:YH P n t t' d (.sb id ex kx off m) q env=some env'):Leads P bs n o a w env':=by
 have ea:args=#[x,y]:=by apply Array.ext';simpa using ha
 have et:ats=#[t,t']:=by apply Array.ext';simpa using ht
 subst ea;subst et;have hxv:=qo h hp;have hyv:=qo h hq;unfold YH at he
 split at he
 case h_2=>cases he
 rename_i e s hse;obtain⟨hu,hs⟩:=jK hse
 split at he
 ·cases he
 rename_i hc;simp only[Bool.and_eq_true]at hc;obtain⟨⟨hc1,hc2⟩,hc3⟩:=hc;have hc1:=Nat.eq_of_beq_eq_true hc1;subst hc1;have hc2:0<s:=Nat.le_of_ble_eq_true hc2
 obtain⟨ie,hie,hsz⟩:∃ ie,P.info? e=some ie∧ie.size=s:=by
  unfold tSize at hs
  cases hi:P.info? e with
  | none=>rw[hi]at hs;cases hs
  | some ie=>rw[hi]at hs;exact⟨ie,rfl,Option.some.inj hs⟩
 obtain⟨z,hz,hzs⟩:∃ z,ie.zero=some z∧z.cells.size=s:=by
  rw[hie]at hc3;simp only[Option.bind_some]at hc3
  cases hz:ie.zero with
  | none=>rw[hz]at hc3;cases hc3
  | some z=>rw[hz]at hc3;exact⟨z,rfl,Nat.eq_of_beq_eq_true hc3⟩
 simp only at he
 split at he
 case h_2=>cases he
 rename_i e' k' xs ky ys hl hcon
 split at he
 case h_2=>cases he
 rename_i hk;simp only[Bool.and_eq_true]at hk;obtain⟨⟨⟨⟨⟨⟨hk1,hk2⟩,hk3⟩,hk4⟩,hk5⟩,hk6⟩,hus,hbig⟩:=hk;have hbig:=Nat.le_of_ble_eq_true hbig;have hk1:=Nat.eq_of_beq_eq_true hk1;have hk2:=Nat.eq_of_beq_eq_true hk2;have hk3:=Nat.eq_of_beq_eq_true hk3;have hk4:=Nat.eq_of_beq_eq_true hk4;have hk5:=Nat.eq_of_beq_eq_true hk5;have hk6:=Nat.eq_of_beq_eq_true hk6;subst hk1;subst hk2;subst hk3;subst hk4;subst hk5;subst hk6
 split at he
 case h_2=>cases he
 rename_i hcl;simp only[Bool.and_eq_true]at hcl;obtain⟨⟨hcl,hdent⟩,hdn⟩:=hcl;have hdn:d<n:=Nat.le_of_ble_eq_true hdn
 split at he
 case isFalse=>cases he
 rename_i hb;cases he
 have hby:((P.info? e').map (·.bytes)).getD 0=ie.bytes:=by rw[hie];rfl
 rw[hby]at hb;obtain⟨hy1,hy2⟩:=DC h hyv hcon;obtain⟨h0,h3,h4,h5⟩:=h.slots id _ hl;obtain⟨q1,q2⟩:=hxv
 have hm:m≤xs.length:=by omega
 have hty:∀ z,z∈xs→z.cells.length=ky:=fun z hz=>(h3 z hz).1
 have hx':snapA 0 m xs=xs.take m:=by simp[snapA]
 have hlen:(snapA 0 m xs).length=m:=by rw[hx'];simp;omega
 have hyc:∀ y,y∈ys→y.cells.length=ky:=fun y hy=>(hy1 y hy).1
 obtain⟨news,hnl,hnv,hn1,hnr⟩:∃ news:List Value,news.length=ys.length * ky∧((a.eval y=.slice none 0 0∧ys.length=0)∨∃ ad c,a.eval y=.slice (some ad) ys.length c∧∀ (j:Nat) u,news[j]? = some u→w.cell? (ad.add j)=some u) ∧
   (∀ u∈news,u.oneCell'=true)∧∀ (j:Nat) c u,(flat ys)[j]? = some c→news[j]? = some u→R M c u:=by
  rcases hy2 with ⟨rfl,ad,c,e1⟩ | ⟨b,off,cap,us,e1,e2,e3⟩
  ·cases ad with
   | none =>
    refine⟨[],by simp,?_,by simp,by simp⟩;refine .inl ⟨?_,rfl⟩;have h1:=hyv;rw[e1]at h1 ⊢
    have:c=0:=by
     cases q with
     | lst e k l xs =>
      have h2:=h1.1
      cases h2 with
      | lstn=>rfl
     | sb id e k off m =>
      obtain⟨_,h2⟩:=h1
      rcases h2 with ⟨_,ad,h2⟩ | ⟨g,cap,h2,_⟩
      ·cases h2;rfl
      ·cases h2
     | _=>simp[content]at hcon
    rw[this]
   | some ad=>exact⟨[],by simp,.inr ⟨ad,c,e1,by simp⟩,by simp,by simp⟩
  ·have hfl:=qW hyc;refine⟨(List.range (ys.length * ky)).map us,by simp,.inr ⟨_,cap,e1,fun j u hu=>?_⟩,fun u hu=>?_,fun j c u hc hu=>?_⟩
   ·rw[Jl]at hu
    split at hu
    ·rename_i hj;cases hu;rw[JU];exact (e3 j _ (List.getElem?_eq_getElem (by rw[hfl];exact hj))).1
    ·cases hu
   ·obtain⟨j,hj,rfl⟩:=List.mem_map.1 hu;have hj:j<ys.length * ky:=List.mem_range.1 hj;have hf:=List.getElem?_eq_getElem (l:=flat ys) (i:=j) (by rw[hfl];exact hj);refine (e3 j _ hf).2.one ?_;have hmem:=List.mem_of_getElem? hf;unfold flat at hmem;obtain⟨y,hy,hcy⟩:=List.mem_flatMap.1 hmem;have:=(hy1 y hy).2;rw[List.all_eq_true]at this;exact this _ hcy
   ·rw[Jl]at hu
    split at hu
    ·cases hu;exact (e3 j c hc).2
    ·cases hu
 have hexec:∀ v' w',(Builtin.append_ #[t,t] o.type #[a.eval x,a.eval y]).run P w=.ok v' w'→(execOp a.eval o).run P w=.ok (.value v') w':=by
  intro v' w' hr;unfold execOp;rw[ho];simp only[resolve,invoke,builtin,Sem.run_bind,Sem.run_pure,Result.andThen_ok,List.map_toArray,List.map_cons,List.map_nil,hr]
 have hxs:∀ z,z∈snapA 0 m xs++ys→z.cells.length=ky∧z.cells.all AV.one=true:=by
  intro z hz
  rcases List.mem_append.1 hz with hz | hz
  ·rw[hx']at hz;exact h3 z (List.mem_of_mem_take hz)
  ·exact hy1 z hz
 have h1:=h.forget (s:=id) hus
 have hdent':∀ z,look (forget id env) d=some z→z.ent=false:=by
  intro z hz;obtain⟨_,y,hy,rfl⟩:=Xt hz
  cases hk:(killRef id y).ent with
  | false=>rfl
  | true =>
   have:=qbZ hk;rw[hy]at hdent
   cases y <;> first | (cases this;done) | (cases hdent;done)
 have hflx:(flat (snapA 0 m xs)).length=m * ky:=by
  rw[qW (fun z hz=>(hxs z (List.mem_append_left _ hz)).1),hlen]
 have hflat0:flat (snapA 0 m xs)=(flat xs).take (m * ky):=by rw[hx',Xu m hty]
 obtain⟨olds,hol,hsv,hro⟩:∃ olds:List Value,olds.length=m * ky∧((m=0∧∃ ad,a.eval x=.slice ad 0 0)∨∃ g cap cur,a.eval x=.slice (some ⟨g,0,none⟩) m cap∧w.heap[g]? = some (.cells cur e' (0,0))∧cur.size=cap * ky∧m≤cap∧cap≤maxLen∧cur.toList.take (m * ky)=olds∧O true id=some g∧∀ o,M g o=none) ∧
   ∀ (j:Nat) c u,(flat (snapA 0 m xs))[j]? = some c→olds[j]? = some u→R M c u:=by
  rcases q2 with ⟨rfl,ad,e1⟩ | ⟨g,cap,e1,k1,k2,k3,k4⟩
  ·exact⟨[],by simp,.inl ⟨rfl,ad,e1⟩,by simp⟩
  ·rcases h5 with ⟨rfl,hn⟩ | ⟨g',cur,f1,f2,f3,f4,f5,f6⟩
   ·rw[hn]at k1;cases k1
   have f2:=f2.plain hbig
   have:g'=g:=by rw[f1]at k1;exact Option.some.inj k1
   subst this
   have hsz2:cur.size=cap * ky:=by rw[f3,k2,Nat.zero_add]
   have hle:m * ky≤cur.size:=by rw[hsz2];exact Nat.mul_le_mul_right _ k3
   refine⟨cur.toList.take (m * ky),by simp;omega,.inr ⟨g',cap,cur,by simpa using e1,f2,hsz2,k3,by omega,rfl,f1,f5⟩,fun j c u hc hu=>?_⟩;rw[hflat0,List.getElem?_take]at hc;rw[List.getElem?_take]at hu
   split at hc
   ·rename_i hj;rw[if_pos hj]at hu;exact f6 j c u hc (by simpa using hu)
   ·cases hc
 have hcells:∀ (cur':Array Value),cur'.toList.take ((m+ys.length) * ky)=olds++news→∀ (j:Nat) c u,(flat (snapA 0 m xs++ys))[j]? = some c→cur'[j]? = some u→R M c u:=by
  intro cur' htk j c u hc hu;have hlt:=(List.getElem?_eq_some_iff.1 hc).1;rw[qW (fun z hz=>(hxs z hz).1),List.length_append,hlen]at hlt
  have hu2:(olds++news)[j]? = some u:=by
   rw[← htk,List.getElem?_take,if_pos hlt]
   simpa using hu
  rw[NN]at hc
  by_cases hj:j<m * ky
  ·rw[List.getElem?_append_left (by rw[hflx];exact hj)]at hc;rw[List.getElem?_append_left (by rw[hol];exact hj)]at hu2;exact hro j c u hc hu2
  ·rw[List.getElem?_append_right (by rw[hflx];omega),hflx]at hc;rw[List.getElem?_append_right (by rw[hol];omega),hol]at hu2;exact hnr _ c u hc hu2
 have hxl:(snapA 0 m xs++ys).length=m+ys.length:=by rw[List.length_append,hlen]
 have fin3:∀ v' w',(Builtin.append_ #[t,t] o.type #[a.eval x,a.eval y]).run P w=.ok v' w'→(∃ cap cur',v'=.slice (some ⟨w.heap.size,0,none⟩) (m+ys.length) cap∧w'=w.drew.alloc (.cells cur' e')∧cur'.size=cap * ky∧m+ys.length≤cap∧cap≤maxLen∧cur'.toList.take ((m+ys.length) * ky)=olds++news) →
   Leads P bs n o a w (ins (1000000+d) (.obj e' ky (snapA 0 m xs++ys)) (ins d (.sb (1000000+d) e' ky 0 (snapA 0 m xs++ys).length) (forget id env))):=by
  rintro v' w' hrun ⟨cap,cur',rfl,rfl,r5,r6,r7,r8⟩
  have h2:=h1.grown (row:=none) (M':=M) (w':=w.drew.alloc (.cells cur' e')) (fun k hk=>by cases hk) ⟨rfl,rfl,rfl,by simp,fun k hk _=>heap_alloc_old w.drew _ hk⟩ (Sub.refl M) (fun b o u hu=>by
   have hb:=ZL (h.cons b o u hu);rw[Qp (w:=w) (heap_alloc_old w.drew _ hb)]
   exact h.cons b o u hu) (fun b o _ _=>rfl)
  obtain⟨O',hfin⟩:=h2.newRow (d:=d) (e:=e') (k:=ky) (cap:=cap) (g:=w.heap.size) (cur:=cur') (xs:=snapA 0 m xs++ys) (v:=.slice (some ⟨w.heap.size,0,none⟩) (m+ys.length) cap) hdn hdent' hcl hc2 hxs
   (.inr ⟨by rw[hxl],h.fresh (Nat.le_refl _),by simp,fun i c hh=>by have:=(h1.own i c _ hh).2;omega,heap_alloc_new w.drew _,r5,by rw[hxl];exact r6,r7,fun o=>Qf h.cons (Nat.le_refl _) o,hcells cur' r8⟩)
  exact⟨_,_,M,O',.inl (hexec _ _ hrun),by rw[hd];exact hfin⟩
 have fin1:∀ v',(Builtin.append_ #[t,t] o.type #[a.eval x,a.eval y]).run P w=.ok v' w→m+ys.length=0→(∃ ad,v'=.slice ad 0 0) →
   Leads P bs n o a w (ins (1000000+d) (.obj e' ky (snapA 0 m xs++ys)) (ins d (.sb (1000000+d) e' ky 0 (snapA 0 m xs++ys).length) (forget id env))):=by
  rintro v' hrun hz0 ⟨ad,rfl⟩
  have hnil:snapA 0 m xs++ys=[]:=List.eq_nil_of_length_eq_zero (by omega);obtain⟨O',hfin⟩:=h1.newRow (d:=d) (e:=e') (k:=ky) (cap:=0) (g:=0) (cur:=#[]) (xs:=snapA 0 m xs++ys) (v:=.slice ad 0 0) hdn hdent' hcl hc2 hxs (.inl ⟨hnil,ad,rfl⟩);exact⟨_,_,M,O',.inl (hexec _ _ hrun),by rw[hd];exact hfin⟩
 rcases hsv with ⟨hm0,ad,e1⟩ | ⟨g',cap',cur1,e1,e2,e3,e4,e5,e6,e7,e8⟩
 ·have ho0:olds=[]:=List.eq_nil_of_length_eq_zero (by rw[hol,hm0,Nat.zero_mul]);obtain⟨v',w',hrun,hways⟩:=UY (w:=w) (P:=P) (t:=t) (e:=e') (i:=ie) (z:=z) (s:=ky) (ad:=ad) o.type hu hie hz hsz hc2 hzs (yv:=a.eval y) hnl hnv hn1 (by rw[← hm0];exact hb.1) (by rw[← hm0];exact hb.2);rw[← e1]at hrun
  rcases hways with ⟨hz0,hv,rfl⟩ | hw
  ·exact fin1 v' hrun (by omega) hv
  ·refine fin3 v' w' hrun ?_;rw[hm0,ho0];exact hw
 ·obtain⟨v',w',hrun,hways⟩:=NY (w:=w) (P:=P) (t:=t) (e:=e') (i:=ie) (z:=z) (s:=ky) o.type hu hie hz hsz hc2 hzs (sv:=a.eval x) (yv:=a.eval y) hol hnl
   (.inr ⟨g',cap',cur1,e1,e2,e3,e4,e5,e6⟩) hnv hn1 hb.1 hb.2
  rcases hways with ⟨hv,hz0,rfl⟩ | ⟨g,cap,cur,cur',r1,r2,rfl,rfl,r5,r6,r7,r8⟩ | hw
  ·exact fin1 v' hrun hz0 ⟨none,hv⟩
  ·rw[e1]at r1;cases r1;obtain⟨hgD,hgs⟩:=h.own true id g' e7
   have hnoO:∀ i c,(setO O true id none) i c≠some g':=by
    intro i c hh;rw[jL]at hh
    split at hh
    ·cases hh
    ·rename_i hne;exact hne (h.inj _ _ _ _ g' hh e7)
   have h2:=h1.grown (row:=some g') (M':=M) (w':=w.setRow g' cur') (fun k hk=>by cases hk;exact⟨hgD,hnoO⟩) (JW w g' cur') (Sub.refl M) (fun b o u hu=>by
    have hb:=ZL (h.cons b o u hu)
    have hne:b≠g':=fun e=>by subst e;rw[e8]at hu;cases hu
    rw[Qp ((JW w g' cur').block b hb (fun e=>hne (Option.some.inj e)))]
    exact h.cons b o u hu) (fun b o _ _=>rfl)
   obtain⟨O',hfin⟩:=h2.newRow (d:=d) (e:=e') (k:=ky) (cap:=cap') (g:=g') (cur:=cur') (xs:=snapA 0 m xs++ys) (v:=.slice (some ⟨g',0,none⟩) (m+ys.length) cap') hdn hdent' hcl hc2 hxs
    (.inr ⟨by rw[hxl],hgD,by simpa using hgs,hnoO,setRow_heap w g' cur cur' e' _ r2,r5,by rw[hxl];exact r6,r7,e8,hcells cur' r8⟩)
   exact⟨_,_,M,O',.inl (hexec _ _ hrun),by rw[hd];exact hfin⟩
  ·exact fin3 v' w' hrun hw
theorem qbq (h:Inv bs n M O env a w) {o:Oper} {args:Array Operand} {ats:Array TypeId} (ho:o.op=.call { callee:=.builtin .append,args:=args,argTypes:=ats }) {env':Env} (he:astep P n o env=some env'):Leads P bs n o a w env' :=
 DF h ho he fun x y t t' d id ex kx off m q ha ht hd hp hq he=>DG h ho ha ht hd hp hq he
end
end Go.AM
namespace Go.AM
open Go.RowKit
open Go.ChangeMaps (setBlock)
open Go.MapKept (heap_set)
section
variable {bs:Base} {n:Nat} {M:Mem} {O:Gh} {env:Env} {a:Act} {w:World} {P:Program}
theorem QE {w:World} {b:Nat} {ob o':Obj} (h:w.heap[b]? = some ob):w.grownBy (setBlock w b o') (some b) :=
 ⟨rfl,rfl,rfl,by simp[setBlock],fun i _ hi=>(heap_set h).2 i (fun e=>hi (by rw[e]))⟩
theorem qeO {O:Gh} {M:Mem} {w:World} {x:AV} {v:Value} (h:ValOk O M w x v) (he:x.mapElem=true):R M x.strip v:=by
 have:R M x v:=by
  cases x <;> first | exact h.1 | cases he
 exact this.strip
theorem Dx (h:Inv bs n M O env a w) {o:Oper} {t:TypeId} (ho:o.op=.makeMap t none) {env':Env} (he:astep P n o env=some env'):Leads P bs n o a w env':=by
 unfold astep at he;rw[ho]at he;simp only at he
 split at he
 case h_2=>cases he
 rename_i d q hd hq
 split at he
 case h_2=>cases he
 rename_i hcl;rw[Option.map_eq_some_iff]at he;obtain⟨env1,he1,rfl⟩:=he;rw[hd]at he1;obtain⟨hdn,rfl,hdent⟩:=YC he1;obtain⟨c1,c2⟩:=jO hcl;have hn:=h.fix.1;have hne:(1000000+d:Nat)≠d:=Nat.ne_of_gt (Nat.lt_add_of_pos_left (by decide))
 have hrun:(execOp a.eval o).run P w=.ok (.value (.map (some w.heap.size))) (w.alloc (.map #[] 0)):=by
  have hx:execOp a.eval o=vS (Instr.makeMap t none):=by unfold execOp;rw[ho];rfl
  rw[hx];refine ZK ?_
  simp[Instr.makeMap]
 have h':=h.grown (row:=none) (fun g e=>by cases e) (World.grownBy_alloc w (.map #[] 0) none) (Sub.refl M) (XS h.cons _) (fun b o _ _=>rfl);have h1:=h'.claim (t:=1000000+d) (x:=.hob 0 [] []) c2 (by omega) (some w.heap.size) 0 0 (fun g' e=>by cases e;exact⟨h.fresh (Nat.le_refl _),by simp,fun i c hh=>by have:=(h.own i c _ hh).2;omega⟩)
  ⟨w.heap.size,by simp[Ji],fun o=>Qf h.cons (Nat.le_refl _) o,#[],0,heap_alloc_new w _,MapKept.stamped_empty 0,by simp[maxLen],rfl,rfl,fun j k e hk=>by simp at hk,fun j v e hv=>by simp at hv⟩
 have h2:=h1.put (d:=d) (x:=.mb 0 (1000000+d)) (v:=.map (some w.heap.size)) hdn ⟨w.heap.size,by simp[Ji],rfl⟩;exact⟨_,_,_,_,.inl hrun,by rw[hd];exact h2.looks fun s=>QQ hne env s⟩
theorem qbd (es:Array MapEntry):leftOf es #[]=es:=by
 unfold leftOf
 simp
theorem qbO (h:Inv bs n M O env a w) {o:Oper} {t:TypeId} {x:Operand} (ho:o.op=.range t x) {env':Env} (he:astep P n o env=some env'):Leads P bs n o a w env':=by
 unfold astep at he;rw[ho]at he;simp only at he
 split at he
 case h_2=>cases he
 rename_i d ks vs q hd hxx hq;obtain⟨kt,e⟩:=q;have hq:=QB hq
 split at he
 case h_2=>cases he
 rename_i hcl;rw[Option.map_eq_some_iff]at he;obtain⟨env1,he1,rfl⟩:=he;rw[hd]at he1;obtain⟨hdn,rfl,hdent⟩:=YC he1;obtain⟨c1,c2⟩:=jO hcl;have hn:=h.fix.1;have hne:(1000000+d:Nat)≠d:=Nat.ne_of_gt (Nat.lt_add_of_pos_left (by decide));have hxv:=(qo h hxx).1
 have hx:execOp a.eval o=vS (Instr.range t (a.eval x)):=by unfold execOp;rw[ho];rfl
 have fin:∀ ob,(execOp a.eval o).run P w=.ok (.value (.pointer (some ⟨w.heap.size,0,none⟩))) (w.alloc ob) →
   (∀ O',O'.o true (1000000+d)=some w.heap.size→HobOk O' M (w.alloc ob) (1000000+d) 1 ks vs)→Leads P bs n o a w (ins (1000000+d) (.hob 1 ks vs) (ins d (.mb 1 (1000000+d)) env)):=by
  intro ob hrun hok;have h':=h.grown (row:=none) (fun g e=>by cases e) (World.grownBy_alloc w ob none) (Sub.refl M) (XS h.cons _) (fun b o _ _=>rfl);have h1:=h'.claim (t:=1000000+d) (x:=.hob 1 ks vs) c2 (by omega) (some w.heap.size) 0 0 (fun g' e=>by cases e;exact⟨h.fresh (Nat.le_refl _),by simp,fun i c hh=>by have:=(h.own i c _ hh).2;omega⟩)
   (hok _ (by simp[Ji]))
  have h2:=h1.put (d:=d) (x:=.mb 1 (1000000+d)) (v:=.pointer (some ⟨w.heap.size,0,none⟩)) hdn ⟨w.heap.size,by simp[Ji],rfl⟩;exact⟨_,_,_,_,.inl hrun,by rw[hd];exact h2.looks fun s=>QQ hne env s⟩
 generalize hval:a.eval x=v at hxv
 rcases UF hxv with ⟨rfl,rfl,rfl⟩ | ⟨ks',vs',b,es,clock,hp,rfl,h1,h2,h3,h4,h5,h6,h7⟩
 ·refine fin (.mapIter none 0 #[] 0) ?_ fun O' hO'=>⟨w.heap.size,hO',fun o=>Qf h.cons (Nat.le_refl _) o,.inl ⟨0,#[],heap_alloc_new w _,rfl,rfl⟩⟩
  rw[hx,hval];refine ZK ?_
  simp[Instr.range,run_underlying hq]
 ·have hb:=YW (h.cons _ _ _ h1)
  refine fin (.mapIter (some b) clock #[] clock) ?_ fun O' hO'=>⟨w.heap.size,hO',fun o=>Qf h.cons (Nat.le_refl _) o,.inr ⟨b,es,clock,#[],clock,heap_alloc_new w _,Nat.le_refl _,h1,h2,?_⟩⟩
  ·rw[hx,hval];refine ZK ?_
   simp[Instr.range,run_underlying hq,MapKept.run_getObj_map hb]
  ·refine⟨ks',vs',hp,?_⟩;unfold LeftOk0;rw[qbd];exact⟨h4,h5,h6,h7⟩
theorem Hh (h:Inv bs n M O env a w) {o:Oper} {t:TypeId} {m k v:Operand} (ho:o.op=.mapUpdate t m k v) {env':Env} (he:astep P n o env=some env'):Leads P bs n o a w env':=by
 unfold astep at he;rw[ho]at he;simp only at he
 split at he
 case h_2=>cases he
 rename_i id kk vv kt e hd hm hk hv hq;have ht:=QB hq
 split at he
 case h_2=>cases he
 rename_i ks vs hl
 split at he
 case h_2=>cases he
 rename_i hc;simp only[Bool.and_eq_true]at hc;obtain⟨⟨⟨⟨hfit,hks⟩,hall⟩,hel⟩,hroom⟩:=hc;have hroom:ks.length<1000000000:=Nat.le_of_ble_eq_true hroom;obtain⟨g,g1,g2⟩:=qo h hm;obtain⟨g',k1,k2,es,clock,hb,E⟩:=h.slots id _ hl
 have:g'=g:=by rw[k1]at g1;exact Option.some.inj g1
 subst this;obtain⟨kv,hkv⟩:=Option.isSome_iff_exists.1 hks;have hkev:a.eval k=kv:=qad (qo h hk) hkv;have hvr:R M vv.strip (a.eval v):=qeO (qo h hv) hel
 have hex:∀ w',(Instr.mapUpdate t (a.eval m) (a.eval k) (a.eval v)).run P w=.ok () w'→(execOp a.eval o).run P w=.ok .skip w':=by
  intro w' hr
  have:execOp a.eval o=(do Instr.mapUpdate t (a.eval m) (a.eval k) (a.eval v);pure .skip):=by unfold execOp;rw[ho]
  rw[this,Sem.run_bind,hr];rfl
 obtain⟨hck,hst,hfd⟩:=YB (w:=w) hfit hkv hall E;obtain⟨E1,E2,E3,E4,E5,E6⟩:=E
 have fin:∀ es' clock' ks' vs',(Instr.mapUpdate t (.map (some g')) kv (a.eval v)).run P w=.ok () (setBlock w g' (.map es' clock'))→EntOk M es' clock' ks' vs'→Leads P bs n o a w (ins id (.hob 0 ks' vs') env):=by
  intro es' clock' ks' vs' hrun E';refine⟨undef,_,M,O,.inr ⟨hex _ (by rw[g2,hkev];exact hrun),rfl⟩,?_⟩;rw[hd,Vf];exact h.setEnt hl rfl rfl k1 (QE hb) k2 ⟨g',k1,k2,es',clock',(heap_set hb).1,E'⟩
 rcases hfd with ⟨f1,f2,f3⟩ | ⟨j,e0,f1,f2,f3,f4⟩
 ·rw[f1]at he;cases he;refine fin (es.push ⟨kv,a.eval v,clock⟩) (clock+1) _ _ ?_ ⟨MapKept.stamped_push E1 f3,by simp[maxLen];omega,by simp[E3],by simp[E4],fun j k' e' hk' he'=>?_,fun j v' e' hv' he'=>?_⟩
  ·simp[Instr.mapUpdate,run_underlying ht,MapKept.run_getObj_map hb,hck,f2,MapKept.run_setObj_map _ hb,Result.andThen,setBlock]
  ·rw[Array.getElem?_push]at he'
   split at he'
   ·rename_i hj;cases he';rw[hj,← E3]at hk'
    simp at hk'
    subst hk';exact hkv
   ·rename_i hj
    have hjl:j<ks.length:=by
     have:=(Array.getElem?_eq_some_iff.1 he').1;omega
    rw[List.getElem?_append_left hjl]at hk';exact E5 j k' e' hk' he'
  ·rw[Array.getElem?_push]at he'
   split at he'
   ·rename_i hj;cases he';rw[hj,← E4]at hv'
    simp at hv'
    subst hv';exact hvr
   ·rename_i hj
    have hjl:j<vs.length:=by
     have:=(Array.getElem?_eq_some_iff.1 he').1;omega
    rw[List.getElem?_append_left hjl]at hv';exact E6 j v' e' hv' he'
 ·rw[f1]at he;cases he
  have hj:es[j]? = some e0:=by simpa using f3
  have hjs:j<es.size:=(Array.getElem?_eq_some_iff.1 hj).1
  have hkeyf:∀ e',es[j]? = some e'→({ e' with key:=kv,val:=a.eval v }:MapEntry).key=e'.key:=fun e' he'=>by rw[hj]at he';cases he';exact f4.symm
  refine fin (es.modify j (fun e'=>{ e' with key:=kv,val:=a.eval v })) clock _ _ ?_ ⟨MapKept.stamped_modify E1 _ _ (fun _ _=>rfl) (fun e' _ he'=>hkeyf e' he'),by simpa using E2,by simpa using E3,by simpa using E4,fun i k' e' hk' he'=>?_,fun i v' e' hv' he'=>?_⟩
  ·simp[Instr.mapUpdate,run_underlying ht,MapKept.run_getObj_map hb,hck,f2,hj,f4,hst,MapKept.run_setObj_map _ hb,Result.andThen,setBlock]
  ·rw[Array.getElem?_modify]at he'
   split at he'
   ·rename_i hij;subst hij;rw[hj]at he';cases he';rw[← f4];exact E5 j k' e0 hk' hj
   ·exact E5 i k' e' hk' he'
  ·rw[Array.getElem?_modify]at he'
   split at he'
   ·rename_i hij;subst hij;rw[hj]at he';cases he';rw[List.getElem?_set_self (by omega)]at hv';cases hv';exact hvr
   ·rename_i hij;rw[List.getElem?_set_ne hij]at hv';exact E6 i v' e' hv' he'
end
end Go.AM
