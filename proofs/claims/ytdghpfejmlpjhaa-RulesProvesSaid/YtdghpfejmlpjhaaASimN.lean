import Derived.Test.YtdghpfejmlpjhaaASimM
import Derived.LoopN
set_option linter.all false
set_option maxRecDepth 100000
open Nat renaming beq→A0, eq_of_beq_eq_true→A1, le_of_ble_eq_true→A3, ble_eq_true_of_le→D1, zero_add→D3, le_refl→D4
open Bool renaming and_eq_true→A2, not_eq_true'→A6, or_eq_true→D2, and_self→D9, or_eq_false_iff→E9
open List renaming getElem?_map→A4, all_eq_true→A5, mem_cons_self→C7, map_cons→D0, mem_of_getElem?→D7, length→D8, getElem?_eq_getElem→E0, mem_cons_of_mem→E8, mem_append_left→F6, mem_of_mem_drop→F7, mem_iff_getElem?→F8, getElem?_zipIdx→F9
open Go.Region renaming ready→A7
open Array renaming replicate→A8, getD_eq_getD_getElem?→D6, mapM_eq_mapM_toList→E7, getElem?_replicate→G0, getElem?_append_left→G1, getElem?_eq_none→G2
open Go.Sem renaming run_bind→A9, run_pure→B1
open Go.Result renaming andThen_ok→C0
open Option renaming map_eq_some_iff→D5
namespace Go.AM
open Go.RowKit
variable {ρ:LU} {b c:Nat} {hp:Env} {O':Gh}
section
variable {bs:Base} {n:Nat} {M:Mem} {O:Gh} {env:Env} {a:Act} {w:World} {P:Program}
theorem Vm:∀ {l:LQ},nodupB l=true->l.Nodup
 | [],_=>List.nodup_nil
 | x::l,h=>by
  simp only[nodupB,A2,A6]at h;refine List.nodup_cons.2 ⟨fun hx=>?_,Vm h.2⟩;have:=h.1;rw[List.any_eq_false]at this;exact this x hx (by simp)
theorem JK {a b:Nat}:∀ {ρ:LU},pairOf a ρ=some b->(a,b)∈ρ
 | [],h=>by cases h
 | (x,y)::r,h=>by
  simp only[pairOf]at h;split at h
  .rename_i hb;have:=A1 hb;subst this;cases h;exact C7 ..
  exact E8 _ (JK h)
theorem XU {a b:Nat}:∀ {ρ:LU},(ρ.map (·.1)).Nodup->(a,b)∈ρ->pairOf a ρ=some b
 | [],_,h=>by cases h
 | (x,y)::r,hn,h=>by
  simp only[D0,List.nodup_cons]at hn;simp only[pairOf];split
  .rename_i hb;have:=A1 hb;subst this
   rcases List.mem_cons.1 h with h | h
   .cases h;rfl
   exact absurd (List.mem_map.2 ⟨_,h,rfl⟩) hn.1
  rename_i hb
  rcases List.mem_cons.1 h with h | h
  .cases h;simp at hb
  exact XU hn.2 h
theorem qfY {a:Nat} (h:pairOf a ρ=none):∀ b,(a,b) ∉ ρ:=by
 intro b hb
 induction ρ with
 | nil=>cases hb
 | cons p r ih =>
  obtain⟨x,y⟩:=p;simp only[pairOf]at h;split at h
  .cases h
  rename_i hne
  rcases List.mem_cons.1 hb with hb | hb
  .cases hb;simp at hne
  exact ih h hb
def swq (ρ:LU):LU:=ρ.map fun p=>(p.2,p.1)
theorem qeL (ρ:LU):(swq ρ).map (·.1)=ρ.map (·.2):=by simp[swq]
theorem Hx {a:Nat}:(b,a)∈swq ρ↔(a,b)∈ρ:=by
 unfold swq;rw[List.mem_map];exact⟨fun ⟨p,hp,e⟩=>by cases e;exact hp,fun h=>⟨_,h,rfl⟩⟩
theorem qlq:∀ {ρ:LU},(ρ.map (·.2)).Nodup->∀ {a a' b:Nat},(a,b)∈ρ->(a',b)∈ρ->a=a':=by
 intro ρ hn a a' b h1 h2;have k1:=XU (ρ:=swq ρ) (by rw[qeL];exact hn) (Hx.2 h1);have k2:=XU (ρ:=swq ρ) (by rw[qeL];exact hn) (Hx.2 h2);rw[k1]at k2;exact Option.some.inj k2
theorem qej {env:Env} {ρ0:LU}:∀ {ρ:LU} {hp:Env},hpOf ρ0 env ρ=some hp->(∀ b x,look hp b=some x->∃ a x0,(a,b)∈ρ/\look env a=some x0/\x=renE ρ0 x0/\x0.ent=true/\x0.noLabs=true)/\∀ a b,(a,b)∈ρ->∃ x,look env a=some x/\x.ent=true
 | [],hp,h=>by cases h;exact⟨fun b x hx=>by simp[look]at hx,fun a b hh=>by cases hh⟩
 | (a,b)::r,hp,h=>by
  simp only[hpOf]at h;split at h
  case h_2=>cases h
  rename_i x l hx hl;split at h
  case h_2=>cases h
  rename_i hc;cases h;simp only[A2]at hc;obtain⟨h1,h2⟩:=qej hl;refine⟨fun b' x' hx'=>?_,fun a' b' hh=>?_⟩
  .simp only[look]at hx';split at hx'
   .rename_i hb;have:=A1 hb;subst this;cases hx';exact⟨a,x,C7 ..,hx,rfl,hc.1,hc.2⟩
   obtain⟨a',x0,k1,k2⟩:=h1 b' x' hx';exact⟨a',x0,E8 _ k1,k2⟩
  rcases List.mem_cons.1 hh with hh | hh
  .cases hh;exact⟨x,hx,hc.1⟩
  exact h2 a' b' hh
def Killed (y x:AV):Prop:=(∀ (O:Gh) (M:Mem) (w:World) (t:Nat) (v:Value),Sat O M w t y v->Sat O M w t x v)/\∀ s,x.refs s=true->y.refs s=true
theorem Killed.refl (y:AV):Killed y y:=⟨fun _ _ _ _ _ h=>h,fun _ h=>h⟩
theorem Killed.kill {y x:AV} (h:Killed y x) (s:Nat):Killed y (killRef s x):=⟨fun O M w t v hy=>(h.1 O M w t v hy).kill s,fun s' hs=>h.2 s' (Nn hs)⟩
theorem qef {hp:Env} {σ:LU}:∀ {ρ:LU} {env:Env},(ρ.map (·.1)).Nodup->∀ {t:Nat} {x:AV},look (putM σ hp ρ env) t=some x ->
  (∃ b x0,pairOf t ρ=some b/\look hp b=some x0/\Killed (renE σ x0) x)\/(∃ y,look env t=some y/\Killed y x/\pairOf t ρ=none/\∀ a b,(a,b)∈ρ->look hp b=none->x.refs a=false)
 | [],env,_,t,x,h=>.inr ⟨x,h,Killed.refl x,rfl,fun a b hh=>by cases hh⟩
 | (a,b)::r,env,hn,t,x,h=>by
  simp only[D0,List.nodup_cons]at hn;simp only[putM]at h
  have hne:∀ b',pairOf t r=some b'->t≠a:=fun b' hb e=>by
   subst e;exact hn.1 (List.mem_map.2 ⟨_,JK hb,rfl⟩)
  have hpo:t≠a->pairOf t ((a,b)::r)=pairOf t r:=fun hta=>by
   simp only[pairOf]
   have:A0 a t=false:=by rw[Bool.eq_false_iff];intro hh;exact hta (A1 hh).symm
   rw[this]
  rcases qef hn.2 h with ⟨b',x0,k1,k2,k3⟩ | ⟨y,k1,k0,k2,k3⟩
  .exact .inl ⟨b',x0,by rw[hpo (hne b' k1)];exact k1,k2,k3⟩
  cases hb:look hp b with
  | some x0 =>
   rw[hb]at k1;simp only at k1;rw[jy]at k1;split at k1
   .rename_i e;subst e;cases k1;exact .inl ⟨b,x0,by simp[pairOf],hb,k0⟩
   rename_i e;refine .inr ⟨y,k1,k0,by rw[hpo e];exact k2,fun a' b' hh hb'=>?_⟩
   rcases List.mem_cons.1 hh with hh | hh
   .cases hh;rw[hb]at hb';cases hb'
   exact k3 a' b' hh hb'
  | none =>
   rw[hb]at k1;simp only at k1;obtain⟨e,z,hz,rfl⟩:=Vn k1;refine .inr ⟨z,hz,⟨fun O M w t v hv=>k0.1 O M w t v (hv.kill a),fun s hs=>Nn (k0.2 s hs)⟩,by rw[hpo e];exact k2,fun a' b' hh hb'=>?_⟩
   rcases List.mem_cons.1 hh with hh | hh
   .cases hh
    cases hx:x.refs a with
    | false=>rfl
    | true =>
     have:=k0.2 a hx;rw[Nm]at this;cases this
   exact k3 a' b' hh hb'
theorem qgJ {id a:Nat} (h:pairOf id (backOf hp ρ)=some a):(a,id)∈ρ/\∃ x,look hp id=some x:=by
 have h1:=JK h;unfold backOf at h1;rw[List.mem_filter]at h1;obtain⟨h2,h3⟩:=h1;obtain⟨p,hp1,hp2⟩:=List.mem_map.1 h2;cases hp2;exact⟨hp1,Option.isSome_iff_exists.1 h3⟩
theorem SbOk.ren {s t k off m:Nat} {v:Value} (h:SbOk O s k off m v) (h1:O'.o true t=O.o true s) (h2:O'.len t=O.len s) (h3:O'.siz t=O.siz s):SbOk O' t k off m v:=by
 unfold SbOk at *;rw[h1,h2,h3];exact h
theorem CellR.ren {O':Gh} {s t:Nat} {c:AV} {u:Value} {τ:LU} (h:CellR O M s c u) (h1:O'.o true t=O.o true s)
  (hτ:∀ id b,pairOf id τ=some b->O'.o true b=O.o true id/\O'.len b=O.len id/\O'.siz b=O.siz id):CellR O' M t (renCell τ c) u:=by
 have h0:=h.one;unfold renCell;split
 .rename_i id e k off m;split
  .rename_i b hb;obtain⟨q1,q2,q3⟩:=hτ id b hb;exact SbOk.ren h q1 q2 q3
  exact h0
 .rename_i kd id;split
  .rename_i b hb;obtain⟨r1,g,r2,r3⟩:=h;exact⟨r1,g,by rw[(hτ id b hb).1];exact r2,r3⟩
  exact h0
 rename_i hn1 hn2;unfold CellR at *
 cases c with
 | sb id e k off m=>exact absurd rfl (hn1 id e k off m)
 | mb kd id=>exact absurd rfl (hn2 kd id)
 | slf=>rw[h1];exact h
 | top=>exact h
 | _=>exact h
theorem Sat.ren {O':Gh} {s t:Nat} {x:AV} {v v':Value} {τ:LU} (h:Sat O M w s x v) (hx:x.ent=true) (hn:x.noLabs=true) (h1:O'.o true t=O.o true s) (h2:O'.len t=O.len s) (h3:O'.siz t=O.siz s)
  (hb:∀ g,O true s=some g->(∃ cs,x=.box cs\/x=.bxg cs)->v'=.pointer (some ⟨g,0,none⟩)\/1000000<=t)
  (hτ:∀ id b,pairOf id τ=some b->O'.o true b=O.o true id/\O'.len b=O.len id/\O'.siz b=O.siz id):Sat O' M w t (renE τ x) v':=by
 cases x with
 | box cs =>
  obtain⟨g,cur,el,q1,q2,q3,q4,q5,q6⟩:=h;refine⟨g,cur,el,hb g q2 ⟨cs,.inl rfl⟩,by rw[h1];exact q2,q3,q4,q5,fun j c u hc hu=>?_⟩;obtain⟨k1,k2,k3⟩:=q6 j c u hc hu;refine⟨k1,k2,?_⟩;simp only[AV.noLabs,A5]at hn;have:=hn c (D7 hc)
  cases c with
  | lst e k l xs=>cases l with
   | none=>trivial
   | some l=>simp[AV.lab?]at this
  | _=>trivial
 | obj e k xs =>
  obtain⟨q0,q1,q2,q3⟩:=h;refine⟨q0,q1,by rw[h2];exact q2,?_⟩;rw[h1,h3];exact q3
 | hob kd ks vs =>
  obtain⟨g,q1,q2,q3⟩:=h;exact⟨g,by rw[h1];exact q1,q2,q3⟩
 | bxg cs =>
  obtain⟨g,cur,el,q1,q2,q3,q4,q5,q6⟩:=h;refine⟨g,cur,el,hb g q2 ⟨cs,.inr rfl⟩,by rw[h1];exact q2,q3,by simpa using q4,q5,fun j c u hc hu=>?_⟩;rw[A4]at hc
  cases hz:cs[j]? with
  | none=>rw[hz]at hc;cases hc
  | some z =>
   rw[hz]at hc;cases hc;exact (q6 j z u hz hu).ren h1 hτ
 | _=>cases hx
def ghIn (O:Gh) (ρ:LU):Gh :=
 ⟨fun i b=>if i=true then (match pairOf b (swq ρ) with | some a=>O.o true a | none=>none) else none,fun b=>match pairOf b (swq ρ) with | some a=>O.len a | none=>0,fun b=>match pairOf b (swq ρ) with | some a=>O.siz a | none=>0⟩
def ghOut (O O':Gh) (hp:Env) (ρ:LU):Gh :=
 ⟨fun i c=>if i=true then (match pairOf c ρ with | some b=>(match look hp b with | some _=>O'.o true b | none=>none) | none=>O.o true c) else O.o false c,fun c=>match pairOf c ρ with | some b=>O'.len b | none=>O.len c,fun c=>match pairOf c ρ with | some b=>O'.siz b | none=>O.siz c⟩
theorem qgw (O O':Gh) (hp:Env) (ρ:LU) (c:Nat):(ghOut O O' hp ρ).o false c=O.o false c:=by simp[ghOut]
theorem qhL {O:Gh} (h:pairOf c ρ=none):Gh.Eq1 O (ghOut O O' hp ρ) c:=by simp[Gh.Eq1,ghOut,h]
theorem qhK {O:Gh} {x:AV} (h:pairOf c ρ=some b) (hx:look hp b=some x):(ghOut O O' hp ρ).o true c=O'.o true b/\(ghOut O O' hp ρ).len c=O'.len b/\(ghOut O O' hp ρ).siz c=O'.siz b:=by simp[ghOut,h,hx]
theorem qgZ {all:LF} {o:Oper} {e e1:Env} {f:Nat} {args:LM} {hp':Env} {r:AV} {nw:LU} (hw:awanted all o e=some true) (hc:qaH P o e ρ=some (f,args,hp)) (hr:CallMOk P f args hp r hp') (hent:∀ id x,look hp' id=some x->x.ent=true) (he:He n o.dst ρ nw r hp' e=some e1):StepSem P n all o e e1:=by
 intro bs M O a w h K Q hK;rw[jl h hw];simp only[if_true];unfold qaH at hc;split at hc
 case h_2=>cases hc
 rename_i fo as ats ho;split at hc
 case h_2=>cases hc
 rename_i g caps l hf hl;split at hc
 case h_2=>cases hc
 rename_i fn hfn;split at hc
 case h_2=>cases hc
 rename_i l' hp0 hb hl' hhp;cases hc;simp only[A2,A5]at hb;obtain⟨⟨⟨⟨hb1,hb2⟩,hn1⟩,hn2⟩,hids⟩:=hb;have hn1:=Vm hn1;have hn2:=Vm hn2;obtain⟨us,cvs,h1,h2,h3,h4,h5⟩:=Hc h ho hf hl hfn hb1 hb2;obtain⟨hp1,hp2⟩:=qej hhp;obtain⟨Oc,hOc⟩:∃ Oc,Oc=ghIn O ρ:=⟨_,rfl⟩
 have F1:∀ x b,(x,b)∈ρ->Oc.o true b=O.o true x/\Oc.len b=O.len x/\Oc.siz b=O.siz x:=by
  intro x b hm;have:=XU (ρ:=swq ρ) (by rw[qeL];exact hn2) (Hx.2 hm);rw[hOc];simp[ghIn,this]
 have F2:∀ i c g,Oc.o i c=some g->i=true/\∃ x,(x,c)∈ρ/\O.o true x=some g:=by
  intro i c g hg;rw[hOc]at hg;simp only[ghIn]at hg;split at hg
  .rename_i hi;split at hg
   .rename_i x hx;exact⟨hi,x,Hx.1 (JK hx),hg⟩
   cases hg
  cases hg
 have hOf:∀ c,Oc.o false c=none:=fun c=>by
  cases hh:Oc.o false c with
  | none=>rfl
  | some g=>cases (F2 false c g hh).1
 have hsp:=Jb hl'
 have hlen:l.length=l'.length:=by simpa using congrArg D8 hsp
 unfold Oper.wp;rw[h1];show Calls P f (us++cvs).toArray w _;refine (hr M Oc w (us++cvs) h.glob h.cons (by simp;omega) (fun i c g hg=>?_) (fun c c' g hg hg'=>?_) (Hi oM (fun j c v hc hv=>?_) fun j c v hc hv=>?_) (fun id x hx=>?_)).mono ?_
 .obtain⟨hi,x,_,hx⟩:=F2 i c g hg;exact⟨hi,(h.own _ _ _ hx).2⟩
 .obtain⟨_,x,hm,hx⟩:=F2 _ c g hg;obtain⟨_,x',hm',hx'⟩:=F2 _ c' g hg';have:=(h.inj _ _ _ _ g hx hx').2;subst this;have k1:=XU hn1 hm;have k2:=XU hn1 hm';rw[k1]at k2;exact Option.some.inj k2
 .have hjj:=congrArg (fun q=>q[j]?) hsp;simp only[A4,hc,Option.map_some]at hjj
  cases hz:l[j]? with
  | none=>rw[hz]at hjj;cases hjj
  | some z =>
   rw[hz]at hjj;have hz1:=h3 j z v hz hv;have hz2:renArg ρ z=some c:=Option.some.inj hjj
   cases z with
   | sb id e k off m =>
    simp only[renArg]at hz2;split at hz2
    case h_2=>cases hz2
    rename_i b hb;cases hz2;obtain⟨k1,k2,k3⟩:=F1 id b (JK hb);exact SbOk.ren hz1 k1 k2 k3
   | pb id off =>
    simp only[renArg]at hz2;split at hz2
    case h_2=>cases hz2
    rename_i b hb;cases hz2;obtain⟨g',q1,q2⟩:=hz1;exact⟨g',q1,by rw[(F1 id b (JK hb)).1];exact q2⟩
   | tpr id e k off m rest=>cases hz2
   | box cs=>cases hz2
   | obj e k xs=>cases hz2
   | pe s k j o=>cases hz2
   | hob kd ks vs=>cases hz2
   | mb kd id =>
    cases kd with
    | succ kd=>simp[renArg]at hz2
    | zero =>
     simp only[renArg]at hz2;split at hz2
     case h_2=>cases hz2
     rename_i b hb;cases hz2;obtain⟨g',q1,q2⟩:=hz1;exact⟨g',by rw[(F1 id b (JK hb)).1];exact q1,q2⟩
   | bxg cs=>cases hz2
   | slf=>cases hz2
   | agr cs=>cases hz2
   | clb f caps=>cases hz2
   | _ =>
    simp only[renArg,Option.some.injEq]at hz2;subst hz2;exact Jl (hz1.1.strip).strip (XJ _)
 .exact Jl (h5 j c v hc hv).strip (XJ c)
 .obtain⟨x',x0,k1,k2,rfl,k3,k4⟩:=hp1 id x hx;obtain⟨q1,q2,q3⟩:=F1 x' id k1;have hid:=hids _ k1;simp only[A2]at hid
  exact (h.slots x' x0 k2).ren k3 k4 q1 q2 q3 (fun g _ _=>.inr (by have:=A3 hid.1;omega)) fun i b hb=>F1 i b (JK hb)
 rintro ed w' ⟨v,M',O',rfl,hbel,hsub,hC,hMo,hOo,hOi,hfix,hR,hsat⟩
 unfold He at he;split at he
 case h_2=>cases he
 rename_i r' hb hr';simp only[A2,A5]at hb;obtain⟨⟨⟨hm1,hm2⟩,hρ⟩,hnw⟩:=hb;have hm1:=Vm hm1;have hm2:=Vm hm2;obtain⟨Os,hOs⟩:∃ Os,Os=ghOut O O' hp' (ρ++nw):=⟨_,rfl⟩
 have Ff:∀ c,Os.o false c=O.o false c:=fun c=>by rw[hOs];exact qgw ..
 have Fn:∀ c,pairOf c (ρ++nw)=none->Gh.Eq1 O Os c:=fun c hc=>by rw[hOs];exact qhL hc
 have Fs:∀ c b x,pairOf c (ρ++nw)=some b->look hp' b=some x->Os.o true c=O'.o true b/\Os.len c=O'.len b/\Os.siz c=O'.siz b:=fun c b x hc hx=>by rw[hOs];exact qhK hc hx
 have Fp:∀ c b x,(c,b)∈ρ->look hp' b=some x->Gh.Eq1 Oc O' b:=by
  intro c b x hm hx;have:=hρ _ hm;simp only[hx,A2,A6]at this;have hb2:=hids _ hm;simp only[A2]at hb2;have h2m:=A3 hb2.1;have hus:=this.1.1;unfold usable at hus;simp only[E9]at hus;refine hfix b h2m ?_;have hus2:Nat.ble 3000000 b=false:=hus.2
  refine Nat.lt_of_not_le fun hle=>?_
  have h3:=D1 hle;rw[h3]at hus2;cases hus2
 have Fk:∀ c b x,(c,b)∈ρ->look hp' b=some x->Gh.Eq1 O Os c:=by
  intro c b x hm hx;obtain⟨k1,k2,k3⟩:=Fs c b x (XU hm1 (F6 _ hm)) hx;obtain⟨q1,q2,q3⟩:=Fp c b x hm hx;obtain⟨r1,r2,r3⟩:=F1 c b hm;exact⟨k1.trans (q1.trans r1),k2.trans (q2.trans r2),k3.trans (q3.trans r3)⟩
 have hDlt:∀ k,bs.D k->k<w.heap.size:=fun k hk=>by have:=h.hB k hk;have:=h.below.size;omega
 have hDfp:∀ k,bs.D k->∀ c,Oc.o true c≠some k:=fun k hk c hh=>by
  obtain⟨_,x,_,hx⟩:=F2 _ c k hh;exact (h.own _ _ _ hx).1 hk
 have hout:∀ i c g,O.o i c=some g->(i=true->pairOf c (ρ++nw)=none)->g<w.heap.size/\∀ c',Oc.o true c'≠some g:=by
  intro i c g hg hi;refine⟨(h.own _ _ _ hg).2,fun c' hh=>?_⟩;obtain⟨_,x,hm,hx⟩:=F2 _ c' g hh;obtain⟨e1,e2⟩:=h.inj _ _ _ _ g hg hx;subst e2;exact qfY (hi e1) c' (F6 _ hm)
 have hinv:Inv bs n M' Os (putM (backOf hp' (ρ++nw)) hp' (ρ++nw) e) a w':=by
  refine⟨h.size,h.defers,h.below.step hbel fun k hk=>⟨hDlt k hk,hDfp k hk⟩,h.hB,hC,h.ext.trans hsub,fun b o hb=>?_,fun i c g hg=>?_,fun i i' c c' g hg hg'=>?_,⟨h.fix.1,fun c k1 k2=>?_⟩,fun t x hx=>?_⟩
  .rw[hMo b o (hDlt b hb) (hDfp b hb)];exact h.old b o hb
  
  cases i with
  | false =>
   rw[Ff]at hg;exact⟨(h.own _ _ _ hg).1,Nat.lt_of_lt_of_le (h.own _ _ _ hg).2 hbel.size⟩
  | true =>
   cases hp:pairOf c (ρ++nw) with
   | none =>
    rw[(Fn c hp).1]at hg;exact⟨(h.own _ _ _ hg).1,Nat.lt_of_lt_of_le (h.own _ _ _ hg).2 hbel.size⟩
   | some b =>
    rw[hOs]at hg;simp only[ghOut,hp,if_true]at hg;split at hg
    case h_2=>cases hg
    obtain⟨q1,q2⟩:=hOo _ _ _ hg;refine⟨fun hD=>?_,q1⟩
    rcases q2 with q2 | ⟨c',q2⟩
    .have:=hDlt g hD;omega
    exact hDfp g hD c' q2
  
  have key:∀ i c g,Os.o i c=some g->(i=true/\∃ b,(c,b)∈ρ++nw/\O'.o true b=some g/\pairOf c (ρ++nw)=some b)\/(O.o i c=some g/\(i=true->pairOf c (ρ++nw)=none)):=by
   intro i c g hg
   cases i with
   | false=>rw[Ff]at hg;exact .inr ⟨hg,fun e=>by cases e⟩
   | true =>
    cases hp:pairOf c (ρ++nw) with
    | none=>rw[(Fn c hp).1]at hg;exact .inr ⟨hg,fun _=>rfl⟩
    | some b =>
     rw[hOs]at hg;simp only[ghOut,hp,if_true]at hg;split at hg
     case h_2=>cases hg
     exact .inl ⟨rfl,b,JK hp,hg,rfl⟩
  have mixed:∀ i c b c',(c',b)∈ρ++nw->O'.o true b=some g->O.o i c=some g->(i=true->pairOf c (ρ++nw)=none)->False:=by
   intro i c b c' hm h1 h2 h3;obtain⟨q1,q2⟩:=hout i c g h2 h3
   rcases (hOo _ _ _ h1).2 with k | ⟨c2,k⟩
   .omega
   exact q2 c2 k
  rcases key i c g hg with ⟨rfl,b,m1,o1,_⟩ | ⟨o1,m1⟩ <;> rcases key i' c' g hg' with ⟨rfl,b',m2,o2,_⟩ | ⟨o2,m2⟩
  .have:=(hOi _ _ _ _ g o1 o2).2;subst this;exact⟨rfl,qlq hm2 m1 m2⟩
  .exact (mixed i' c' b c m1 o1 o2 m2).elim
  .exact (mixed i c b' c' m2 o2 o1 m1).elim
  exact h.inj _ _ _ _ g o1 o2
  
  obtain⟨e1,e2,e3⟩:=h.fix.2 c k1 k2
  have fin:Gh.Eq1 O Os c->Gh.Eq1 bs.O0 Os c:=fun ⟨f1,f2,f3⟩=>⟨f1.trans e1,f2.trans e2,f3.trans e3⟩
  cases hp:pairOf c (ρ++nw) with
  | none=>exact fin (Fn c hp)
  | some b =>
   rcases List.mem_append.1 (JK hp) with hm | hm
   .cases hx:look hp' b with
    | some x=>exact fin (Fk c b x hm hx)
    | none =>
     exfalso;have:=hρ _ hm;simp only[hx]at this;have h2:=hids _ hm;simp only[A2,D2,A6]at h2
     rcases h2.2 with h3 | h3
     .exact Ut h3 ⟨k1,k2⟩
     rw[this]at h3;cases h3
   exfalso;have:=hnw _ hm;simp only[A2]at this;have:c<2000000:=A3 this.1.2;omega
  
  rcases qef hm1 hx with ⟨b,x,q1,q2,qk⟩ | ⟨y,q1,qk,q2,q3⟩
  .obtain⟨f1,f2,f3⟩:=Fs t b x q1 q2;have hxe:=hent b x q2;have hmem:=JK q1
   have hnl:x.noLabs=true:=by
    rcases List.mem_append.1 hmem with hm | hm
    .have:=hρ _ hm;simp only[q2,A2]at this;exact this.1.2
    have:=hnw _ hm;simp only[A2,q2]at this;exact this.2
   refine qk.1 _ _ _ _ _ ((hsat b x q2).ren hxe hnl f1 f2 f3 (fun g hg hbox=>?_) fun i c hic=>by
    obtain⟨m1,x1,hx1⟩:=qgJ hic
    exact Fs c i x1 (XU hm1 m1) hx1)
   rcases List.mem_append.1 hmem with hm | hm
   .have:=hρ _ hm;simp only[q2,A2,D2]at this
    rcases this.2 with h2 | h2
    .exact .inr (A3 h2)
    have hown:∀ g0,O true t=some g0->g0=g:=by
     intro g0 r2;have e1:=(Fp t b _ hm q2).1;rw[(F1 t b hm).1,hg,r2]at e1;exact (Option.some.inj e1).symm
    have hvv:∃ g0,(a.tmps.getD t undef=.pointer (some ⟨g0,0,none⟩)\/1000000<=t)/\O true t=some g0:=by
     cases hl0:look e t with
     | none=>rw[hl0]at h2;cases h2
     | some y0 =>
      rw[hl0]at h2
      cases y0 with
      | box cs0=>obtain⟨g0,cur0,el0,r1,r2,_⟩:=h.slots t _ hl0;exact⟨g0,r1,r2⟩
      | bxg cs0=>obtain⟨g0,cur0,el0,r1,r2,_⟩:=h.slots t _ hl0;exact⟨g0,r1,r2⟩
      | _=>cases h2
    obtain⟨g0,r1,r2⟩:=hvv;rw[<- hown g0 r2];exact r1
   have:=hnw _ hm;simp only[A2]at this;exact .inr (A3 this.1.1.2)
  have hrow:∀ i c g,O.o i c=some g->(i=true->pairOf c (ρ++nw)=none)->w'.heap[g]? = w.heap[g]?/\∀ o,M g o=none->M' g o=none:=by
   intro i c g hg hi;obtain⟨k1,k2⟩:=hout i c g hg hi;exact⟨hbel.block g ⟨k1,k2⟩,fun o hm=>by rw[hMo g o k1 k2];exact hm⟩
  refine (qk.1 _ _ _ _ _ (h.slots t y q1)).change2 hsub (fun _=>Fn t q2) (fun s hs=>?_) (fun g _ hg=>hrow true t g hg fun _=>q2) fun c g hg=>⟨by rw[Ff];exact hg,hrow false c g hg fun e=>by cases e⟩
  cases hps:pairOf s (ρ++nw) with
  | none=>exact Fn s hps
  | some b =>
   have hmem:=JK hps
   rcases List.mem_append.1 hmem with hm | hm
   .cases hxb:look hp' b with
    | some x'=>exact Fk s b x' hm hxb
    | none=>rw[q3 s b hmem hxb]at hs;cases hs
   exfalso;have:=hnw _ hm;simp only[A2]at this;have hs:=qk.2 s hs;rw[(JM this.1.1.1).2 t y q1]at hs;cases hs
 refine hK _ _ _ _ (Yi hinv ?_ he)
 cases r with
 | sb id e' k off m =>
  simp only[renRes]at hr';split at hr'
  case h_2=>cases hr'
  rename_i c x hc hx;cases hr';have hm:(c,id)∈ρ++nw:=Hx.1 (JK hc);obtain⟨f1,f2,f3⟩:=Fs c id x (XU hm1 hm) hx;exact SbOk.ren hR f1 f2 f3
 | box cs=>cases hr'
 | obj e' k xs=>cases hr'
 | pb s off=>cases hr'
 | pe s k j off=>cases hr'
 | hob kd ks vs=>cases hr'
 | mb kd s=>cases hr'
 | bxg cs=>cases hr'
 | slf=>cases hr'
 | agr cs=>cases hr'
 | clb f caps=>cases hr'
 | tpr id e' k off m rest =>
  simp only[renRes]at hr';split at hr'
  case h_2=>cases hr'
  rename_i c x hc hx;cases hr';have hm:(c,id)∈ρ++nw:=Hx.1 (JK hc);obtain⟨f1,f2,f3⟩:=Fs c id x (XU hm1 hm) hx;obtain⟨u,us,e1,e2,e3,e4⟩:=hR;exact⟨u,us,e1,SbOk.ren e2 f1 f2 f3,e3,e4⟩
 | _ =>
  simp only[renRes,Option.some.injEq]at hr';subst hr';exact Jl hR.1.strip (XJ _)
end
end Go.AM
namespace Go.AM
open Go.RowKit
variable {k s s' t:Nat} {x:AV} {v:Value} {ks vs xs:LM}
section
variable {bs:Base} {n:Nat} {M:Mem} {O:Gh} {env:Env} {a:Act} {w:World} {P:Program}
theorem Inv.setVal (h:Inv bs n M O env a w) (hx:Sat O M w t x (a.tmps.getD t undef)):Inv bs n M O (ins t x env) a w:=by
 refine⟨h.size,h.defers,h.below,h.hB,h.cons,h.ext,h.old,h.own,h.inj,h.fix,fun s y hy=>?_⟩;rw[jy]at hy;split at hy
 .rename_i e;subst e;cases hy;exact hx
 exact h.slots s y hy
theorem qdH (h:s<2000000):usable s=true:=by
 unfold usable;have:Nat.blt s 2000000=true:=D1 h;rw[this];rfl
theorem Inv.nilObj (h:Inv bs n M O env a w) (q:Nat×Nat×Nat×Nat):∃ O',Inv bs n M O' (nilObj env q) a w:=by
 obtain⟨t,e,k,id⟩:=q;unfold AM.nilObj;simp only;split
 .rename_i hl hc;simp only[A2]at hc;obtain⟨⟨⟨hc,hc1⟩,hc2⟩,hc3⟩:=hc;have hc1:=A3 hc1;have hc2:id<2000000:=A3 hc2;have hc3:0<k:=A3 hc3;obtain⟨c1,c2⟩:=JM hc
  have hne:id≠t:=fun e=>c1 .nils (by rw[e];exact hl)
  have hv:a.tmps.getD t undef=.slice none 0 0:=by
   have:=(h.slots t _ hl).1;generalize a.tmps.getD t undef=v at this;cases this;rfl
  have h1:=h.claim (t:=id) (x:=.obj e k []) c2 hc2 none 0 0 (fun g e=>by cases e) ⟨hc3,by simp,by simp[setR],.inl ⟨rfl,by simp[Qv]⟩⟩;have h2:=h1.setVal (t:=t) (x:=.sb id e k 0 0) ⟨by simp,.inl ⟨rfl,none,hv⟩⟩;exact⟨_,h2.looks fun s=>ZA hne env s⟩
 exact⟨O,h⟩
theorem CellR.killC {O':Gh} {M':Mem} {s t:Nat} {c:AV} {u:Value} (h:CellR O M t c u) (hs:Sub M M') (he:O'.o true t=O.o true t) (hr:∀ id,c.cref id=true->id≠s->Gh.Eq1 O O' id):CellR O' M' t (killC s c) u:=by
 unfold AM.killC;split
 .exact h.one
 rename_i hc
 exact h.mono hs (fun _=>he) fun id hid=>hr id hid fun e=>by subst e;rw[hc]at hid;cases hid
theorem CellR.renC {O':Gh} {s s' t:Nat} {c:AV} {u:Value} (h:CellR O M t c u) (h1:O'.o true s'=O.o true s) (h2:O'.len s'=O.len s) (h3:O'.siz s'=O.siz s) (he:O'.o true t=O.o true t)
  (hr:∀ id,c.cref id=true->id≠s->Gh.Eq1 O O' id):CellR O' M t (renC s s' c) u:=by
 unfold AM.renC;split
 .rename_i id e k off m;split
  .rename_i hb;have:=A1 hb;subst this;exact SbOk.ren h h1 h2 h3
  rename_i hb
  exact h.mono (Sub.refl M) (fun e=>by cases e) fun id' hid=>by
   have e1:id=id':=A1 hid;subst e1
   exact hr id hid fun e=>by subst e;simp at hb
 exact h.killC (Sub.refl M) he hr
theorem CellR.thawC {O':Gh} {M':Mem} {s t k:Nat} {xs:LM} {c:AV} {u:Value} (h:CellR O M t c u) (hs:Sub M M') (snap:∀ (e' off m:Nat) (v:Value),SbOk O s k off m v->R M' (.lst e' k none (snapA off m xs)) v) (he:O'.o true t=O.o true t)
  (hr:∀ id,c.cref id=true->id≠s->Gh.Eq1 O O' id):CellR O' M' t (thawC s k xs c) u:=by
 unfold AM.thawC;split
 .rename_i id e k' off m;split
  .rename_i hb;have:=A1 hb;subst this;split
   .rename_i hk;have:=A1 hk;subst this;exact⟨rfl,snap e off m u h⟩
   exact h.one
  rename_i hb
  exact h.mono hs (fun e=>by cases e) fun id' hid=>by
   have e1:id=id':=A1 hid;subst e1
   exact hr id hid fun e=>by subst e;simp at hb
 exact h.killC hs he hr
theorem CellR.thawCM {O':Gh} {M':Mem} {s t:Nat} {ks vs:LM} {c:AV} {u:Value} (h:CellR O M t c u) (hs:Sub M M') (snap:∀ g,O true s=some g->R M' (.mpv ks vs) (.map (some g))) (he:O'.o true t=O.o true t)
  (hr:∀ id,c.cref id=true->id≠s->Gh.Eq1 O O' id):CellR O' M' t (thawCM s ks vs c) u:=by
 unfold AM.thawCM;split
 .rename_i kd id;split
  .rename_i hb;have:=A1 hb;subst this;split
   .obtain⟨_,g,h1,h2⟩:=h;rw[h2];exact⟨rfl,snap g h1⟩
   exact h.one
  rename_i hb
  exact h.mono hs (fun e=>by cases e) fun id' hid=>by
   have e1:id=id':=A1 hid;subst e1
   exact hr id hid fun e=>by subst e;simp at hb
 exact h.killC hs he hr
theorem CellR.move0 {t':Nat} {c:AV} {u:Value} (h:CellR O M t c u) (hn:c≠.slf):CellR O M t' c u:=by
 cases c with
 | slf=>exact absurd rfl hn
 | _=>exact h
theorem DB (h:OwnV O M w x v):OwnV O M w (AM.killC s x) v:=by
 unfold AM.killC;split
 .trivial
 exact h
theorem qbb (h:x≠.slf):AM.killC s x≠.slf:=by
 unfold AM.killC;split
 .exact fun e=>by cases e
 exact h
theorem qjj (h:OwnV O M w x v):OwnV O M w (AM.renC s s' x) v:=by
 unfold AM.renC;split
 .split <;> trivial
 exact DB h
theorem qfR (h:x≠.slf):AM.renC s s' x≠.slf:=by
 unfold AM.renC;split
 .split <;> exact fun e=>by cases e
 exact qbb h
theorem qht (h:OwnV O M w x v):OwnV O M w (AM.thawC s k xs x) v:=by
 unfold AM.thawC;split
 .split
  .split <;> trivial
  trivial
 exact DB h
theorem qdJ (h:x≠.slf):AM.thawC s k xs x≠.slf:=by
 unfold AM.thawC;split
 .split
  .split <;> exact fun e=>by cases e
  exact fun e=>by cases e
 exact qbb h
theorem qga (h:OwnV O M w x v):OwnV O M w (AM.thawCM s ks vs x) v:=by
 unfold AM.thawCM;split
 .split
  .split <;> trivial
  trivial
 exact DB h
theorem qbZ (h:x≠.slf):AM.thawCM s ks vs x≠.slf:=by
 unfold AM.thawCM;split
 .split
  .split <;> exact fun e=>by cases e
  exact fun e=>by cases e
 exact qbb h
theorem qfQ (s s':Nat) (y:AV):(y.refs s=false/\renId s s' y=y)\/(∃ o,y=.pb s o/\renId s s' y=.pb s' o)\/(∃ e k off m,y=.sb s e k off m/\renId s s' y=.sb s' e k off m)\/(∃ k j o,y=.pe s k j o/\renId s s' y=.pe s' k j o)\/renId s s' y=.top\/(∃ cs,y=.bxg cs/\renId s s' y=.bxg (cs.map (renC s s')))\/(∃ cs,y=.agr cs/\renId s s' y=.agr (cs.map (renC s s'))):=by
 cases y with
 | pb t o =>
  by_cases h:A0 t s=true
  .have:=A1 h;subst this;exact .inr (.inl ⟨o,rfl,by simp[renId]⟩)
  have h':A0 t s=false:=Bool.eq_false_iff.2 h;exact .inl ⟨h',by simp only[renId];rw[h']⟩
 | sb t e k off m =>
  by_cases h:A0 t s=true
  .have:=A1 h;subst this;exact .inr (.inr (.inl ⟨e,k,off,m,rfl,by simp[renId]⟩))
  have h':A0 t s=false:=Bool.eq_false_iff.2 h;exact .inl ⟨h',by simp only[renId];rw[h']⟩
 | pe t k j o =>
  by_cases h:A0 t s=true
  .have:=A1 h;subst this;exact .inr (.inr (.inr (.inl ⟨k,j,o,rfl,by simp[renId]⟩)))
  have h':A0 t s=false:=Bool.eq_false_iff.2 h;exact .inl ⟨h',by simp only[renId];rw[h']⟩
 | tpr t e k off m rest =>
  by_cases h:A0 t s=true
  .exact .inr (.inr (.inr (.inr (.inl (by simp only[renId];rw[h])))))
  have h':A0 t s=false:=Bool.eq_false_iff.2 h;exact .inl ⟨h',by simp only[renId];rw[h']⟩
 | mb kd t =>
  by_cases h:A0 t s=true
  .exact .inr (.inr (.inr (.inr (.inl (by simp only[renId];rw[h])))))
  have h':A0 t s=false:=Bool.eq_false_iff.2 h;exact .inl ⟨h',by simp only[renId];rw[h']⟩
 | bxg cs=>exact .inr (.inr (.inr (.inr (.inr (.inl ⟨cs,rfl,rfl⟩)))))
 | agr cs=>exact .inr (.inr (.inr (.inr (.inr (.inr ⟨cs,rfl,rfl⟩)))))
 | clb f caps =>
  by_cases h:(AV.clb f caps).refs s=true
  .exact .inr (.inr (.inr (.inr (.inl (by simp only[renId];rw[h])))))
  have h':(AV.clb f caps).refs s=false:=Bool.eq_false_iff.2 h;exact .inl ⟨h',by simp only[renId];rw[h']⟩
 | _=>exact .inl ⟨rfl,rfl⟩
theorem YS {f:AV->AV} (h:look ((env.filter fun p=>!A0 p.1 s).map fun p=>(p.1,f p.2)) t=some x):t≠s/\∃ y,look env t=some y/\f y=x:=by
 rw[ZC f]at h
 cases hy:look (env.filter fun p=>!A0 p.1 s) t with
 | none=>rw[hy]at h;cases h
 | some y =>
  rw[hy]at h;obtain⟨h1,h2⟩:=QM hy;exact⟨h1,y,h2,by simpa using h⟩
theorem Inv.renObj (h:Inv bs n M O env a w) (q:Nat×Nat):∃ O',Inv bs n M O' (renObj env q) a w:=by
 obtain⟨s,s'⟩:=q;unfold AM.renObj;simp only;split
 .rename_i e k xs hl hc;simp only[A2]at hc;obtain⟨⟨⟨⟨hc,hc1⟩,hc2⟩,hc3⟩,hc4⟩:=hc;have hc2:s<2000000:=A3 hc2;have hc4:s'<2000000:=A3 hc4;obtain⟨c1,c2⟩:=JM hc
  have hne:s≠s':=fun e=>c1 _ (by rw[<- e];exact hl)
  have h1:Inv bs n M (setO O true s none) ((env.filter fun p=>!A0 p.1 s).map fun p=>(p.1,killRef s p.2)) a w:=h.forget (qdH hc2);obtain⟨k0,k1,k2,k3⟩:=h.slots s _ hl
  have hS:ObjOk (setR (setO O true s none) s' (O.o true s) (O.len s) (O.siz s)) M w s' e k xs:=by
   refine⟨k0,k1,by simp[setR];exact k2,?_⟩;simp only[Qv,and_self,if_true]
   have:(setR (setO O true s none) s' (O.o true s) (O.len s) (O.siz s)).siz s'=O.siz s:=by simp[setR]
   rw[this];exact k3
  have h2:=h1.claim (t:=s') (x:=.obj e k xs) (fun t x hx=>by
   obtain⟨_,y,hy,hyx⟩:=YS (f:=killRef s) hx;have:=c2 t y hy;rw[<- hyx]
   cases hk:(killRef s y).refs s' with
   | false=>rfl
   | true=>rw[Nn hk]at this;cases this) hc4 (O.o true s) (O.len s) (O.siz s) (fun g hg=>⟨(h.own _ _ _ hg).1,(h.own _ _ _ hg).2,fun i c hh=>by
    exfalso;rw[Jn]at hh;split at hh
    .cases hh
    rename_i hn
    exact hn (h.inj _ _ _ _ g hh hg)⟩) hS
  refine⟨_,⟨h2.size,h2.defers,h2.below,h2.hB,h2.cons,h2.ext,h2.old,h2.own,h2.inj,h2.fix,fun t x hx=>?_⟩⟩;rw[jy]at hx;split at hx
  .rename_i e1;subst e1;cases hx;exact hS
  rename_i hts;obtain⟨hts',y,hy,hyx⟩:=YS hx;have hnr:=c2 t y hy
  rcases qfQ s s' y with ⟨r1,r2⟩ | ⟨o,rfl,r2⟩ | ⟨e',k',off,m,rfl,r2⟩ | ⟨k',j,o,rfl,r2⟩ | r2 | ⟨cs,rfl,r2⟩ | ⟨cs,rfl,r2⟩
  .rw[r2]at hyx;subst hyx
   have hEq:∀ c,c≠s->c≠s'->Gh.Eq1 O (setR (setO O true s none) s' (O.o true s) (O.len s) (O.siz s)) c:=fun c e1 e2=>by
    obtain⟨f1,f2,f3⟩:=jF (O:=O) (v:=none) e1;obtain⟨g1,g2,g3⟩:=Hp (O:=setO O true s none) (v:=O.o true s) (len:=O.len s) (siz:=O.siz s) e2;exact⟨g1.trans f1,g2.trans f2,g3.trans f3⟩
   refine (h.slots t _ hy).change2 (Sub.refl M) (fun _=>hEq t hts' hts) (fun c hcc=>hEq c (fun e=>by rw[e,r1]at hcc;cases hcc) (fun e=>by rw[e,hnr]at hcc;cases hcc)) (fun g _ _=>⟨rfl,fun _ hm=>hm⟩) fun c g hg=>⟨by simp[Qv,Jn,hg],rfl,fun _ hm=>hm⟩
  .rw[r2]at hyx;subst hyx;obtain⟨g,p1,p2⟩:=h.slots t _ hy;exact⟨g,p1,by simp[Qv];exact p2⟩
  .rw[r2]at hyx;subst hyx;exact SbOk.ren (h.slots t _ hy) (by simp[Qv]) (by simp[setR]) (by simp[setR])
  .rw[r2]at hyx;subst hyx;obtain⟨g,p1,p2⟩:=h.slots t _ hy;exact⟨g,p1,by simp[Qv];exact p2⟩
  .rw[r2]at hyx;subst hyx;exact⟨.top _,trivial⟩
  .rw[r2]at hyx;subst hyx;obtain⟨g,cur,el,p1,p2,p3,p4,p5,p6⟩:=h.slots t _ hy
   have hOt:(setR (setO O true s none) s' (O.o true s) (O.len s) (O.siz s)).o true t=O.o true t:=by
    simp only[Qv,Jn];rw[if_neg (fun e1=>hts e1.2),if_neg (fun e1=>hts' e1.2)]
   refine⟨g,cur,el,p1,by rw[hOt];exact p2,p3,by simpa using p4,p5,fun j c u hc hu=>?_⟩;rw[A4]at hc
   cases hz:cs[j]? with
   | none=>rw[hz]at hc;cases hc
   | some z =>
    rw[hz]at hc;cases hc
    refine (p6 j z u hz hu).renC (by simp[Qv]) (by simp[setR]) (by simp[setR]) hOt fun id hid hne=>?_
    have hne':id≠s':=fun e1=>by
     subst e1
     have:(AV.bxg cs).refs id=true:=by
      simp only[AV.refs,List.any_eq_true];exact⟨z,D7 hz,hid⟩
     rw[hnr]at this;cases this
    obtain⟨f1,f2,f3⟩:=jF (O:=O) (v:=none) hne;obtain⟨g1,g2,g3⟩:=Hp (O:=setO O true s none) (v:=O.o true s) (len:=O.len s) (siz:=O.siz s) hne';exact⟨g1.trans f1,g2.trans f2,g3.trans f3⟩
  rw[r2]at hyx;subst hyx;obtain⟨us,p1,p2,p3⟩:=h.slots t _ hy;refine⟨us,p1,by simpa using p2,fun j c u hc hu=>?_⟩;rw[A4]at hc
  cases hz:cs[j]? with
  | none=>rw[hz]at hc;cases hc
  | some z =>
   rw[hz]at hc;cases hc;obtain⟨q1,q2,q3⟩:=p3 j z u hz hu
   have hO0:∀ c,(setR (setO O true s none) s' (O.o true s) (O.len s) (O.siz s)).o false c=O.o false c:=fun c=>by simp[Qv,Jn]
   refine⟨?_,qjj (q2.change fun c g _ hg=>⟨by rw[hO0];exact hg,rfl,fun _ hm=>hm⟩),qfR q3⟩
   refine (CellR.move0 q1 q3).renC (t:=s+s'+1) (by simp[Qv]) (by simp[setR]) (by simp[setR]) (by
    simp only[Qv,Jn]
    rw[if_neg (fun e=>by have:=e.2;omega),if_neg (fun e=>by have:=e.2;omega)]) (fun id hid hne=>?_) |>.move0 (qfR q3)
   have hne':id≠s':=fun e1=>by
    subst e1
    have:(AV.agr cs).refs id=true:=by
     simp only[AV.refs,List.any_eq_true];exact⟨z,D7 hz,hid⟩
    rw[hnr]at this;cases this
   obtain⟨f1,f2,f3⟩:=jF (O:=O) (v:=none) hne;obtain⟨g1,g2,g3⟩:=Hp (O:=setO O true s none) (v:=O.o true s) (len:=O.len s) (siz:=O.siz s) hne';exact⟨g1.trans f1,g2.trans f2,g3.trans f3⟩
 exact⟨O,h⟩
theorem qgW (s k:Nat) (xs:LM) (y:AV):thaw s k xs y=.top\/(y.refs s=false/\thaw s k xs y=y)\/(∃ e off m,y=.sb s e k off m/\thaw s k xs y=.lst e k none (snapA off m xs))\/(∃ cs,y=.bxg cs/\thaw s k xs y=.bxg (cs.map (thawC s k xs)))\/∃ cs,y=.agr cs/\thaw s k xs y=.agr (cs.map (thawC s k xs)):=by
 cases y with
 | sb id e k' off m =>
  simp only[thaw];by_cases h:A0 id s=true
  .rw[h];have:=A1 h;subst this;by_cases h2:A0 k' k=true
   .have:=A1 h2;subst this;exact .inr (.inr (.inl ⟨e,off,m,rfl,by simp⟩))
   have h2':A0 k' k=false:=Bool.eq_false_iff.2 h2;exact .inl (by rw[h2'])
  have h':A0 id s=false:=Bool.eq_false_iff.2 h;exact .inr (.inl ⟨h',by rw[h']⟩)
 | pe id k' j o =>
  simp only[thaw];by_cases h:A0 id s=true
  .exact .inl (by rw[h])
  have h':A0 id s=false:=Bool.eq_false_iff.2 h;exact .inr (.inl ⟨h',by rw[h']⟩)
 | pb id o =>
  simp only[thaw];by_cases h:A0 id s=true
  .exact .inl (by rw[h])
  have h':A0 id s=false:=Bool.eq_false_iff.2 h;exact .inr (.inl ⟨h',by rw[h']⟩)
 | tpr id e k' off m rest =>
  simp only[thaw];by_cases h:A0 id s=true
  .exact .inl (by rw[h])
  have h':A0 id s=false:=Bool.eq_false_iff.2 h;exact .inr (.inl ⟨h',by rw[h']⟩)
 | mb kd id =>
  simp only[thaw];by_cases h:A0 id s=true
  .exact .inl (by rw[h])
  have h':A0 id s=false:=Bool.eq_false_iff.2 h;exact .inr (.inl ⟨h',by rw[h']⟩)
 | bxg cs=>exact .inr (.inr (.inr (.inl ⟨cs,rfl,rfl⟩)))
 | agr cs=>exact .inr (.inr (.inr (.inr ⟨cs,rfl,rfl⟩)))
 | clb f caps =>
  simp only[thaw];by_cases h:(AV.clb f caps).refs s=true
  .exact .inl (by rw[h])
  have h':(AV.clb f caps).refs s=false:=Bool.eq_false_iff.2 h;exact .inr (.inl ⟨h',by rw[h']⟩)
 | _=>exact .inr (.inl ⟨rfl,rfl⟩)
theorem Inv.freezeObj (h:Inv bs n M O env a w) {e:Nat} (hl:look env s=some (.obj e k xs)) (hus:usable s=true) :
  ∃ M' O',Inv bs n M' O' ((env.filter fun p=>!A0 p.1 s).map fun p=>(p.1,thaw s k xs p.2)) a w:=by
 obtain⟨k0,k1,k2,k3⟩:=h.slots s _ hl
 have hty:∀ x,x∈xs->x.cells.length=k:=fun x hx=>(k1 x hx).1
 obtain⟨M',hsub,hM',hcell⟩:∃ M':Mem,Sub M M'/\(∀ b o,O.o true s≠some b->M' b o=M b o)/\Cons M' w/\∀ g,O.o true s=some g->∃ cur:LO,cur.size=O.siz s/\xs.length * k<=cur.size/\(∀ o,M' g o=cellsAt cur o)/\∀ (j:Nat) c u,(flat xs)[j]? = some c->cur[j]? = some u->R M c u:=by
  rcases k3 with ⟨_,hn⟩ | ⟨g,cur,f1,f2,f3,f4,f5,f6⟩
  .exact⟨M,Sub.refl M,fun _ _ _=>rfl,h.cons,fun g hg=>by rw[hn]at hg;cases hg⟩
  refine⟨addRow M g cur,?_,fun b o hb=>?_,?_,fun g' hg=>?_⟩
  .intro b o u hu;unfold addRow;split
   .rename_i e1;subst e1;rw[f5]at hu;cases hu
   exact hu
  .unfold addRow;rw[if_neg fun e1=>hb (by rw[e1];exact f1)]
  .intro b o u hu;unfold addRow at hu;split at hu
   .rename_i e1;subst e1;rw[mcRowAt f2];exact hu
   exact h.cons b o u hu
  have:g'=g:=by rw[f1]at hg;exact (Option.some.inj hg).symm
  subst this;exact⟨cur,f3,f4,fun o=>by simp[addRow],f6⟩
 obtain⟨hC,hcell⟩:=hcell
 have hOO:∀ i c g,(setO O true s none) i c=some g->O i c=some g/\¬ (i=true/\c=s):=by
  intro i c g hg;rw[Jn]at hg;split at hg
  .cases hg
  rename_i hne;exact⟨hg,hne⟩
 refine⟨M',setO O true s none,h.size,h.defers,h.below,h.hB,hC,h.ext.trans hsub,fun b o hb=>?_,fun i c g hg=>h.own i c g (hOO i c g hg).1,fun i i' c c' g h1 h2=>h.inj i i' c c' g (hOO _ _ _ h1).1 (hOO _ _ _ h2).1,⟨h.fix.1,fun c g1 g2=>?_⟩,fun t x hx=>?_⟩
 .rw[hM' b o fun hh=>(h.own _ _ _ hh).1 hb];exact h.old b o hb
 .obtain⟨e1,e2,e3⟩:=h.fix.2 c g1 g2;exact⟨(jF (O:=O) (v:=none) (fun e=>Ut hus ⟨by omega,by omega⟩:c≠s)).1.trans e1,e2,e3⟩
 obtain⟨hts,y,hy,hyx⟩:=YS hx
 have snap:∀ (e' off m:Nat) (v:Value),SbOk O s k off m v->R M' (.lst e' k none (snapA off m xs)) v:=by
  intro e' off m v hq;obtain⟨q1,q2⟩:=hq
  have hlen:(snapA off m xs).length=m:=by unfold snapA;simp;omega
  have hsubx:∀ x,x∈snapA off m xs->x∈xs:=fun x hx=>F7 (List.mem_of_mem_take hx)
  rcases q2 with ⟨rfl,ad,e1⟩ | ⟨g,cap,e1,r1,r2,r3,r4⟩
  .rw[e1]
   have:snapA off 0 xs=[]:=by simp[snapA]
   rw[this]
   cases ad with
   | none=>exact .lstn _ _ _
   | some ad=>exact .lste _ _ _ _ _
  obtain⟨cur,c1,c2,c3,c4⟩:=hcell g r1
  have hj2:∀ (j:Nat) c,(flat (snapA off m xs))[j]? = some c->(flat xs)[off * k+j]? = some c:=by
   intro j c hj;unfold snapA at hj;rw[VP (k:=k) m (fun y hy=>hty y (F7 hy)),ZS off hty,List.getElem?_take]at hj;split at hj
   .rw[List.getElem?_drop]at hj;exact hj
   cases hj
  have hcur:∀ (j:Nat) c,(flat (snapA off m xs))[j]? = some c->cur[off * k+j]? = some (cur.getD (off * k+j) undef):=by
   intro j c hj;have hlt:=(List.getElem?_eq_some_iff.1 (hj2 j c hj)).1;rw[jE hty]at hlt
   have:off * k+j<cur.size:=by omega
   simp[this]
  rw[e1];have:=R.lst (M:=M') (e:=e') (k:=k) (l:=none) (xs:=snapA off m xs) (b:=g) (off:=off * k) (cap:=cap) (fun j=>cur.getD (off * k+j) undef) (by rw[hlen];exact r3) (fun y hy=>hty y (hsubx y hy)) (fun y hy=>(k1 y (hsubx y hy)).2)
   (fun j c hj=>by rw[c3];exact JN (hcur j c hj) (Yx ((c4 _ _ _ (hj2 j c hj) (hcur j c hj)).one (UW (fun y hy=>(k1 y (hsubx y hy)).2) hj)))) (fun j c hj=>(c4 _ _ _ (hj2 j c hj) (hcur j c hj)).mono hsub)
  rw[hlen]at this;exact this
 have hrow:∀ i c g,O i c=some g->¬ (i=true/\c=s)->∀ o,M g o=none->M' g o=none:=by
  intro i c g hg hne o hm;rw[hM' g o fun e1=>hne (h.inj _ _ _ _ g hg e1)];exact hm
 rcases qgW s k xs y with hh | ⟨hnr,hh⟩ | ⟨e',off,m,rfl,hh⟩ | ⟨cs,rfl,hh⟩ | ⟨cs,rfl,hh⟩
 .rw[hh]at hyx;subst hyx;exact⟨.top _,trivial⟩
 .rw[hh]at hyx;subst hyx
  refine (h.slots t _ hy).change2 hsub (fun _=>jF hts) (fun c hcc=>jF fun e=>by rw[e,hnr]at hcc;cases hcc) (fun g _ hg=>⟨rfl,hrow true t g hg fun e=>hts e.2⟩) fun c g hg=>⟨by simp[Jn,hg],rfl,hrow false c g hg fun e=>by cases e.1⟩
 .rw[hh]at hyx;subst hyx;exact⟨snap e' off m _ (h.slots t _ hy),trivial⟩
 .rw[hh]at hyx;subst hyx;obtain⟨g,cur,el,p1,p2,p3,p4,p5,p6⟩:=h.slots t _ hy;have hOt:=(jF (O:=O) (v:=none) hts).1;refine⟨g,cur,el,p1,by rw[hOt];exact p2,p3,by simpa using p4,fun o=>hrow true t g p2 (fun e=>hts e.2) o (p5 o),fun j c u hc hu=>?_⟩;rw[A4]at hc
  cases hz:cs[j]? with
  | none=>rw[hz]at hc;cases hc
  | some z =>
   rw[hz]at hc;cases hc
   exact (p6 j z u hz hu).thawC hsub snap hOt fun id _ hne=>jF hne
 rw[hh]at hyx;subst hyx;obtain⟨us,p1,p2,p3⟩:=h.slots t _ hy;refine⟨us,p1,by simpa using p2,fun j c u hc hu=>?_⟩;rw[A4]at hc
 cases hz:cs[j]? with
 | none=>rw[hz]at hc;cases hc
 | some z =>
  rw[hz]at hc;cases hc;obtain⟨q1,q2,q3⟩:=p3 j z u hz hu;refine⟨?_,qht (q2.change fun c g _ hg=>⟨by simp[Jn,hg],rfl,hrow false c g hg fun e=>by cases e.1⟩),qdJ q3⟩;exact ((CellR.move0 (t':=s+1) q1 q3).thawC hsub snap (jF (O:=O) (v:=none) oM).1 fun id _ hne=>jF hne).move0 (qdJ q3)
theorem qfB (s:Nat) (ks vs:LM) (y:AV):thawM s ks vs y=.top\/(y.refs s=false/\thawM s ks vs y=y)\/(y=.mb 0 s/\thawM s ks vs y=.mpv ks vs)\/(∃ cs,y=.bxg cs/\thawM s ks vs y=.bxg (cs.map (thawCM s ks vs)))\/∃ cs,y=.agr cs/\thawM s ks vs y=.agr (cs.map (thawCM s ks vs)):=by
 have other:(∀ cs,y≠.bxg cs)->(∀ cs,y≠.agr cs)->thawM s ks vs y=killRef s y->thawM s ks vs y=.top\/(y.refs s=false/\thawM s ks vs y=y)\/(y=.mb 0 s/\thawM s ks vs y=.mpv ks vs)\/(∃ cs,y=.bxg cs/\thawM s ks vs y=.bxg (cs.map (thawCM s ks vs)))\/∃ cs,y=.agr cs/\thawM s ks vs y=.agr (cs.map (thawCM s ks vs)):=by
  intro hb hg h;rw[h];unfold killRef
  cases hr:y.refs s with
  | true =>
   cases y with
   | bxg cs=>exact absurd rfl (hb cs)
   | agr cs=>exact absurd rfl (hg cs)
   | _=>exact .inl rfl
  | false=>exact .inr (.inl ⟨rfl,rfl⟩)
 cases y with
 | mb kd id =>
  simp only[thawM];by_cases h:A0 id s=true
  .rw[h];have:=A1 h;subst this
   cases kd with
   | zero=>exact .inr (.inr (.inl ⟨rfl,rfl⟩))
   | succ kd=>exact .inl rfl
  have h':A0 id s=false:=Bool.eq_false_iff.2 h;exact .inr (.inl ⟨h',by rw[h']⟩)
 | bxg cs=>exact .inr (.inr (.inr (.inl ⟨cs,rfl,rfl⟩)))
 | agr cs=>exact .inr (.inr (.inr (.inr ⟨cs,rfl,rfl⟩)))
 | _=>exact other (fun cs e=>by cases e) (fun cs e=>by cases e) rfl
theorem Inv.freezeMap (h:Inv bs n M O env a w) (hl:look env s=some (.hob 0 ks vs)) (hus:usable s=true) :
  ∃ M' O',Inv bs n M' O' ((env.filter fun p=>!A0 p.1 s).map fun p=>(p.1,thawM s ks vs p.2)) a w:=by
 obtain⟨g,k1,k2,es,clock,k3,E⟩:=h.slots s _ hl
 obtain⟨M',hM⟩:∃ M':Mem,M'=fun b o=>if b=g then mc w g o else M b o:=⟨_,rfl⟩
 have hsub:Sub M M':=by
  intro b o u hu;rw[hM];simp only;split
  .rename_i e1;subst e1;rw[k2]at hu;cases hu
  exact hu
 have hM':∀ b o,b≠g->M' b o=M b o:=fun b o hb=>by rw[hM];simp only;rw[if_neg hb]
 have hMg:M' g 0=some (mapCell es clock):=by rw[hM];simp only[if_true];exact Zj k3
 have hC:Cons M' w:=by
  intro b o u hu;rw[hM]at hu;simp only at hu;split at hu
  .rename_i e1;subst e1;exact hu
  exact h.cons b o u hu
 have hOO:∀ i c g,(setO O true s none) i c=some g->O i c=some g/\¬ (i=true/\c=s):=by
  intro i c g hg;rw[Jn]at hg;split at hg
  .cases hg
  rename_i hne;exact⟨hg,hne⟩
 refine⟨M',setO O true s none,h.size,h.defers,h.below,h.hB,hC,h.ext.trans hsub,fun b o hb=>?_,fun i c g hg=>h.own i c g (hOO i c g hg).1,fun i i' c c' g h1 h2=>h.inj i i' c c' g (hOO _ _ _ h1).1 (hOO _ _ _ h2).1,⟨h.fix.1,fun c g1 g2=>?_⟩,fun t x hx=>?_⟩
 .rw[hM' b o fun e1=>(h.own _ _ _ k1).1 (by rw[<- e1];exact hb)];exact h.old b o hb
 .obtain⟨e1,e2,e3⟩:=h.fix.2 c g1 g2;exact⟨(jF (O:=O) (v:=none) (fun e=>Ut hus ⟨by omega,by omega⟩:c≠s)).1.trans e1,e2,e3⟩
 obtain⟨hts,y,hy,hyx⟩:=YS hx
 have hrow:∀ i c g',O i c=some g'->¬ (i=true/\c=s)->∀ o,M g' o=none->M' g' o=none:=by
  intro i c g' hg hne o hm;rw[hM' g' o fun e1=>hne (h.inj _ _ _ _ g' hg (by rw[e1];exact k1))];exact hm
 have snap:∀ g',O true s=some g'->R M' (.mpv ks vs) (.map (some g')):=by
  intro g' q1
  have:g'=g:=by rw[k1]at q1;exact (Option.some.inj q1).symm
  subst this;obtain⟨E1,E2,E3,E4,E5,E6⟩:=E
  exact .mpv hMg E1 E2 E3 E4 E5 fun j v e hv he=>(E6 j v e hv he).mono hsub
 rcases qfB s ks vs y with hh | ⟨hnr,hh⟩ | ⟨rfl,hh⟩ | ⟨cs,rfl,hh⟩ | ⟨cs,rfl,hh⟩
 .rw[hh]at hyx;subst hyx;exact⟨.top _,trivial⟩
 .rw[hh]at hyx;subst hyx
  refine (h.slots t _ hy).change2 hsub (fun _=>jF hts) (fun c hcc=>jF fun e=>by rw[e,hnr]at hcc;cases hcc) (fun g _ hg=>⟨rfl,hrow true t g hg fun e=>hts e.2⟩) fun c g hg=>⟨by simp[Jn,hg],rfl,hrow false c g hg fun e=>by cases e.1⟩
 .rw[hh]at hyx;subst hyx;obtain⟨g',q1,q2⟩:=h.slots t _ hy
  have:g'=g:=by rw[k1]at q1;exact (Option.some.inj q1).symm
  subst this;refine⟨?_,trivial⟩;rw[q2];exact snap g' k1
 .rw[hh]at hyx;subst hyx;obtain⟨g1,cur,el,p1,p2,p3,p4,p5,p6⟩:=h.slots t _ hy;have hOt:=(jF (O:=O) (v:=none) hts).1;refine⟨g1,cur,el,p1,by rw[hOt];exact p2,p3,by simpa using p4,fun o=>hrow true t g1 p2 (fun e=>hts e.2) o (p5 o),fun j c u hc hu=>?_⟩;rw[A4]at hc
  cases hz:cs[j]? with
  | none=>rw[hz]at hc;cases hc
  | some z =>
   rw[hz]at hc;cases hc
   exact (p6 j z u hz hu).thawCM hsub snap hOt fun id _ hne=>jF hne
 rw[hh]at hyx;subst hyx;obtain⟨us,p1,p2,p3⟩:=h.slots t _ hy;refine⟨us,p1,by simpa using p2,fun j c u hc hu=>?_⟩;rw[A4]at hc
 cases hz:cs[j]? with
 | none=>rw[hz]at hc;cases hc
 | some z =>
  rw[hz]at hc;cases hc;obtain⟨q1,q2,q3⟩:=p3 j z u hz hu;refine⟨?_,qga (q2.change fun c g _ hg=>⟨by simp[Jn,hg],rfl,hrow false c g hg fun e=>by cases e.1⟩),qbZ q3⟩;exact ((CellR.move0 (t':=s+1) q1 q3).thawCM hsub snap (jF (O:=O) (v:=none) oM).1 fun id _ hne=>jF hne).move0 (qbZ q3)
theorem Inv.slfCell (h:Inv bs n M O env a w) (s off:Nat):Inv bs n M O (slfCell env s off) a w:=by
 unfold AM.slfCell;split
 case h_2=>exact h
 rename_i cs hl;split
 case h_2=>exact h
 rename_i x hoff;obtain⟨g,cur,el,p1,p2,p3,p4,p5,p6⟩:=h.slots s _ hl;refine h.setVal ⟨g,cur,el,p1,p2,p3,by simpa using p4,p5,fun j c u hcj hu=>?_⟩;rw[List.getElem?_set]at hcj;split at hcj
 .rename_i e1;subst e1;split at hcj
  .cases hcj;have q:=(p6 _ _ u hoff hu).2;cases q;exact .inl rfl
  cases hcj
 exact p6 j c u hcj hu
theorem Inv.arrBox (h:Inv bs n M O env a w) (d:Nat):∃ O',Inv bs n M O' (arrBox env d) a w:=by
 unfold AM.arrBox;split
 .rename_i cs hl hc;simp only[A2]at hc;obtain⟨hc,hd⟩:=hc;have hd:d<1000000:=A3 hd;obtain⟨c1,c2⟩:=JM hc;have h1:=h.forget (s:=d) (qdH oM);obtain⟨g,cur,el,p1,p2,p3,p4,p5,p6⟩:=h.slots d _ hl;have p1:=p1.resolve_right oM
  have hS:HobOk (setR (setO O true d none) (1000000+d) (some g) 0 0) M w (1000000+d) 3 [] (cs.map AV.strip):=by
   refine⟨g,by simp[Qv],p5,cur,el,p3,by simpa using p4,fun j c u hcj hu=>?_⟩;rw[A4]at hcj
   cases hz:cs[j]? with
   | none=>rw[hz]at hcj;cases hcj
   | some z =>
    rw[hz]at hcj;cases hcj;obtain⟨q1,q2,_⟩:=p6 j z u hz hu;exact⟨Xm q1,XJ z,q2.strip⟩
  have h2:=h1.claim (t:=1000000+d) (x:=.hob 3 [] (cs.map AV.strip)) (fun t x hx=>by
   obtain⟨_,y,hy,hyx⟩:=Vn hx;have:=c2 t y hy;rw[hyx]
   cases hk:(killRef d y).refs (1000000+d) with
   | false=>rfl
   | true=>rw[Nn hk]at this;cases this) oM (some g) 0 0 (fun g' e=>by
    cases e;refine⟨(h.own _ _ _ p2).1,(h.own _ _ _ p2).2,fun i c hh=>?_⟩;exfalso;rw[Jn]at hh;split at hh
    .cases hh
    rename_i hn
    exact hn (h.inj _ _ _ _ g hh p2)) hS
  exact⟨_,h2.setVal (t:=d) (x:=.pb (1000000+d) 0) ⟨g,p1,by simp[Qv]⟩⟩
 exact⟨O,h⟩
end
end Go.AM
namespace Go.AM
open Go.RowKit
variable {c d ex kx t t':Nat} {v x:AV} {xs:LM}
section
variable {n:Nat} {P:Program}
def unlab:LQ->Env->Env
  | [],e=>e
  | c::r,e=>unlab r (relabE c none e)
def unlV:LQ->AV->AV
  | [],x=>x
  | c::r,x=>unlV r (x.relabB c none)
theorem Nl:∀ (cl:LQ) (e:Env) (t:Nat),look (unlab cl e) t=(look e t).map (unlV cl)
  | [],e,t=>by cases h:look e t <;> simp[unlab,unlV,h]
  | c::r,e,t=>by
    simp only[unlab];rw[Nl r];unfold relabE;rw[ZC (AV.relabB c none)];cases look e t <;> rfl
def StepB (P:Program) (n:Nat) (all:LF) (o:Oper) (e e1:Env):Prop :=
  ∃ (d:Nat) (v:AV) (cl:LQ),o.dst=some d/\v.ent=false/\(∀ b,v.hasLabB b=true->b=d)/\(∀ c,c∈cl->c∈killsB o)/\e1=ins d v (unlab cl e) /\
    ∀ E,NA all o e E->StepSem P n all o E (ins d v (unlab cl E))
inductive ChainB (P:Program) (n:Nat) (all:LF):LF->Env->Env->Prop where
  | nil {e}:ChainB P n all [] e e
  | step {o rest e e1 e'}:StepB P n all o e e1->ChainB P n all rest e1 e'->ChainB P n all (o::rest) e e'
theorem qeM (x:AV) (b:Nat) (hx:x.ent=false):x.strip.hasLabB b=false:=by
  cases x with
  | agr cs =>
    simp only[AV.strip,AV.hasLabB,List.any_map,List.any_eq_false];intro c _
    cases c <;> exact fun e=>by cases e
  | box cs=>cases hx
  | _=>rfl
theorem qlu {all:LF} {o:Oper} {e e1:Env} (hd:o.dst=some d) (hw:awanted all o e=some true) (hm:memFree o.op=true) (hx:apure P o e=some x) (hnb:x.ent=false) (he:eput n o.dst x.strip e=some e1):StepB P n all o e e1:=by
  obtain⟨h1,h2,_⟩:=QK he;rw[hd]at h1 h2;refine⟨d,x.strip,[],hd,(by cases x <;> first | rfl | cases hnb),fun b hb=>?_,fun c hc=>(by cases hc),h1,fun E hk=>?_⟩
  . rw[qeM x b hnb]at hb;cases hb
  intro bs M O a w h K Q hK;rw[jl h (JE hk hw)];simp only[if_true];obtain⟨v,w',M',k1,k2,k3,k4,k5,k6⟩:=DA h (Hj (Xg hk) (.inl hm) hx);have h':=h.grown (row:=none) (fun g e=>by cases e) k2 k3 k4 (fun b o hb _=>k5 b o hb);have h2':=NZ h' (d:=some d) (qbk k6) h2;exact ZE (env':=ins d x.strip E) ⟨v,w',M',O,.inl k1,by rw[hd];exact h2'⟩ hK
theorem mk_B {all:LF} {o:Oper} {e e1:Env} {m:Nat} {ps:Array (Nat×Operand)} (ho:o.op=.buildSlice t m ps) {el k:Nat} (hd:o.dst=some d) (hw:awanted all o e=some true) (hx:apure P o e=some (.lst el k none xs)) (he:eput n o.dst (.lst el k (some d) xs) (relabE d none e)=some e1):StepB P n all o e e1:=by
  obtain⟨h1,h2,_⟩:=QK he;rw[hd]at h1 h2;refine⟨d,.lst el k (some d) xs,[d],hd,rfl,fun b hb=>?_,fun c hc=>?_,h1,fun E hk=>?_⟩
  . exact (A1 hb).symm
  . unfold killsB
    rw[ho,hd]
    simpa using hc
  intro bs M O a w h K Q hK;rw[jl h (JE hk hw)];simp only[if_true];have hxE:=Hj (Xg hk) (.inl (by rw[ho];rfl)) hx;unfold apure at hxE;rw[ho]at hxE;simp only at hxE;split at hxE
  case h_2=>cases hxE
  rename_i l hl;obtain⟨e1',k1,xs1,us,e2,g1,g2,g3,g4⟩:=YA (P:=P) h ho hl hxE;cases e2;have h':=h.grown (row:=none) (fun g e=>by cases e) (World.grownBy_alloc w (.cells us el) none) (VW h.cons us) (Hd h.cons us el) (fun b o hb _=>Nu us b o hb);have hBle:¬ bs.D w.heap.size:=h.fresh (D4 _);have h'':=h'.relab d none (fun c hc=>by cases hc)
  obtain⟨O',hfin⟩:=h''.putFresh (d:=d) (g:=w.heap.size) (off:=0) (cap:=xs.length) (cur:=us) (h2 d rfl) (ZF d E) g3 (.inr ⟨rfl,hBle,fun i c hc=>by
    have hcO:O i c=some w.heap.size:=by
      simp only[relO,Jn]at hc;split at hc
      . cases hc
      . exact hc
    have:=(h.own i c _ hcO).2
    omega,heap_alloc_new w _,by rw[D3];exact g2,D4 _,by unfold maxLen;omega,fun o ho=>by
      unfold addRow;rw[if_pos rfl];rw[D3]at ho;unfold cellsAt
      simp[g2,ho]⟩)
  exact ZE ⟨_,_,_,O',.inl g1,by rw[hd];exact hfin⟩ hK
theorem qgV {y:AV} {e e1:Env} (h:aappend P t t' d (.lst ex kx (some c) xs) y e=some (v,e1)) :
    (∃ a b l,v=.lst a b (some d) l)/\e1=relabE d none (relabE c none e)/\∀ E,aappend P t t' d (.lst ex kx (some c) xs) y E=some (v,relabE d none (relabE c none E)):=by
  unfold aappend at h ⊢;split at h
  case h_2=>cases h
  rename_i e' s hse;split at h
  . cases h
  rename_i hc;split at h
  . cases h
  . rename_i ey ky l ys
    split at h
    . cases h
    rename_i hky;simp only at h;split at h
    . cases h
    rename_i hb;split at h
    case isFalse=>cases h
    rename_i hcap;cases h;refine⟨⟨_,_,_,rfl⟩,rfl,fun E=>?_⟩;simp only[hse,hc,hky,hb];rw[if_pos hcap]
  . cases h
theorem Vc {d t:Nat} (h:t≠d):∀ (E:Env),look (E.filter fun p=>!A0 p.1 d) t=look E t
  | []=>rfl
  | (k,y)::r=>by
    simp only[List.filter_cons];split
    . simp only[look]
      split
      . rfl
      . exact Vc h r
    . rename_i hk
      have hk:k=d:=by
        simp at hk;exact hk
      rw[Vc h r];simp only[look];split
      . rename_i hb
        have:=A1 hb;omega
      . rfl
theorem qcz (E:Env):look (E.filter fun p=>!A0 p.1 d) d≠some x:=by
  intro h;exact (QM h).1 rfl
theorem qlW {all:LF} {o:Oper} {e e1:Env} {args:Array Operand} {ats:Array TypeId} (ho:o.op=.call { callee:=.builtin .append,args:=args,argTypes:=ats }) {x y:Nat} {b:AV} {env1:Env}
    (hax:args.toList=[.tmp x,.tmp y]) (hat:ats.toList=[t,t']) (hd:o.dst=some d) (hw:awanted all o e=some true) (hx:aop e (.tmp x)=some (.lst ex kx (some c) xs)) (hy:aop e (.tmp y)=some b) (hcx:c=x) (hxd:x≠d) (hyd:y≠d)
    (hap:aappend P t t' d (.lst ex kx (some c) xs) b e=some (v,env1)) (he:eput n o.dst v env1=some e1):StepB P n all o e e1:=by
  obtain⟨⟨va,vb,vl,rfl⟩,rfl,hE⟩:=qgV hap;obtain⟨h1,h2,_⟩:=QK he;rw[hd]at h1 h2;refine⟨d,.lst va vb (some d) vl,[c,d],hd,rfl,fun b' hb=>?_,fun c' hc=>?_,h1,fun E hk=>?_⟩
  . exact (A1 hb).symm
  . unfold killsB
    rw[ho];simp only[hax,hd];rw[<- hcx];exact hc
  intro bs M O a w h K Q hK;rw[jl h (JE hk hw)];simp only[if_true];have hkn:=Xg hk
  have hops:∀ z v,z∈[Operand.tmp x,Operand.tmp y]->aop e z=some v->aop E z=some v:=fun z v hz hv=>hkn z (by
    have hm:z∈args.toList:=by rw[hax];exact hz
    rw[ho];simp[Op.operands,Call.operands]
    simpa using hm) v hv
  have hxE:=hops _ _ (by simp) hx;have hyE:=hops _ _ (by simp) hy
  have low:∀ z v,z≠d->aop E (.tmp z)=some v->aop (E.filter fun p=>!A0 p.1 d) (.tmp z)=some v:=by
    intro z v hz hv;simp only[aop]at hv ⊢;rw[Vc hz];exact hv
  have h1':Inv bs n M O (E.filter fun p=>!A0 p.1 d) a w:=h.sub fun s z hz=>.inl (QM hz).2
  have hst:astep P n o (E.filter fun p=>!A0 p.1 d)=some (ins d (.lst va vb (some d) vl) (relabE d none (relabE c none (E.filter fun p=>!A0 p.1 d)))):=by
    unfold astep;rw[ho];simp only[hax,hat,hd,low x _ hxd hxE,low y _ hyd hyE,hE];unfold eput
    have hnone:look (relabE d none (relabE c none (E.filter fun p=>!A0 p.1 d))) d=none:=by
      have:=Nl [c,d] (E.filter fun p=>!A0 p.1 d) d;simp only[unlab]at this;rw[this]
      cases hl:look (E.filter fun p=>!A0 p.1 d) d with
      | none=>rfl
      | some z=>exact absurd hl (qcz E)
    have hlt:Nat.blt d n=true:=D1 (h2 d rfl);simp only[hnone,hlt];rfl
  refine ZE (qbD h1' hst) fun a' w' M' O' h'=>hK a' w' M' O' (h'.looks fun s=>?_)
  rw[jy,jy];split
  . rfl
  . rename_i hs
    have e1:=Nl [c,d] E s;have e2:=Nl [c,d] (E.filter fun p=>!A0 p.1 d) s;rw[e1,<- Vc hs E];exact e2.symm
theorem qjH {all:LF} {o:Oper} {e e1:Env} (hw:awanted all o e=some true) (he:astepB P n o e=some e1):StepB P n all o e e1:=by
  unfold astepB at he;split at he
  . rename_i args ats ho
    split at he
    case h_2=>cases he
    rename_i x y t t' d hax hat hd;split at he
    case h_2=>cases he
    rename_i ex kx c xs b hx hy;split at he
    case h_2=>cases he
    rename_i hb;simp only[A2,A6]at hb;obtain⟨⟨b1,b2⟩,b3⟩:=hb;split at he
    case h_2=>cases he
    rename_i v env1 hap;exact qlW ho hax hat hd hw hx hy (A1 b1) (fun h=>by rw[h]at b2;simp at b2) (fun h=>by rw[h]at b3;simp at b3) hap he
  . rename_i t m ps ho
    split at he
    case h_2=>cases he
    rename_i d el k xs hd hx;exact mk_B ho hd hw hx he
  . split at he
    case h_2=>cases he
    rename_i d v hd hx;split at he
    case h_2=>cases he
    rename_i hb;simp only[A2]at hb;exact qlu hd hw hb.1 hx (by simpa[notBox] using hb.2) he
variable {all:LF} {es:Nat->Env}
end
end Go.AM
namespace Go.AM
open Go.RowKit
variable {F G e e1:Env} {d id t:Nat} {v x:AV}
section
variable {n:Nat} {P:Program} {all:LF}
theorem LE.refl (E:Env):LE E E:=fun _=>rfl
theorem LE.symm {E F:Env} (h:LE E F):LE F E:=fun t=>(h t).symm
theorem LE.trans {E F G:Env} (h:LE E F) (k:LE F G):LE E G:=fun t=>(h t).trans (k t)
theorem LE.ins {E F:Env} (h:LE E F) (d:Nat) (x:AV):LE (ins d x E) (ins d x F):=fun t=>by rw[jy,jy,h t]
theorem LE.insO {E F:Env} (h:LE E F) (d:LP) (x:AV):LE (insO d x E) (insO d x F):=by
 cases d with
 | none=>exact h
 | some d=>exact h.ins d x
theorem LE.map {E F:Env} (h:LE E F) (g:AV->AV):LE (E.map fun p=>(p.1,g p.2)) (F.map fun p=>(p.1,g p.2)):=fun t=>by rw[ZC g,ZC g,h t]
theorem LE.inv {bs:Base} {M:Mem} {O:Gh} {E:Env} {a:Act} {w:World} (h:LE E F) (hi:Inv bs n M O E a w):Inv bs n M O F a w:=hi.looks fun s=>(h s).symm
theorem qcc {o:Oper} {E E1 F1:Env} (h:StepSem P n all o E E1) (h1:LE E F) (h2:LE E1 F1):StepSem P n all o F F1:=fun bs M O a w hi K Q hK =>
 h bs M O a w (h1.symm.inv hi) K Q fun a' w' M' O' h'=>hK a' w' M' O' (h2.inv h')
theorem ZD {s t:Nat} (h:t≠s):∀ (E:Env),look (E.filter fun q=>!A0 q.1 s) t=look E t
 | []=>rfl
 | (r,x)::E=>by
  simp only[List.filter_cons];split
  .simp only[look];split
   .rfl
   exact ZD h E
  rename_i hr;rw[ZD h E];simp only[look];split
  .rename_i ht;have:=A1 ht;subst this;exfalso;apply hr;simp only[A6]
   exact Bool.eq_false_iff.2 fun e=>h (A1 e)
  rfl
def ded:Env->Env
 | []=>[]
 | p::r=>p::(ded r).filter fun q=>!A0 q.1 p.1
theorem qam:∀ (E:Env) (t:Nat),look (ded E) t=look E t
 | [],t=>rfl
 | (s,x)::r,t=>by
  simp only[ded,look];split
  .rfl
  rename_i hs
  have hne:t≠s:=fun e=>by subst e;simp at hs
  rw[ZD hne];exact qam r t
theorem qit:∀ {E:Env} {p:Nat×AV},p∈ded E->look E p.1=some p.2
 | (s,x)::r,p,h=>by
  simp only[ded,List.mem_cons,List.mem_filter]at h
  rcases h with rfl | ⟨h,hne⟩
  .simp[look]
  have h1:=qit h;simp only[look];split
  .rename_i hs;have:=A1 hs;rw[this]at hne;simp at hne
  exact h1
theorem qjC {E:Env} (h:ClearL id E):clearOf id (ded E)=true:=by
 unfold clearOf;rw[A5];intro p hp;have h1:=qit hp;simp only[A2,A6];refine⟨Bool.eq_false_iff.2 fun e=>?_,h.2 _ _ h1⟩;have:=A1 e;rw[this,h.1]at h1;cases h1
def Fr (o:Oper) (E:Env):Prop:=∀ d,o.dst=some d->look E d=none/\d<1000000
def IsP (P:Program) (n:Nat) (all:LF) (o:Oper) (E E1:Env):Prop :=
 isEff o.op=false/\∃ x,x.ent=false/\LE (insO o.dst x E) E1/\∀ F,NA all o E F->(memFree o.op=true\/EA E F)->StepSem P n all o F (insO o.dst x F)
def Stp (P:Program) (n:Nat) (all:LF) (o:Oper) (E E1:Env):Prop :=
 StepSem P n all o E E1/\Fr o E/\(isEff o.op=false->IsP P n all o E E1)/\(o.guard=none->isMk o.op=true->IsA P n all o E E1)/\(o.guard=none->isApp o.op=true->IsB P n all o E E1)
theorem qks {o:Oper} {E:Env} (h:LE E F) (k:NA all o F G):NA all o E G:=fun t ht y hy=>k t ht y (by unfold lookS at hy ⊢;rw[<- h t];exact hy)
theorem qlV {E:Env} (h:LE E F) (k:EA F G):EA E G:=fun s x hx hl=>k s x hx (by rw[<- h s];exact hl)
theorem qkW {E:Env} (h:LE E F) (k:ClearL id E):ClearL id F:=⟨by rw[<- h id];exact k.1,fun s x hx=>k.2 s x (by rw[h s];exact hx)⟩
theorem Stp.le {o:Oper} {E E1:Env} (h:Stp P n all o E E1) (hl:LE E F):Stp P n all o F E1:=by
 obtain⟨h1,h2,h3,h4,h5⟩:=h;refine⟨qcc h1 hl (LE.refl _),fun d hd=>⟨by rw[<- hl d];exact (h2 d hd).1,(h2 d hd).2⟩,fun he=>?_,fun hg he=>?_,fun hg he=>?_⟩
 .obtain⟨k0,x,k1,k2,k3⟩:=h3 he;exact⟨k0,x,k1,(hl.symm.insO _ _).trans k2,fun G hG hm=>k3 G (qks hl hG) (hm.imp id fun hm=>qlV hl hm)⟩
 .obtain⟨k0,d,x,y,k1,k2,k3,k4,k5⟩:=h4 hg he;exact⟨k0,d,x,y,k1,k2,qkW hl k3,((hl.symm.ins _ _).ins _ _).trans k4,fun G hG=>k5 G (qks hl hG)⟩
 obtain⟨k0,k⟩:=h5 hg he;refine⟨k0,k.imp id ?_⟩
 rintro⟨d,v,g,k1,k2,k3,k4,k5⟩
 exact⟨d,v,g,k1,((hl.symm.map g).ins _ _).trans k2,k3,fun x hx t ht=>by rw[<- hl t];exact k4 x hx t ht,fun G hG=>k5 G (qks hl hG)⟩
inductive Ch (P:Program) (n:Nat) (all:LF):LQ->Env->Env->Prop where
 | nil {E E'}:LE E E'->Ch P n all [] E E'
 | cons {i o R E E1 E'}:all[i]? = some o->Stp P n all o E E1->Ch P n all R E1 E'->Ch P n all (i::R) E E'
theorem Ch.le {R:LQ} {E F E':Env} (h:Ch P n all R E E') (hl:LE E F):Ch P n all R F E':=by
 cases h with
 | nil h=>exact .nil (hl.symm.trans h)
 | cons h1 h2 h3=>exact .cons h1 (h2.le hl) h3
theorem qdt {g:AV->AV} (h:look e t=none):look (e.map fun p=>(p.1,g p.2)) t=none:=by
 rw[ZC g,h];rfl
theorem UJ {l:Nat} (h:plainV (some x)=true):x.relabB l none=x:=by
 cases x with
 | box cs=>cases h
 | agr cs=>cases h
 | lst e k lab xs=>cases lab with
  | none=>rfl
  | some c=>cases h
 | _=>rfl
theorem qbG {t':Nat} {a b:AV} {e':Env} (h:aappend P t t' d a b e=some (v,e')) :
  ∃ g:AV->AV,(∀ x,plainV (some x)=true->g x=x)/\e'=e.map (fun p=>(p.1,g p.2))/\∀ F:Env,aappend P t t' d a b F=some (v,F.map fun p=>(p.1,g p.2)):=by
 unfold aappend at h ⊢;split at h
 case h_2=>cases h
 rename_i el s hse;split at h
 .cases h
 rename_i hc;split at h
 .cases h
 case h_3=>cases h
 rename_i ey ky l ys;split at h
 .cases h
 rename_i hky;split at h
 .split at h
  .rename_i hb;cases h;refine⟨fun x=>x.relabB d none,fun x hx=>UJ hx,rfl,fun F=>?_⟩;simp only[hse,hky];rw[if_pos hb];rfl
  cases h
 .rename_i ex kx c xs;split at h
  .cases h
  rename_i hx;split at h
  .rename_i hb;cases h;refine⟨fun x=>(x.relabB c none).relabB d none,fun x hx=>by show (x.relabB c none).relabB d none=x;rw[UJ hx,UJ hx],by simp[relabE,List.map_map,Function.comp],fun F=>?_⟩;simp only[hse,hky,hx];rw[if_pos hb];simp[relabE,List.map_map,Function.comp]
  cases h
 cases h
theorem ZR (h:t≠d) (hl:look e t=none):look (ins d x e) t=none:=by rw[jy,if_neg h];exact hl
theorem JW {o:LP} (h:eput n o v e=some e1) (ht:o≠some t) (hl:look e t=none):look e1 t=none:=by
 obtain⟨rfl,_,_⟩:=QK h;rw[VK ht];exact hl
theorem qfi {s:Nat} (hl:look e t=none):look (forget s e) t=none:=by
 cases h:look (forget s e) t with
 | none=>rfl
 | some y =>
  obtain⟨_,z,hz,_⟩:=Vn h;rw[hl]at hz;cases hz
theorem qly {o:Oper} (hw:awanted all o e=some true) (hl:lfOk all o e=true) (he:astep P n o e=some e1) (heff:isEff o.op=true) (hst:isStore o.op=false):Hard P n all o e e1:=by
 refine⟨⟨heff,hst⟩,fun t ht hd hn=>?_,fun _ hm=>?_,fun _ ha=>?_⟩
 .
  have ge:∀ d:Nat,t≠1000000+d:=fun d e=>absurd ht (Nat.not_lt_of_le (by rw[e];exact Nat.le_add_right _ _))
  unfold astep at he;split at he
  .split at he
   .rename_i d hd';split at he
    .split at he
     .exact JW he hd hn
     cases he
    cases he
   cases he
  .split at he
   .split at he
    .exact JW he hd hn
    split at he
    .exact JW he hd hn
    cases he
   .split at he
    .exact JW he hd hn
    cases he
   cases he
  .rename_i ho;rw[ho]at hst;cases hst
  .split at he
   .split at he
    .split at he
     .split at he
      .rw[D5]at he;obtain⟨e2,h1,rfl⟩:=he;exact ZR (ge _) (JW h1 hd hn)
      cases he
     cases he
    cases he
   cases he
  .split at he
   .rename_i x y t1 t2 d _ _ hdst
    have htd:t≠d:=fun e=>by subst e;exact hd hdst
    split at he
    .
     unfold Us at he;split at he
     case h_2=>cases he
     split at he
     .cases he
     simp only at he;split at he
     case h_2=>cases he
     split at he
     case h_2=>cases he
     split at he
     case h_2=>cases he
     split at he
     .cases he;exact ZR (ge _) (ZR htd (qfi hn))
     cases he
    .split at he
     .rename_i v env1 hap;obtain⟨g,_,rfl,_⟩:=qbG hap;exact JW he hd (qdt hn)
     cases he
    cases he
   cases he
  .split at he
   .exact JW he hd hn
   cases he
  .split at he
   .split at he
    .rw[D5]at he;obtain⟨e2,h1,rfl⟩:=he;exact ZR (ge _) (JW h1 hd hn)
    cases he
   cases he
  .split at he
   .split at he
    .rename_i hlk;split at he
     .split at he
      .cases he;exact ZR (fun e=>by rw[e]at hn;rw[hn]at hlk;cases hlk) hn
      cases he;exact ZR (fun e=>by rw[e]at hn;rw[hn]at hlk;cases hlk) hn
     cases he
    cases he
   cases he
  .split at he
   .split at he
    .rw[D5]at he;obtain⟨e2,h1,rfl⟩:=he;exact ZR (ge _) (JW h1 hd hn)
    cases he
   cases he
  split at he
  .exact JW he hd hn
  cases he
 
 refine⟨hm,?_⟩
 cases hop:o.op with
 | makeSlice t l c =>
  have he0:=he;unfold astep at he;rw[hop]at he;simp only at he;split at he
  case h_2=>cases he
  rename_i d k m k' m' el s hd hl1 hc1 hse;split at he
  case h_2=>cases he
  rename_i z hz hcl;split at he
  case h_2=>cases he
  rename_i hzz;split at he
  case isFalse=>cases he
  rename_i hb;rw[D5]at he;obtain⟨e2,h1,rfl⟩:=he;rw[hd]at h1;obtain⟨hdn,rfl,_⟩:=Um h1;simp only[A2]at hcl;obtain⟨c1,c2⟩:=JM hcl.1;refine⟨d,.sb (1000000+d) el s 0 m.toNat,.obj el s (List.replicate m.toNat (elemOf z s)),hd,rfl,⟨by cases hh:look e (1000000+d) with | none=>rfl | some y=>exact absurd hh (c1 y),c2⟩,LE.refl _,fun F hF hcF hFd=>?_⟩;have hlF:LE (ded F) F:=qam F
  have hN:NA all o e (ded F):=fun t ht y hy=>by
   have:=hF t ht y hy;unfold lookS at this ⊢;rw[qam];exact this
  have hk:=Xg hN
  have hst2:astep P n o (ded F)=some (ins (1000000+d) (.obj el s (List.replicate m.toNat (elemOf z s))) (ins d (.sb (1000000+d) el s 0 m.toNat) (ded F))):=by
   unfold astep;rw[hop];have k1:=hk l (by rw[hop];simp[Op.operands]) _ hl1;have k2:=hk c (by rw[hop];simp[Op.operands]) _ hc1;simp only[hd,k1,k2,hse,hz,qjC hcF,hcl.2,D9,hzz];rw[if_pos hb];unfold eput;simp only[qam,hFd];have:Nat.blt d n=true:=D1 hdn;simp only[this,D9,Option.map_some]
  exact qcc (DW (JE hN hw) hst2) hlF ((hlF.ins _ _).ins _ _)
 | _=>rw[hop]at hm;cases hm
 
 refine⟨ha,?_⟩;unfold isApp at ha;split at ha
 case h_2=>cases ha
 rename_i args ats hop;have he0:=he;unfold astep at he;rw[hop]at he;simp only at he;split at he
 case h_2=>cases he
 rename_i x y t t' d hax hat hd;unfold lfOk at hl;rw[hop]at hl;simp only[hax]at hl;rw[A5]at hl
 have hlf:∀ xo,Unord all o xo->isMv xo.op=true/\(match aop e x with | some (.sb ..)=>false | _=>true)=true/\∀ t,t∈namesOf all.toArray xo->plainV (look e t)=true:=by
  rintro xo ⟨k,i,hk,hi,hne,h1,h2⟩
  have hmem:∀ {k:Nat} {o:Oper},all[k]? = some o->(o,k)∈all.zipIdx:=fun {k o} h=>by
   rw[F8];exact⟨k,by simp[F9,h]⟩
  have q:=hl (o,k) (hmem hk);simp only[D2]at q
  rcases q with q | q
  .rw[hd]at q;simp at q
  rw[A5]at q;have q:=q (xo,i) (hmem hi);simp only[h1,h2,Bool.false_or,D2,A2,A5]at q
  rcases q with q | q
  .exact absurd (A1 q) hne
  exact q
 split at he
 .
  rename_i id ex kx off m q hpx hqx
  refine .inl fun xo hxo=>?_
  have:=(hlf xo hxo).2.1;rw[hpx]at this;cases this
 .rename_i p q hns hpx hqx;split at he
  case h_2=>cases he
  rename_i v env1 hap;obtain⟨g,g1,rfl,g2⟩:=qbG hap;rw[hd]at he;obtain⟨hdn,rfl,_⟩:=Um he;refine .inr ⟨d,v,g,hd,LE.refl _,g1,fun xo hxo=>(hlf xo hxo).2.2,fun F hF hFd=>?_⟩;have hk:=Xg hF
  have hst2:astep P n o F=some (ins d v (F.map fun p=>(p.1,g p.2))):=by
   unfold astep;rw[hop]
   have ea:args=#[x,y]:=by apply Array.ext';simpa using hax
   have k1:=hk x (by rw[hop,ea];simp[Op.operands,Call.operands]) _ hpx;have k2:=hk y (by rw[hop,ea];simp[Op.operands,Call.operands]) _ hqx;simp only[hax,hat,hd,k1,k2]
   have hgo:(match aappend P t t' d p q F with | some (v,env1)=>eput n (some d) v env1 | none=>none)=some (ins d v (F.map fun p=>(p.1,g p.2))):=by
    rw[g2 F];simp only;unfold eput;simp only[ZC g,hFd,Option.map_none];have:Nat.blt d n=true:=D1 hdn;simp only[this,D9]
   cases p with
   | sb id ex kx off m=>exact absurd rfl (hns id ex kx off m)
   | _=>exact hgo
  exact DW (JE hF hw) hst2
 cases he
theorem qel {o:Oper} (hx:∃ f args ats,o.op=.call { callee:=.value f,args:=args,argTypes:=ats }) (heff:isEff o.op=true) (hst:isStore o.op=false) (hf:∀ t,t<1000000->o.dst≠some t->look e t=none->look e1 t=none):Hard P n all o e e1:=by
 obtain⟨f,args,ats,ho⟩:=hx;refine⟨⟨heff,hst⟩,hf,?_,?_⟩
 .intro _ hm;rw[ho]at hm;cases hm
 intro _ hm;rw[ho]at hm;cases hm
theorem qkF {o:Oper} (hw:awanted all o e=some false) (he:eput n o.dst .und e=some e1) (heff:isEff o.op=true) (hst:isStore o.op=false):Hard P n all o e e1:=by
 have hg:o.guard≠none:=fun hg=>by
  unfold awanted at hw;rw[hg]at hw;cases hw
 exact⟨⟨heff,hst⟩,fun t _ hd hn=>JW he hd hn,fun h=>absurd h hg,fun h=>absurd h hg⟩
end
end Go.AM
namespace Go.AM
open Go.RowKit
variable {P:Program} {n:Nat} {all:LF}
variable {draw:Bool} {e e' e1:Env}
theorem qcX (hc:Chain P n draw all [] e e1):∀ (bs:Base) (M:Mem) (O:Gh) (a:Act) (w:World),Inv bs n M O e a w->∃ M' O',Inv bs n M' O' e1 a w:=by
 generalize hl:([]:LF)=l at hc
 induction hc with
 | nil=>intro bs M O a w h;exact⟨M,O,h⟩
 | drop e0 _ hw _ ih =>
  intro bs M O a w h;obtain⟨M',O',h'⟩:=hw bs M O a w h;exact ih hl bs M' O' a w h'
 | step=>cases hl
theorem qeC {o:Oper} (hc:Chain P n draw all [o] e e1):StepSem P n all o e e1:=by
 generalize hl:[o]=l at hc
 induction hc with
 | nil=>cases hl
 | drop e0 _ hw _ ih =>
  intro bs M O a w h K Q hK;obtain⟨M',O',h'⟩:=hw bs M O a w h;exact ih hl bs M' O' a w h' K Q hK
 | step h hr _ =>
  cases hl;intro bs M O a w hi K Q hK
  refine h.1 bs M O a w hi K Q fun a' w' M' O' h'=>?_
  obtain⟨M2,O2,h2⟩:=qcX hr bs M' O' a' w' h';exact hK a' w' M2 O2 h2
def AnyOk (P:Program) (n:Nat) (all:LF) (R:LQ) (e e':Env):Prop :=
 ∀ (bs:Base) (Q:Exit->Act->World->Prop),jO all.toArray=true->(∀ a' w' M' O',Inv bs n M' O' e' a' w'->Q .normal a' w') ->
  ∀ (fuel:Nat) (listed:Array Bool) (a:Act) (w:World) (M:Mem) (O:Gh),listed.size=all.length->Closed all (fun i=>listed.getD i false=true)->R.Nodup->(∀ i,i∈R->i<all.length)->(∀ i,i<all.length->(i∈R↔listed.getD i false=false)) ->
   jU all.length listed<=fuel->Inv bs n M O e a w->wpAny P .any all.toArray Q fuel listed a w
theorem qec {listed:Array Bool} {R:LQ} (hback:jO all.toArray=true) (hsz:listed.size=all.length) (hlt:∀ i,i∈R->i<all.length) (hR:∀ i,i<all.length->(i∈R↔listed.getD i false=false)) (hr:A7 .any all.toArray listed=[]):R=[]:=by
 have hall:∀ i,i<all.length->listed.getD i false=true:=by
  intro i
  induction i using Nat.strongRecOn with
  | _ i ih =>
   intro hi
   cases hv:listed.getD i false with
   | true=>rfl
   | false =>
    exfalso;have ho:all[i]? = some all[i]:=E0 hi
    have:i∈A7 .any all.toArray listed:=by
     rw[mem_ready];refine⟨by rw[Yz (by omega)];exact hv,all[i],by simp,fun e he hb=>?_⟩
     have hlt:e.on<i:=by
      unfold jO at hback;rw[A5]at hback
      have hmem:(all[i],i)∈all.toArray.toList.zipIdx:=by
       rw[F8];exact⟨i,by simp[F9,ho]⟩
      have:=hback _ hmem;rw[Array.all_eq_true_iff_forall_mem]at this;have:=this e he;simp only[D2,A6]at this
      rcases this with h1 | h1
      .rw[hb]at h1;cases h1
      exact A3 h1
     exact ih e.on hlt oM
    rw[hr]at this;cases this
 cases R with
 | nil=>rfl
 | cons i R =>
  have hi:=hlt i (C7 ..);have:=(hR i hi).1 (C7 ..);rw[hall i hi]at this;cases this
theorem qjL:AnyOk P n all [] e e:=by
 intro bs Q hback hQ fuel listed a w M O hsz hc hnd hlt hR hu h
 have hr:A7 .any all.toArray listed=[]:=by
  cases hr:A7 .any all.toArray listed with
  | nil=>rfl
  | cons i rs =>
   exfalso
   have hi:i∈A7 .any all.toArray listed:=by rw[hr];exact C7 ..
   rw[mem_ready]at hi;obtain⟨h0,o,ho,_⟩:=hi
   have hil:i<all.length:=by
    have:=(Array.getElem?_eq_some_iff.1 ho).1
    simpa using this
   have:=(hR i hil).2 (by rw[<- Yz (by omega)];exact h0);cases this
 cases fuel with
 | zero=>exact⟨hr,hQ a w M O h⟩
 | succ fuel=>exact⟨fun _=>hQ a w M O h,fun k hk=>by rw[hr]at hk;cases hk⟩
theorem qhX {R:LQ} (F:Nat->Env) (hne:R≠[]) (hF:∀ k o,k∈R->all[k]? = some o->readyR all R k=true->StepSem P n all o e (F k)) (hrec:∀ k,k∈R->readyR all R k=true->AnyOk P n all (R.erase k) (F k) e'):AnyOk P n all R e e':=by
 intro bs Q hback hQ fuel listed a w M O hsz hc hnd hlt hR hu h
 have hno:A7 .any all.toArray listed≠[]:=fun hr=>hne (qec hback hsz hlt hR hr)
 cases fuel with
 | zero =>
  exfalso
  cases hr:A7 .any all.toArray listed with
  | nil=>exact hno hr
  | cons i rs =>
   have hi:i∈A7 .any all.toArray listed:=by rw[hr];exact C7 ..
   rw[mem_ready]at hi;obtain⟨h0,o,ho,_⟩:=hi
   have hil:i<all.length:=by
    have:=(Array.getElem?_eq_some_iff.1 ho).1
    simpa using this
   have:0<jU all.length listed:=by
    unfold jU;rw[List.countP_pos_iff];exact⟨i,List.mem_range.2 hil,by rw[h0];rfl⟩
   omega
 | succ fuel =>
  refine⟨fun hr=>absurd hr hno,fun k hk=>?_⟩;rw[mem_ready]at hk;obtain⟨hk0,ok,hok,hkall⟩:=hk
  have hok':all[k]? = some ok:=by simpa using hok
  have hkl:k<all.length:=(List.getElem?_eq_some_iff.1 hok').1
  have hkf:listed.getD k false=false:=by rw[<- Yz (by omega)];exact hk0
  have hdeps:∀ i,((Region.before all.toArray).getD k 0).testBit i=true->listed.getD i false=true :=
   Ve hc k ok hok' (fun e he hb=>hkall e (by simpa using he) hb)
  have hsz':(listed.setIfInBounds k true).size=all.length:=by simp[hsz]
  have hset:∀ i,(listed.setIfInBounds k true).getD i false=true↔(i=k\/listed.getD i false=true):=by
   intro i;by_cases hik:i=k
   .subst hik
    have hkk:i<listed.size:=by omega
    simp[hkk]
   rw[getD_set_ne false (fun e=>hik e.symm)];simp[hik]
  have hc':Closed all (fun i=>(listed.setIfInBounds k true).getD i false=true):=by
   intro j o ho hj e he hb;rw[hset]at hj ⊢
   rcases hj with rfl | hj
   .rw[hok']at ho;cases ho;exact .inr (hkall e (by simpa using he) hb)
   exact .inr (hc j o ho hj e he hb)
  have hu':jU all.length (listed.setIfInBounds k true)<=fuel:=by
   have:jU all.length (listed.setIfInBounds k true)<jU all.length listed:=by
    unfold jU;refine Dc (x:=k) (fun i hi hq=>?_) (List.mem_range.2 hkl) (by rw[hk0];rfl) ?_
    .have hil:=List.mem_range.1 hi;simp only[A6]at hq ⊢;rw[Yz (by omega)]at hq ⊢
     cases hv:listed.getD i false with
     | false=>rfl
     | true =>
      have:=(hset i).2 (.inr hv);rw[this]at hq;cases hq
    have hkk:k<listed.size:=by omega
    simp[hkk]
   omega
  have hwp:∀ (K:Act->World->Prop),(if Region.wanted ok (yielded all.toArray a.tmps) then ok.wp P a w K Q else K (a.put ok.dst undef) w)->wpOp P all.toArray Q k K a w:=by
   intro K hK;unfold wpOp;rw[hok];simp only;split
   .rename_i hw;rw[if_pos hw]at hK;exact .inl hK
   rename_i hw;rw[if_neg hw]at hK;exact hK
  refine hwp _ ?_;have hkR:k∈R:=(hR k hkl).2 hkf
  have hrd:readyR all R k=true:=by
   unfold readyR;rw[A5];intro i hi
   cases hb:((Region.before all.toArray).getD k 0).testBit i with
   | false=>rfl
   | true =>
    have:=(hR i (hlt i hi)).1 hi;rw[hdeps i hb]at this;cases this
  refine hF k ok hkR hok' hrd bs M O a w h _ Q fun a' w' M' O' h'=>hrec k hkR hrd bs Q hback hQ fuel _ a' w' M' O' hsz' hc' (hnd.erase k) (fun i hi=>hlt i (List.mem_of_mem_erase hi)) (fun i hi=>?_) hu' h'
  have h1:=hR i hi;rw[hnd.mem_erase_iff];constructor
  .rintro⟨hik,hm⟩
   cases hv:(listed.setIfInBounds k true).getD i false with
   | false=>rfl
   | true =>
    rcases (hset i).1 hv with e | e
    .exact absurd e hik
    rw[h1.1 hm]at e;cases e
  intro hv
  have hik:i≠k:=fun e=>by rw[(hset i).2 (.inl e)]at hv;cases hv
  refine⟨hik,h1.2 ?_⟩
  cases hw:listed.getD i false with
  | false=>rfl
  | true=>rw[(hset i).2 (.inr hw)]at hv;cases hv
theorem qeY {bs:Base} {M:Mem} {O:Gh} {a:Act} {w:World} {id:Nat} {ops:Lj} (hmix:P.follows .mixedOrders=true) (hback:jO ops=true)
  (hc:AnyOk P n ops.toList (List.range ops.size) e e') (h:Inv bs n M O e a w) {Q:Exit->Act->World->Prop} (hQ:∀ a' w' M' O',Inv bs n M' O' e' a' w'->Q .normal a' w'):(Code.region id ops true).wp P Q a w:=by
 have ea:ops.toList.toArray=ops:=Array.toArray_toList;refine wp_region_any hmix ?_;have hdr:Inv bs n M O e a { w with drawn:=w.drawn+1 }:=h.grown (row:=none) (fun g e=>by cases e) ⟨rfl,rfl,rfl,D4 _,fun _ _ _=>rfl⟩ (Sub.refl M) (fun b o u hu=>h.cons b o u hu) (fun _ _ _ _=>rfl);have:=hc bs Q (by rw[ea];exact hback) hQ ops.size (A8 ops.size false) a { w with drawn:=w.drawn+1 } M O (by simp)
  (fun j o ho hj=>by simp[G0]at hj;split at hj <;> simp at hj) List.nodup_range (fun i hi=>by simpa using List.mem_range.1 hi)
  (fun i hi=>⟨fun _=>by simp[G0];split <;> simp,fun _=>List.mem_range.2 (by simpa using hi)⟩)
  (by
   unfold jU;have:=List.countP_le_length (p:=fun i=>!(A8 ops.size false).getD i true) (l:=List.range ops.toList.length)
   simpa using this) hdr
 rw[ea]at this;exact this
end Go.AM
namespace Go.AM
open Go.RowKit
variable {off s:Nat} {t:TypeId} {x z:AV} {cs:LM} {v:Value} {c:Code} {e e':Env} {ex:Ex}
section
variable {bs:Base} {n:Nat} {M:Mem} {O:Gh} {env:Env} {a:Act} {w:World} {P:Program}
theorem qju (s:Nat) (y z:AV):(z=.pb s 0/\frzRef s y z=.ptr y)\/frzRef s y z=killRef s z:=by
 unfold frzRef;split
 .rename_i t o;split
  .rename_i ht;have ht:t=s:=A1 ht;subst ht;split
   .exact .inl ⟨rfl,rfl⟩
   right;unfold killRef;simp[AV.refs]
  rename_i ht;right;unfold killRef;simp only[AV.refs,ht]
 exact .inr rfl
theorem qky {t:Nat} {y0:AV} (h:look (env.map fun p=>(p.1,frzRef s y0 p.2)) t=some x):∃ y,look env t=some y/\x=frzRef s y0 y:=by
 rw[ZC (frzRef s y0)]at h
 cases hy:look env t with
 | none=>rw[hy]at h;cases h
 | some y =>
  rw[hy]at h;exact⟨y,rfl,(Option.some.inj h).symm⟩
theorem Inv.freezeTo (h:Inv bs n M O env a w) (hl:look env s=some (.box cs)) (hslt:s<1000000) {y:AV} (hy:y.cells=cs.map AV.strip) :
  ∃ M' O',Inv bs n M' O' (ins s (.ptr y) (env.map fun p=>(p.1,frzRef s y p.2))) a w:=by
 obtain⟨g,cur,el,h1,h2,h3,h4,h5,h6⟩:=h.slots s _ hl;have h1:a.tmps.getD s undef=.pointer (some ⟨g,0,none⟩):=h1.resolve_right oM;obtain⟨hgB,hgs⟩:=h.own true s g h2
 have hsub:Sub M (addRow M g cur):=by
  intro b o u hu;unfold addRow;split
  .rename_i e;subst e;rw[h5]at hu;cases hu
  exact hu
 have hO:∀ i c g',(setO O true s none) i c=some g'->O i c=some g'/\¬ (i=true/\c=s):=by
  intro i c g' hg;rw[Jn]at hg;split at hg
  .cases hg
  rename_i hne;exact⟨hg,hne⟩
 refine⟨addRow M g cur,setO O true s none,h.size,h.defers,h.below,h.hB,?_,h.ext.trans hsub,?_,fun i c g' hg=>h.own i c g' (hO i c g' hg).1,fun i i' c c' g' k1 k2=>h.inj i i' c c' g' (hO _ _ _ k1).1 (hO _ _ _ k2).1,⟨h.fix.1,fun c g1 g2=>?_⟩,?_⟩
 .intro b o u hu;unfold addRow at hu;split at hu
  .rename_i e;subst e;rw[mcRow h3];exact hu
  exact h.cons b o u hu
 .intro b o hb;unfold addRow;rw[if_neg (fun e=>hgB (by rw[<- e];exact hb))];exact h.old b o hb
 .obtain⟨e1,e2,e3⟩:=h.fix.2 c g1 g2;exact⟨(jF (O:=O) (v:=none) (by omega:c≠s)).1.trans e1,e2,e3⟩
 have hptr:R (addRow M g cur) (.ptr y) (.pointer (some ⟨g,0,none⟩)):=by
  refine R.ptr (fun j=>cur.getD j undef) (fun j c hc=>?_) (fun j c hc=>?_) (fun j c hc=>?_)
  all_goals
   rw[hy,A4]at hc
   cases hz:cs[j]? with
   | none=>rw[hz]at hc;cases hc
   | some z =>
    rw[hz]at hc;cases hc
    have hj:j<cur.size:=by rw[h4];exact (List.getElem?_eq_some_iff.1 hz).1
    have e:cur[j]? = some (cur.getD j undef):=by simp[hj]
    first
    | (rw[D3];unfold addRow;rw[if_pos rfl];exact JN e (Yx ((h6 j z _ hz e).2.1.one (h6 j z _ hz e).1)))
    | exact ((h6 j z _ hz e).2.1.mono hsub).strip
    | exact Yx ((h6 j z _ hz e).2.1.one (h6 j z _ hz e).1)
 intro t x hx;rw[jy]at hx;split at hx
 .rename_i e;subst e;cases hx;rw[h1];exact⟨hptr,trivial⟩
 rename_i hts;obtain⟨y',hy',rfl⟩:=qky hx
 rcases qju s y y' with ⟨rfl,he⟩ | he
 .rw[he];obtain⟨g',e1,e2⟩:=h.slots t _ hy';rw[h2]at e2;cases e2;rw[e1];exact⟨hptr,trivial⟩
 rw[he];have hnr:=Nm s y'
 .have hkeep:∀ i c g',O i c=some g'->¬ (i=true/\c=s)->∀ o,M g' o=none->addRow M g cur g' o=none:=by
   intro i c g' hg hne o hm;unfold addRow;rw[if_neg (fun e=>by subst e;exact hne (h.inj _ _ _ _ g' hg h2))];exact hm
  refine ((h.slots t _ hy').kill s).change2 hsub (fun _=>jF hts) (fun c hcc=>jF fun e=>?_) (fun g' _ hg=>⟨rfl,hkeep true t g' hg fun e=>hts e.2⟩) fun c g' hg=>⟨by simp[Jn,hg],rfl,hkeep false c g' hg fun e=>by cases e.1⟩
  rw[e,hnr]at hcc;cases hcc
theorem Inv.freeze1 (h:Inv bs n M O env a w) (s:Nat):∃ M' O',Inv bs n M' O' (freeze1 env s) a w:=by
 unfold AM.freeze1;split
 .rename_i cs hl;split
  .exact⟨M,O,h⟩
  rename_i hlt;have hlt:s<1000000:=A3 hlt;split
  .rename_i x;refine h.freezeTo hl hlt ?_;obtain⟨g,cur,el,h1,h2,h3,h4,h5,h6⟩:=h.slots s _ hl
   have hj:0<cur.size:=by rw[h4];exact Nat.zero_lt_one
   have:=(h6 0 x cur[0] rfl (by simp[hj])).1;rw[ZZ (Xm this)];rfl
  exact h.freezeTo hl hlt rfl
 .rename_i e k xs hl;split
  .rename_i hus;exact h.freezeObj hl hus
  exact⟨M,O,h⟩
 .rename_i ks vs hl;split
  .rename_i hus;exact h.freezeMap hl hus
  exact⟨M,O,h⟩
 exact⟨M,O,h⟩
theorem Inv.nilTo (h:Inv bs n M O env a w) (q:Nat×Nat×Nat×Nat×Nat):Inv bs n M O (nilTo env q) a w:=by
 obtain⟨s,off,e,k,c⟩:=q;unfold AM.nilTo;simp only;split
 .rename_i hl;refine⟨h.size,h.defers,h.below,h.hB,h.cons,h.ext,h.old,h.own,h.inj,h.fix,fun t x hx=>?_⟩;rw[jy]at hx;split at hx
  .rename_i e1;subst e1;cases hx;have hs:=(h.slots t _ hl).1;generalize a.tmps.getD t undef=y at hs;cases hs;exact⟨R.lstn e k (some c),.inl ⟨none,rfl⟩⟩
  exact h.slots t x hx
 .rename_i cs hl;split
  .rename_i hc;refine⟨h.size,h.defers,h.below,h.hB,h.cons,h.ext,h.old,h.own,h.inj,h.fix,fun t x hx=>?_⟩;rw[jy]at hx;split at hx
   .rename_i e1;subst e1;cases hx;obtain⟨g,cur,el,h1,h2,h3,h4,h5,h6⟩:=h.slots t _ hl;refine⟨g,cur,el,h1,h2,h3,by simpa using h4,h5,fun j x u hx hu=>?_⟩;rw[List.getElem?_set]at hx;split at hx
    .rename_i hj;subst hj;split at hx
     .cases hx;have:=(h6 off .nils u hc hu).2.1;cases this;exact⟨rfl,R.lstn e k (some c),.inl ⟨none,rfl⟩⟩
     cases hx
    exact h6 j x u hx hu
   exact h.slots t x hx
  exact h
 exact h
theorem Inv.mvObj (h:Inv bs n M O env a w) (q:Mv):∃ M' O',Inv bs n M' O' (mvObj env q) a w:=by
 cases q with
 | nil t e k id=>obtain⟨O',h'⟩:=h.nilObj (t,e,k,id);exact⟨M,O',h'⟩
 | ren id id'=>obtain⟨O',h'⟩:=h.renObj (id,id');exact⟨M,O',h'⟩
 | frz id=>exact h.freeze1 id
 | slf s off=>exact⟨M,O,h.slfCell s off⟩
 | arr s=>obtain⟨O',h'⟩:=h.arrBox s;exact⟨M,O',h'⟩
theorem Inv.mvAll:∀ (l:List Mv) {M:Mem} {O:Gh} {env:Env},Inv bs n M O env a w->∃ M' O',Inv bs n M' O' (mvAll env l) a w
 | [],M,O,_,h=>⟨M,O,h⟩
 | q::l,_,_,_,h=>by
  obtain⟨M1,O1,h1⟩:=h.mvObj q;exact Inv.mvAll l h1
theorem Inv.freezeAll (h:Inv bs n M O env a w):∀ (l:LQ),∃ M' O',Inv bs n M' O' (ZQ env l) a w:=by
 intro l
 induction l generalizing M O env with
 | nil=>exact⟨M,O,h⟩
 | cons s l ih =>
  obtain⟨M1,O1,h1⟩:=h.freeze1 s;exact ih h1
theorem Inv.nilAll:∀ (l:LV) {env:Env},Inv bs n M O env a w->Inv bs n M O (nilAll env l) a w
 | [],_,h=>h
 | q::l,_,h=>Inv.nilAll l (h.nilTo q)
theorem Inv.relab1 (h:Inv bs n M O env a w) (q:Nat×LP):∃ O',Inv bs n M O' (relab1 env q) a w:=by
 obtain⟨l,m⟩:=q;unfold AM.relab1
 cases m with
 | none=>exact⟨_,h.relab l none fun c e=>by cases e⟩
 | some c =>
  simp only;split
  .exact⟨O,h⟩
  rename_i hb;simp only[E9]at hb;refine⟨_,h.relab l (some c) fun c' e=>?_⟩;cases e;exact⟨fun e=>by subst e;simp[Nat.beq_refl]at hb,hb.2⟩
theorem Inv.relabAll:∀ (l:Lk) {O:Gh} {env:Env},Inv bs n M O env a w->∃ O',Inv bs n M O' (Vl env l) a w
 | [],O,_,h=>⟨O,h⟩
 | q::l,_,_,h=>by
  obtain⟨O1,h1⟩:=h.relab1 q;exact Inv.relabAll l h1
def toExit:Ex->Exit
 | .normal=>.normal
 | .exit id=>.exit id
 | .ret=>.ret
def CodeOk (P:Program) (n:Nat) (c:Code) (e:Env) (ex:Ex) (e':Env):Prop :=
 ∀ (bs:Base) (M:Mem) (O:Gh) (a:Act) (w:World),Inv bs n M O e a w->∀ (Q:Exit->Act->World->Prop),(∀ a' w' M' O',Inv bs n M' O' e' a' w'->Q (toExit ex) a' w')->c.wp P Q a w
def LoopOk (P:Program) (n:Nat) (c:Code) (e:Env) (ex:Ex) (e':Env):Prop :=
 ∃ N,∀ (bs:Base) (M:Mem) (O:Gh) (a:Act) (w:World),Inv bs n M O e a w->∀ (Q:Exit->Act->World->Prop),(∀ a' w' M' O',Inv bs n M' O' e' a' w'->Q (toExit ex) a' w')->Code.rounds P c Q N a w
def JOk (P:Program):J->Prop
 | .code n c e ex e'=>CodeOk P n c e ex e'/\∀ c',c=.loop c'->LoopOk P n c' e ex e'
 | .ops n draw all rest e e'=>Chain P n draw all rest e e'
 | .call f args r=>CallOk P f args r
 | .callM f args hp r hp'=>CallMOk P f args hp r hp'/\∀ id x,look hp' id=some x->x.ent=true
 | .opsB n all rest e e'=>ChainB P n all rest e e'
 | .any n all R e e'=>AnyOk P n all R e e'
theorem qll {M:Mem} {u:Value} (h:x.val=some v) (hR:R M x u):u=v:=by
 unfold AV.val at h;split at h <;> cases h <;> cases hR <;> rfl
theorem qlS {M:Mem} (h:x.val=some v):R M x v:=by
 unfold AV.val at h;split at h <;> cases h
 .exact .int _ _
 .exact .bool _
 exact .str _
theorem qlk {M:Mem} {B:Nat} {w:World} (h:x.val=some v):OwnR M B w x v:=by
 unfold AV.val at h;split at h <;> cases h <;> trivial
theorem qfy {M:Mem}:∀ {args:LM} {vs:LT},optAll (args.map AV.val)=some vs->∀ us:LT,args.length=us.length->(∀ (j:Nat) c v,args[j]? = some c->us[j]? = some v->R M c v)->us=vs
 | [],vs,h,us,hl,_=>by
  cases h;exact List.eq_nil_of_length_eq_zero hl.symm
 | x::xs,vs,h,us,hl,hR=>by
  cases us with
  | nil=>cases hl
  | cons u us =>
   have hs:=Jb h
   cases vs with
   | nil=>cases hs
   | cons v vs =>
    simp only[D0,List.cons.injEq]at hs;have h1:=qll hs.1 (hR 0 x u rfl rfl)
    have h2:optAll (xs.map AV.val)=some vs:=by
     rw[hs.2];clear h hs hl hR
     induction vs with
     | nil=>rfl
     | cons y ys ih=>simp only[D0,optAll,ih]
    rw[h1,qfy h2 us (by simpa using hl) fun j c w hc hw=>hR (j+1) c w (by simpa using hc) (by simpa using hw)]
theorem DO {M:Mem} {w w':World} (h:Cons M w) (hB:Below w.heap.size w w'):Cons M w':=by
 intro b o u hu;have h1:=h b o u hu;rw[Qr (hB.block _ (Ny h1))];exact h1
theorem LoopOk.code (h:LoopOk P n c e ex e'):CodeOk P n (.loop c) e ex e':=by
 obtain⟨N,hN⟩:=h;intro bs M O a w hi Q hQ;exact wp_loop_rounds N (hN bs M O a w hi Q hQ)
theorem noloop {P:Program} {n:Nat} (h:∀ c',c≠.loop c'):∀ c',c=.loop c'->LoopOk P n c' e ex e':=fun c' hc=>absurd hc (h c')
def resRun (tmps:LO) (r:ResultVar):Sem Value :=
 match r with
 | .tmp t=>pure (tmps.getD t undef)
 | .cell ad t=>do loadVar t (<- asAddr (tmps.getD ad undef))
theorem qbx (hc:cut P t cs off=some z):∀ s,z.refs s=false:=by
 intro s;unfold cut at hc;split at hc
 .cases hc
 split at hc
 .cases hc
 split at hc
 .cases hc;rfl
 split at hc
 .have:=(qax hc).2
  cases z <;> first | rfl | cases this
 cases hc
theorem qby (hc:cut P t cs off=some z) (f:Nat) (caps:LM):z≠.clb f caps:=by
 rintro rfl
 unfold cut at hc;split at hc
 .cases hc
 split at hc
 .cases hc
 split at hc
 .cases hc
 split at hc
 .have:=(qax hc).2;cases this
 cases hc
theorem qbz (hc:cut P t cs off=some z) (l:LM):z≠.agr l:=by
 rintro rfl
 unfold cut at hc;split at hc
 .cases hc
 split at hc
 .cases hc
 split at hc
 .cases hc
 split at hc
 .have:=(qax hc).2;cases this
 cases hc
theorem qdA (h:Inv bs n M O env a w) {r:ResultVar} (hx:aresult P env r=some x):∃ v,(resRun a.tmps r).run P w=.ok v w/\R M x v/\OwnV O M w x v:=by
 cases r with
 | tmp t =>
  simp only[aresult]at hx
  split at hx <;> try (cases hx;done)
  rename_i v hnb hnp hns hne hno hnt hho hmb hbx hsl har hcl hl;cases hx;have hs:=h.slots t _ hl;refine⟨_,rfl,?_⟩
  cases x with
  | tpr s e k off m rest=>exact absurd rfl (hnt s e k off m rest)
  | box cs=>exact absurd rfl (hnb cs)
  | pb s o=>exact absurd rfl (hnp s o)
  | sb s e k off m=>exact absurd rfl (hns s e k off m)
  | pe s k j o=>exact absurd rfl (hne s k j o)
  | obj e k xs=>exact absurd rfl (hno e k xs)
  | hob kd ks vs=>exact absurd rfl (hho kd ks vs)
  | mb kd s=>exact absurd rfl (hmb kd s)
  | bxg cs=>exact absurd rfl (hbx cs)
  | slf=>exact absurd rfl hsl
  | agr cs=>exact absurd rfl (har cs)
  | clb f caps=>exact absurd rfl (hcl f caps)
  | _=>exact hs
 | cell ad t =>
  simp only[aresult]at hx;split at hx
  .rename_i cs hl hlt;have hlt:ad<1000000:=A3 hlt;obtain⟨g,cur,el,h1,h2,_⟩:=h.slots ad _ hl;have h1:a.tmps.getD ad undef=.pointer (some ⟨g,0,none⟩):=h1.resolve_right (fun hge=>absurd hlt (Nat.not_lt_of_le hge));obtain⟨cur',el',h3,h4,h5,h6⟩:=UZ h hl h2
   cases hc:cut P t cs 0 with
   | none=>rw[hc]at hx;cases hx
   | some z =>
    rw[hc]at hx;cases hx;obtain⟨v,hv1,hv2⟩:=Ql (O:=O) (b:=g) (base:=0) hc (fun j=>cur'.getD j undef) (fun j c hc=>by rw[D3];exact (h6 j c hc).1) (fun j c hc=>(h6 j c hc).2.2);refine⟨v,?_,(hv2.r (qbx hc) (fun f caps e=>by subst e;exact (qby hc f caps rfl).elim) fun cs e=>by subst e;exact (qbz hc cs rfl).elim).strip,YY z v⟩;unfold resRun;simp only[h1,asAddr,A9,B1,C0];exact hv1
  .
   rename_i s hl hlt;split at hx
   case h_2=>cases hx
   rename_i ks cs hl2;obtain⟨g,h1,h2⟩:=h.slots ad _ hl;obtain⟨cur',el',h3,h4,h5,h6⟩:=qek h hl2 h2
   cases hc:cut P t cs 0 with
   | none=>rw[hc]at hx;cases hx
   | some z =>
    rw[hc]at hx;cases hx;obtain⟨v,hv1,hv2⟩:=Ql (O:=O) (b:=g) (base:=0) hc (fun j=>cur'.getD j undef) (fun j c hc=>by rw[D3];exact (h6 j c hc).1) (fun j c hc=>(h6 j c hc).2.2);refine⟨v,?_,(hv2.r (qbx hc) (fun f caps e=>by subst e;exact (qby hc f caps rfl).elim) fun cs e=>by subst e;exact (qbz hc cs rfl).elim).strip,YY z v⟩;unfold resRun;simp only[h1,asAddr,A9,B1,C0];exact hv1
  cases hx
theorem ZI (h:Inv bs n M O env a w):∀ {rs:List ResultVar} {l:LM},optAll (rs.map (aresult P env))=some l ->
  ∃ vs:LT,(rs.mapM (resRun a.tmps)).run P w=.ok vs w/\l.length=vs.length/\∀ (j:Nat) c v,l[j]? = some c->vs[j]? = some v->R M c v/\OwnV O M w c v
 | [],l,hl=>by
  cases hl;exact⟨[],rfl,rfl,by simp⟩
 | r::rs,l,hl=>by
  simp only[D0]at hl
  cases hr:aresult P env r with
  | none=>rw[hr]at hl;cases hl
  | some x =>
   rw[hr]at hl;simp only[optAll]at hl;split at hl
   .rename_i l' hl';cases hl;obtain⟨v,h1,h2⟩:=qdA h hr;obtain⟨vs,h3,h4,h5⟩:=ZI h hl';refine⟨v::vs,?_,by simp[h4],fun j c u hc hu=>?_⟩
    .simp only[List.mapM_cons,A9,h1,h3,C0,B1]
    cases j with
    | zero=>simp at hc hu;subst hc;subst hu;exact h2
    | succ j=>exact h5 j c u (by simpa using hc) (by simpa using hu)
   cases hl
theorem Dz (fn:Func) (tmps:LO):results fn tmps=(do let vs <- fn.results.mapM (resRun tmps);pure (if h:vs.size=1 then vs[0] else .tuple vs)):=by
 unfold results
 have:resRun tmps=(fun x=>match x with | ResultVar.tmp t=>(pure (tmps.getD t undef):Sem Value) | .cell ad t=>do loadVar t (<- asAddr (tmps.getD ad undef))):=by
  funext r
  cases r <;> rfl
 rw[this];rfl
theorem UI (h:Inv bs n M O env a w) {fn:Func} {r:AV} (hr:jK P fn env=some r):∃ v,(results fn a.tmps).run P w=.ok v w/\R M r v/\OwnV O M w r v:=by
 unfold jK at hr
 have hmap:∀ (l:LM),optAll (fn.results.toList.map (aresult P env))=some l->∃ vs:LT,(results fn a.tmps).run P w=.ok (if h:vs.toArray.size=1 then vs.toArray[0] else .tuple vs.toArray) w/\l.length=vs.length/\∀ (j:Nat) c v,l[j]? = some c->vs[j]? = some v->R M c v/\OwnV O M w c v:=by
  intro l hl;obtain⟨vs,h1,h2,h3⟩:=ZI h hl;refine⟨vs,?_,h2,h3⟩;rw[Dz,E7];simp only[A9,Sem.run_map,h1,C0,B1]
 split at hr
 .rename_i rv hrs;obtain⟨vs,h1,h2,h3⟩:=hmap [r] (by rw[hrs];simp only[D0,List.map_nil,hr,optAll])
  cases vs with
  | nil=>simp at h2
  | cons v vs =>
   cases vs with
   | cons _ _=>simp at h2
   | nil=>exact⟨v,by simpa using h1,h3 0 r v rfl rfl⟩
 rename_i rs hne;split at hr
 .rename_i l hl;cases hr;obtain⟨vs,h1,h2,h3⟩:=hmap l hl
  have hlen:vs.length=fn.results.toList.length:=by
   have:=Jb hl;have:=congrArg D8 this;simp at this;simp;omega
  have hn1:¬ vs.toArray.size=1:=by
   intro e
   have e':fn.results.toList.length=1:=by rw[<- hlen];simpa using e
   match hrs:fn.results.toList,e' with
   | [rv],_=>exact hne rv hrs
  rw[dif_neg hn1]at h1;refine⟨_,h1,R.tup (by simpa using h2) fun j c v hc hv=>?_,trivial⟩;rw[A4]at hc
  cases hz:l[j]? with
  | none=>rw[hz]at hc;cases hc
  | some z =>
   rw[hz]at hc;cases hc;exact (h3 j z v hz hv).1.strip
 cases hr
theorem HA:∀ (l:LM) (i t:Nat) (x:AV),look (argsEnv i l) t=some x->i<=t/\l[t - i]? = some x
 | [],i,t,x,h=>by simp[argsEnv,look]at h
 | y::l,i,t,x,h=>by
  simp only[argsEnv,look]at h;split at h
  .rename_i hb;have:=A1 hb;subst this;cases h;exact⟨D4 _,by simp⟩
  rename_i hb;obtain⟨h1,h2⟩:=HA l (i+1) t x h;refine⟨by omega,?_⟩;rw[show t - i=(t - (i+1))+1 by omega]
  simpa using h2
theorem qbr {t:Nat} {x:AV}:∀ {l1 l2:Env},look (l1++l2) t=some x->look l1 t=some x\/look l2 t=some x
 | [],l2,h=>.inr h
 | (s,y)::r,l2,h=>by
  simp only[List.cons_append,look]at h ⊢;split at h
  .exact .inl h
  exact qbr h
theorem Hz {t:Nat} {x:AV}:∀ {env:Env},look (ents env) t=some x->look env t=some x/\x.ent=true/\1000000<=t
 | [],h=>by simp[ents,look]at h
 | (s,y)::r,h=>by
  simp only[ents]at h;split at h
  .rename_i hc;simp only[A2]at hc;simp only[look]at h ⊢;split at h
   .rename_i hb;have:=A1 hb;subst this;cases h;exact⟨rfl,hc.1,A3 hc.2⟩
   exact Hz h
  obtain⟨h1,h2⟩:=QM h;obtain⟨k1,k2,k3⟩:=Hz h2;refine⟨?_,k2,k3⟩;simp only[look];split
  .rename_i hb;exact absurd (A1 hb).symm h1
  exact k1
theorem qcr (h:Inv bs n M O env a w) {fn:Func} {r:AV} (hr:Df P fn env=some r):∃ v,(results fn a.tmps).run P w=.ok v w/\ValOk O M w r v:=by
 have plain:∀ r,jK P fn env=some r->∃ v,(results fn a.tmps).run P w=.ok v w/\ValOk O M w r v:=by
  intro r hr;obtain⟨v,h1,h2,h3⟩:=UI h hr;refine⟨v,h1,?_⟩
  cases r with
  | box cs=>cases h2
  | obj e k xs=>cases h2
  | pb s o=>cases h2
  | sb s e k off m=>cases h2
  | pe s k j o=>cases h2
  | tpr s e k off m rest=>cases h2
  | hob kd ks vs=>cases h2
  | mb kd s=>cases h2
  | bxg cs=>cases h2
  | slf=>cases h2
  | agr cs=>cases h2
  | clb f caps=>cases h2
  | _=>exact⟨h2,h3⟩
 unfold Df at hr;split at hr
 .rename_i t hrs;split at hr
  .rename_i id e k off m hl;cases hr;refine⟨_,?_,h.slots t _ hl⟩;rw[Dz,E7,hrs];simp[resRun]
  exact plain r hr
 .rename_i t r1 rs hrs;split at hr
  .rename_i id e k off m l hl hl2;cases hr;obtain⟨vs,q1,q2,q3⟩:=ZI h hl2;refine⟨.tuple (a.tmps.getD t undef::vs).toArray,?_,a.tmps.getD t undef,vs,rfl,h.slots t _ hl,by simpa using q2,fun j c u hc hu=>?_⟩
   .rw[Dz,E7,hrs]
    have hl1:(r1::rs).length=vs.length:=by
     have:=congrArg D8 (Jb hl2);simp at this;simp;omega
    have hm:(List.mapM (resRun a.tmps) (.tmp t::r1::rs)).run P w=.ok (a.tmps.getD t undef::vs) w:=by
     rw[List.mapM_cons,A9];simp only[resRun,B1,C0,A9];rw[q1];simp only[C0,B1]
    simp only[A9,Sem.run_map,hm,C0,B1]
    have hne:¬ (a.tmps.getD t undef::vs).toArray.size=1:=by
     simp only[List.size_toArray,List.length_cons]at hl1 ⊢;omega
    rw[dif_neg hne]
   rw[A4]at hc
   cases hz:l[j]? with
   | none=>rw[hz]at hc;cases hc
   | some z =>
    rw[hz]at hc;cases hc;exact (q3 j z u hz hu).1.strip
  exact plain r hr
 exact plain r hr
theorem Zd (hmix:P.follows .mixedOrders=true) {j:J} (h:Run P j):JOk P j:=by
 induction h with
 | skip =>
  refine⟨fun bs M O a w hi Q hQ=>wp_skip (hQ _ _ _ _ hi),noloop fun c' e=>by cases e⟩
 | ret=>exact⟨fun bs M O a w hi Q hQ=>wp_ret (hQ _ _ _ _ hi),noloop fun c' e=>by cases e⟩
 | exit=>exact⟨fun bs M O a w hi Q hQ=>wp_exit (hQ _ _ _ _ hi),noloop fun c' e=>by cases e⟩
 | seqN _ _ ih1 ih2 =>
  refine⟨fun bs M O a w hi Q hQ=>wp_seq (ih1.1 bs M O a w hi _ fun a' w' M' O' h'=>ih2.1 bs M' O' a' w' h' Q hQ),noloop fun c' e=>by cases e⟩
 | seqX _ ih =>
  exact⟨fun bs M O a w hi Q hQ=>wp_seq (ih.1 bs M O a w hi _ fun a' w' M' O' h'=>hQ a' w' M' O' h'),noloop fun c' e=>by cases e⟩
 | seqR _ ih =>
  exact⟨fun bs M O a w hi Q hQ=>wp_seq (ih.1 bs M O a w hi _ fun a' w' M' O' h'=>hQ a' w' M' O' h'),noloop fun c' e=>by cases e⟩
 | @cond n c x y env ex e1 b hc _ ih =>
  refine⟨fun bs M O a w hi Q hQ=>?_,noloop fun c' e=>by cases e⟩;have hv:=(qv hi hc).1.bool_inv;refine wp_cond hv ?_;have:=ih.1 bs M O a w hi Q hQ;cases b <;> exact this
 | @seqU n v c x y z env e0 ei e2 p _ hc _ _ _ ih0 ih1 ih2 ih3 =>
  refine⟨fun bs M O a w hi Q hQ=>?_,noloop fun c' e=>by cases e⟩;refine wp_seq (wp_seq (ih0.1 bs M O a w hi _ fun a0 w0 M1 O1 h0=>?_));have hv:=(qv h0 hc).1
  obtain⟨b,hb1,hb2⟩:∃ b,a0.eval c=.bool b/\(b=true->p=true):=by
   generalize a0.eval c=v at hv
   cases hv with
   | ub p b h=>exact⟨b,rfl,h⟩
  refine wp_cond hb1 ?_
  cases b with
  | true=>exact (ih1 (hb2 rfl)).1 bs M1 O1 a0 w0 h0 _ fun a' w' M' O' h'=>hQ a' w' M' O' h'
  | false=>exact ih2.1 bs M1 O1 a0 w0 h0 _ fun a' w' M' O' h'=>ih3.1 bs M' O' a' w' h' Q hQ
 | @mv n c env ex e1 q _ ih =>
  refine⟨fun bs M O a w hi Q hQ=>?_,fun c' e=>?_⟩
  .obtain⟨M',O',h'⟩:=hi.mvAll q;exact ih.1 bs M' O' a w h' Q hQ
  obtain⟨N,hN⟩:=ih.2 c' e;refine⟨N,fun bs M O a w hi Q hQ=>?_⟩;obtain⟨M',O',h'⟩:=hi.mvAll q;exact hN bs M' O' a w h' Q hQ
 | @block n id c env ex e1 _ ih =>
  refine⟨fun bs M O a w hi Q hQ=>wp_block (ih.1 bs M O a w hi _ fun a' w' M' O' h'=>?_),noloop fun c' e=>by cases e⟩;have:=hQ a' w' M' O' h'
  cases ex with
  | normal=>exact this
  | ret=>exact this
  | exit i =>
   simp only[toExit,Exit.inBlock];simp only[Ex.unblock]at this;split at this
   .rename_i hb;rw[if_pos (A1 hb)];exact this
   rename_i hb;rw[if_neg (fun e=>by subst e;simp at hb)];exact this
 | @loopN n c env e1 ex e2 _ _ ih1 ih2 =>
  have hl:LoopOk P n c env ex e2:=by
   obtain⟨N,hN⟩:=ih2.2 c rfl;refine⟨N+1,fun bs M O a w hi Q hQ=>?_⟩;rw[rounds_succ]
   exact ih1.1 bs M O a w hi _ fun a' w' M' O' h'=>hN bs M' O' a' w' h' Q hQ
  exact⟨hl.code,fun c' e=>by cases e;exact hl⟩
 | @loopX n c env id e1 _ ih =>
  have hl:LoopOk P n c env (.exit id) e1:=⟨1,fun bs M O a w hi Q hQ=>by
   rw[rounds_succ]
   exact ih.1 bs M O a w hi _ fun a' w' M' O' h'=>hQ a' w' M' O' h'⟩
  exact⟨hl.code,fun c' e=>by cases e;exact hl⟩
 | @loopR n c env e1 _ ih =>
  have hl:LoopOk P n c env .ret e1:=⟨1,fun bs M O a w hi Q hQ=>by
   rw[rounds_succ]
   exact ih.1 bs M O a w hi _ fun a' w' M' O' h'=>hQ a' w' M' O' h'⟩
  exact⟨hl.code,fun c' e=>by cases e;exact hl⟩
 | @region n id ops draw env e1 hd _ ih =>
  refine⟨fun bs M O a w hi Q hQ=>?_,noloop fun c' e=>by cases e⟩
  cases draw with
  | false=>exact qhi ih hi hQ
  | true =>
   obtain⟨h1,h2⟩:=hd rfl;exact qfS hmix h1 h2 ih hi hQ
 | @regionA n id ops env e1 e2 hb _ _ ih ih2 =>
  exact⟨fun bs M O a w hi Q hQ=>qeY hmix hb ih hi fun a' w' M' O' h'=>Dd ih2 h' hQ,noloop fun c' e=>by cases e⟩
 | anyNil=>exact qjL
 | @anyStep n all R env e1 F hne _ _ ih1 ih=>exact qhX F hne (fun k o hk ho hr=>qeC (ih1 k o hk ho hr)) ih
 | nilB=>exact .nil
 | opB hw he _ ih=>exact .step (qjH hw he) ih
 | @weak n c env ex e1 keep frz nl rl _ ih =>
  have hinv:∀ {bs:Base} {M:Mem} {O:Gh} {a:Act} {w:World},Inv bs n M O env a w->∃ M' O',Inv bs n M' O' (weakE keep frz nl rl env) a w:=by
   intro bs M O a w hi;obtain⟨M',O',h'⟩:=hi.freezeAll frz;obtain⟨O2,h2⟩:=Inv.relabAll rl ((Inv.nilAll nl h').drop keep);exact⟨M',O2,h2⟩
  refine⟨fun bs M O a w hi Q hQ=>?_,fun c' e=>?_⟩
  .obtain⟨M',O',h'⟩:=hinv hi;exact ih.1 bs M' O' a w h' Q hQ
  obtain⟨N,hN⟩:=ih.2 c' e;refine⟨N,fun bs M O a w hi Q hQ=>?_⟩;obtain⟨M',O',h'⟩:=hinv hi;exact hN bs M' O' a w h' Q hQ
 | nil=>exact .nil
 | drop keep _ ih=>exact .drop _ rfl (fun bs M O a w hi=>⟨M,O,hi.drop keep⟩) ih
 | mvOp q _ ih=>exact .drop _ rfl (fun bs M O a w hi=>hi.mvAll q) ih
 | @not n draw all o rest env e1 e2 hw he _ ih =>
  refine .step ⟨qjR hw he,fun _=>?_⟩ ih
  cases h1:isEff o.op with
  | false=>exact .inr (.inr ⟨.inl rfl,qdZ hw he⟩)
  | true =>
   cases h2:isStore o.op with
   | false=>exact .inl (qkF hw he h1 h2)
   | true=>exact .inr (.inr ⟨.inr rfl,qdZ hw he⟩)
 | @op n draw all o rest env e1 e2 hw he _ ih =>
  refine .step ?_ ih
  cases draw with
  | false=>exact⟨DW hw he,fun e=>by cases e⟩
  | true =>
   simp only[astepDA]at he;split at he
   case h_2=>cases he
   rename_i hlf;simp only[astepD]at he;split at he
   .rename_i heff;refine⟨DW hw he,fun _=>?_⟩
    cases h2:isStore o.op with
    | false=>exact .inl (qly hw hlf he heff h2)
    | true=>exact .inr (.inl (qiP hw h2 he))
   rename_i heff;split at he
   .rename_i x hx;split at he
    .rename_i hnb;exact⟨qiN hw hx he,fun _=>.inr (.inr ⟨.inl heff,qkl hw hx he (by simpa[notBox] using hnb)⟩)⟩
    cases he
   cases he
 | @rowOp n all o rest env e1 e2 hw he _ ih=>exact .step ⟨qjQ hw he,fun e=>by cases e⟩ ih
 | @agrOp n all o rest env e1 e2 hw he _ ih=>exact .step ⟨qjT hw he,fun e=>by cases e⟩ ih
 | @callOp n draw all o rest env f args r e1 e2 hw hc _ he _ ihc ih =>
  refine .step ⟨qiO hw hc ihc he,fun hd=>?_⟩ ih
  cases hef:isEff o.op with
  | true =>
   have hc0:=hc;unfold acallee at hc;split at hc
   case h_2=>cases hc
   rename_i fo as ats ho;subst hd;refine .inl (qel ⟨fo,as,ats,ho⟩ hef (by rw[ho];rfl) fun t _ hdt hn=>?_);unfold callPut at he;simp only at he;split at he
   .exact JW he hdt hn
   cases he
  | false =>
   subst hd;exact .inr (.inr ⟨.inl rfl,qhr hw hc ihc he⟩)
 | @callOpR n draw all o rest env f args r e1 e2 hw hc hp _ he _ ihc ih =>
  refine .step ⟨qgY hw hc hp ihc he,fun hd=>?_⟩ ih
  cases hef:isEff o.op with
  | true =>
   have hc0:=hc;unfold XI at hc;split at hc
   case h_2=>cases hc
   rename_i fo as ats ho;exact .inl (qel ⟨fo,as,ats,ho⟩ hef (by rw[ho];rfl) fun t _ hdt hn=>JW he hdt hn)
  | false=>exact .inr (.inr ⟨.inl rfl,qfW hw hc hp ihc he⟩)
 | @callOpM n all o rest env f args hp r hp' e1 e2 ρ nw hw hc _ he _ ihc ih =>
  exact .step ⟨qgZ hw hc ihc.1 ihc.2 he,fun hd=>by cases hd⟩ ih
 | @callM f args hp r fn c ex e1 hf hb hlen _ hex hres ih =>
  simp only[A2]at hlen;obtain⟨⟨hlen,hsm⟩,hhp⟩:=hlen;have hle:=A3 hlen;have hsm:=A3 hsm;refine⟨?_,fun id x hx=>?_⟩
  .intro M O w vs hG hC hl hO hOi hR hH;refine calls_of_wp hf hb ?_
   have hsz:vs.toArray.size=vs.length:=by simp
   have hinv:Inv ⟨fun k=>k<w.heap.size/\∀ c,O.o true c≠some k,M,w,O,hG⟩ fn.ntmps M O (argsEnv 0 (args.map AV.strip)++hp) { tmps:=vs.toArray++A8 (fn.ntmps - vs.toArray.size) undef,defers:=[] } w:=by
    have hsize:(vs.toArray++A8 (fn.ntmps - vs.toArray.size) undef).size=fn.ntmps:=by simp;omega
    refine⟨hsize,rfl,BelowD.refl _ _,fun k hk=>hk.1,hC,Sub.refl M,fun _ _ _=>rfl,fun i c g e=>?_,fun i i' c c' g e e'=>?_,⟨hsm,fun c _ _=>Gh.Eq1.refl O c⟩,fun t x hx=>?_⟩
    .obtain⟨rfl,h2⟩:=hO i c g e;exact⟨fun hD=>hD.2 c e,h2⟩
    .obtain⟨rfl,h2⟩:=hO i c g e;obtain⟨rfl,h3⟩:=hO i' c' g e';exact⟨rfl,hOi c c' g e e'⟩
    rcases qbr hx with hx | hx
    .obtain⟨_,h2⟩:=HA _ 0 t x hx;simp only[Nat.sub_zero,A4]at h2
     cases hz:args[t]? with
     | none=>rw[hz]at h2;cases h2
     | some z =>
      rw[hz]at h2;cases h2
      have htl:t<vs.length:=by rw[<- hl];exact (List.getElem?_eq_some_iff.1 hz).1
      have hv:(vs.toArray++A8 (fn.ntmps - vs.toArray.size) undef).getD t undef=vs[t]:=by
       rw[D6,G1 (by simpa using htl)];simp[htl]
      rw[hv];exact YU (hR t z _ hz (E0 htl))
    have hge:2000000<=t:=by
     obtain⟨q,hq,h1,_⟩:=NW hx;unfold hpOk at hhp;rw[A5]at hhp;have:=hhp q hq;simp only[A2]at this;rw[<- h1];exact A3 this.2
    have hv:(vs.toArray++A8 (fn.ntmps - vs.toArray.size) undef).getD t undef=undef:=by
     rw[D6,G2 (by rw[hsize];omega)];rfl
    rw[hv];exact hH t x hx
   refine ih.1 _ _ _ _ _ hinv _ fun a' w' M' O' h'=>?_
   obtain⟨v,hv1,hv2⟩:=qcr h' hres
   have fin:∃ v1,(results fn a'.tmps).run P w'=.ok v1 w'/\∃ v2 M2 O2,Ending.returned v1=.returned v2/\BelowD (fun k=>k<w.heap.size/\∀ c,O.o true c≠some k) w w'/\Sub M M2/\Cons M2 w'/\(∀ b o,b<w.heap.size->(∀ c,O.o true c≠some b)->M2 b o=M b o) /\
     (∀ i c g,O2 i c=some g->g<w'.heap.size/\(w.heap.size<=g\/∃ c',O.o true c'=some g))/\(∀ i i' c c' g,O2 i c=some g->O2 i' c'=some g->i=i'/\c=c')/\(∀ c,2000000<=c->c<3000000->Gh.Eq1 O O2 c) /\
     ValOk O2 M2 w' r v2/\∀ id x,look (ents e1) id=some x->Sat O2 M2 w' id x undef:=by
    refine⟨v,hv1,v,M',O',rfl,h'.below,h'.ext,h'.cons,fun b o h1 h2=>h'.old b o ⟨h1,h2⟩,fun i c g hg=>?_,h'.inj,fun c h1 h2=>h'.fix.2 c h1 h2,hv2,fun id x hx=>?_⟩
    .obtain⟨k1,k2⟩:=h'.own i c g hg;refine⟨k2,?_⟩
     rcases Nat.lt_or_ge g w.heap.size with k3 | k3
     .refine .inr (Classical.byContradiction fun hno=>k1 ⟨k3,fun c' hc'=>hno ⟨c',hc'⟩⟩)
     exact .inl k3
    obtain⟨k1,k2,k3⟩:=Hz hx;have hs:=h'.slots id x k1
    have hv:a'.tmps.getD id undef=undef:=by
     rw[D6,G2 (by rw[h'.size];omega)];rfl
    rw[hv]at hs;exact hs
   cases ex with
   | normal=>exact⟨h'.defers,fin⟩
   | ret=>exact⟨h'.defers,fin⟩
   | exit id=>exact hex.elim
  exact (Hz hx).2.1
 | ext0 h=>exact h
 | extM h h'=>exact⟨h,h'⟩
 | @ext f args r vs rv hvs hrv hk =>
  intro M w us hG hC hl hR;obtain rfl:=qfy hvs us hl hR;refine (hk w (hG.world hC)).mono ?_
  rintro ed w' ⟨rfl,hB⟩
  exact⟨rv,M,rfl,hB,Sub.refl M,DO hC hB,fun _ _ _=>rfl,qlS hrv,qlk hrv⟩
 | @call f args r fn c ex e1 hf hb hlen _ hex hres ih =>
  intro M w vs hG hC hl hR;refine calls_of_wp hf hb ?_
  have hsz:vs.toArray.size=vs.length:=by simp
  simp only[A2]at hlen;have hle:=A3 hlen.1;have hsm:=A3 hlen.2
  have hinv:Inv ⟨fun k=>k<w.heap.size,M,w,⟨fun _ _=>none,fun _=>0,fun _=>0⟩,hG⟩ fn.ntmps M ⟨fun _ _=>none,fun _=>0,fun _=>0⟩ (argsEnv 0 (args.map AV.strip)) { tmps:=vs.toArray++A8 (fn.ntmps - vs.toArray.size) undef,defers:=[] } w:=by
   refine⟨by simp;omega,rfl,BelowD.refl _ _,fun k hk=>hk,hC,Sub.refl M,fun _ _ _=>rfl,fun i c g e=>by (cases e),fun i i' c c' g e=>by (cases e),⟨hsm,fun c _ _=>Gh.Eq1.refl _ c⟩,fun t x hx=>?_⟩;obtain⟨_,h2⟩:=HA _ 0 t x hx;simp only[Nat.sub_zero,A4]at h2
   cases hz:args[t]? with
   | none=>rw[hz]at h2;cases h2
   | some z =>
    rw[hz]at h2;cases h2
    have htl:t<vs.length:=by rw[<- hl];exact (List.getElem?_eq_some_iff.1 hz).1
    have hv:(vs.toArray++A8 (fn.ntmps - vs.toArray.size) undef).getD t undef=vs[t]:=by
     rw[D6,G1 (by simpa using htl)];simp[htl]
    rw[hv];exact YU (Jl (hR t z _ hz (E0 htl)).strip (XJ z))
  refine ih.1 _ _ _ _ _ hinv _ fun a' w' M' O' h'=>?_
  have hbel:Below w.heap.size w w':=⟨h'.below.os,h'.below.tape,h'.below.output,h'.below.size,fun k hk=>h'.below.block k hk⟩
  have hnew:∀ i c g,O' i c=some g->w.heap.size<=g:=fun i c g hg=>Nat.le_of_not_lt (h'.own i c g hg).1
  obtain⟨v,hv1,hv2,hv3⟩:=UI h' hres;have hpost:∃ v M',Ending.returned v=.returned v/\True:=⟨v,M',rfl,trivial⟩
  have hown:OwnR M' w.heap.size w' r v:=by
   unfold OwnR;unfold OwnV at hv3;split at hv3
   .rename_i e k c xs
    rcases hv3 with h1 | ⟨g,off,cap,cur,q1,q2,q3,q4,q5,q6,q7⟩
    .exact .inl h1
    exact .inr ⟨g,off,cap,cur,q1,hnew _ _ _ q2,q3,q4,q5,q6,q7⟩
   rename_i hno;split
   .rename_i e k c xs;exact absurd rfl (hno e k c xs)
   trivial
  have fin:∃ v1,(results fn a'.tmps).run P w'=.ok v1 w'/\∃ v2 M2,Ending.returned v1=.returned v2/\Below w.heap.size w w'/\Sub M M2/\Cons M2 w'/\(∀ b o,b<w.heap.size->M2 b o=M b o)/\R M2 r v2/\OwnR M2 w.heap.size w' r v2 :=
   ⟨v,hv1,v,M',rfl,hbel,h'.ext,h'.cons,fun b o hb=>h'.old b o hb,hv2,hown⟩
  cases ex with
  | normal=>exact⟨h'.defers,fin⟩
  | ret=>exact⟨h'.defers,fin⟩
  | exit id=>exact hex.elim
end
end Go.AM
