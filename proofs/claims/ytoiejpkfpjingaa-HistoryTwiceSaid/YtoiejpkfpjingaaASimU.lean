import Derived.Test.YtoiejpkfpjingaaASimM
set_option linter.all false
open Nat renaming beq→A0, eq_of_beq_eq_true→A1, le_of_ble_eq_true→A3, ble_eq_true_of_le→B0
open Bool renaming and_eq_true→A2, not_eq_true'→A5
open List renaming getElem?_map→A4, all_eq_true→A6, mem_of_getElem?→A7, mem_of_mem_drop→A8, mem_cons_of_mem→A9, mem_append_left→B5, mem_of_mem_take→B6
namespace Go.AM
open Go.RowKit
section
variable {bs:Base} {n:Nat} {M:Mem} {O:Gh} {env:Env} {a:Act} {w:World} {P:Program}
theorem Qh:∀ {l:List Nat},nodupB l=true→l.Nodup
 | [],_=>List.nodup_nil
 | x::l,h=>by
  simp only[nodupB,A2,A5]at h;refine List.nodup_cons.2 ⟨fun hx=>?_,Qh h.2⟩;have:=h.1;rw[List.any_eq_false]at this;exact this x hx (by simp)
theorem jd {a b:Nat}:∀ {ρ:List (Nat×Nat)},pairOf a ρ=some b→(a,b)∈ρ
 | [],h=>by cases h
 | (x,y)::r,h=>by
  simp only[pairOf]at h;split at h
  ·rename_i hb;have:=A1 hb;subst this;cases h;exact List.mem_cons_self ..
  ·exact A9 _ (jd h)
theorem Jd {a b:Nat}:∀ {ρ:List (Nat×Nat)},(ρ.map (·.1)).Nodup→(a,b)∈ρ→pairOf a ρ=some b
 | [],_,h=>by cases h
 | (x,y)::r,hn,h=>by
  simp only[List.map_cons,List.nodup_cons]at hn;simp only[pairOf];split
  ·rename_i hb;have:=A1 hb;subst this
   rcases List.mem_cons.1 h with h | h
   ·cases h;rfl
   ·exact absurd (List.mem_map.2 ⟨_,h,rfl⟩) hn.1
  ·rename_i hb
   rcases List.mem_cons.1 h with h | h
   ·cases h;simp at hb
   ·exact Jd hn.2 h
theorem Hl {a:Nat} {ρ:List (Nat×Nat)} (h:pairOf a ρ=none):∀ b,(a,b) ∉ ρ:=by
 intro b hb
 induction ρ with
 | nil=>cases hb
 | cons p r ih =>
  obtain⟨x,y⟩:=p;simp only[pairOf]at h;split at h
  ·cases h
  ·rename_i hne
   rcases List.mem_cons.1 hb with hb | hb
   ·cases hb;simp at hne
   ·exact ih h hb
def swq (ρ:List (Nat×Nat)):List (Nat×Nat):=ρ.map fun p=>(p.2,p.1)
theorem Nh (ρ:List (Nat×Nat)):(swq ρ).map (·.1)=ρ.map (·.2):=by simp[swq]
theorem Yg {a b:Nat} {ρ:List (Nat×Nat)}:(b,a)∈swq ρ↔(a,b)∈ρ:=by
 unfold swq;rw[List.mem_map];exact⟨fun ⟨p,hp,e⟩=>by cases e;exact hp,fun h=>⟨_,h,rfl⟩⟩
theorem qbB:∀ {ρ:List (Nat×Nat)},(ρ.map (·.2)).Nodup→∀ {a a' b:Nat},(a,b)∈ρ→(a',b)∈ρ→a=a':=by
 intro ρ hn a a' b h1 h2;have k1:=Jd (ρ:=swq ρ) (by rw[Nh];exact hn) (Yg.2 h1);have k2:=Jd (ρ:=swq ρ) (by rw[Nh];exact hn) (Yg.2 h2);rw[k1]at k2;exact Option.some.inj k2
theorem UN {env:Env} {ρ0:List (Nat×Nat)}:∀ {ρ:List (Nat×Nat)} {hp:Env},hpOf ρ0 env ρ=some hp→(∀ b x,look hp b=some x→∃ a x0,(a,b)∈ρ∧look env a=some x0∧x=renE ρ0 x0∧x0.ent=true∧x0.noLabs=true)∧∀ a b,(a,b)∈ρ→∃ x,look env a=some x∧x.ent=true
 | [],hp,h=>by cases h;exact⟨fun b x hx=>by simp[look]at hx,fun a b hh=>by cases hh⟩
 | (a,b)::r,hp,h=>by
  simp only[hpOf]at h;split at h
  case h_2=>cases h
  rename_i x l hx hl;split at h
  case h_2=>cases h
  rename_i hc;cases h;simp only[A2]at hc;obtain⟨h1,h2⟩:=UN hl;refine⟨fun b' x' hx'=>?_,fun a' b' hh=>?_⟩
  ·simp only[look]at hx';split at hx'
   ·rename_i hb;have:=A1 hb;subst this;cases hx';exact⟨a,x,List.mem_cons_self ..,hx,rfl,hc.1,hc.2⟩
   ·obtain⟨a',x0,k1,k2⟩:=h1 b' x' hx';exact⟨a',x0,A9 _ k1,k2⟩
  ·rcases List.mem_cons.1 hh with hh | hh
   ·cases hh;exact⟨x,hx,hc.1⟩
   ·exact h2 a' b' hh
def Killed (y x:AV):Prop:=(∀ (O:Gh) (M:Mem) (w:World) (t:Nat) (v:Value),Sat O M w t y v→Sat O M w t x v)∧∀ s,x.refs s=true→y.refs s=true
theorem Killed.refl (y:AV):Killed y y:=⟨fun _ _ _ _ _ h=>h,fun _ h=>h⟩
theorem Killed.kill {y x:AV} (h:Killed y x) (s:Nat):Killed y (killRef s x):=⟨fun O M w t v hy=>(h.1 O M w t v hy).kill s,fun s' hs=>h.2 s' (YF hs)⟩
theorem UK {hp:Env} {σ:List (Nat×Nat)}:∀ {ρ:List (Nat×Nat)} {env:Env},(ρ.map (·.1)).Nodup→∀ {t:Nat} {x:AV},look (putM σ hp ρ env) t=some x →
  (∃ b x0,pairOf t ρ=some b∧look hp b=some x0∧Killed (renE σ x0) x)∨(∃ y,look env t=some y∧Killed y x∧pairOf t ρ=none∧∀ a b,(a,b)∈ρ→look hp b=none→x.refs a=false)
 | [],env,_,t,x,h=>.inr ⟨x,h,Killed.refl x,rfl,fun a b hh=>by cases hh⟩
 | (a,b)::r,env,hn,t,x,h=>by
  simp only[List.map_cons,List.nodup_cons]at hn;simp only[putM]at h
  have hne:∀ b',pairOf t r=some b'→t≠a:=fun b' hb e=>by
   subst e;exact hn.1 (List.mem_map.2 ⟨_,jd hb,rfl⟩)
  have hpo:t≠a→pairOf t ((a,b)::r)=pairOf t r:=fun hta=>by
   simp only[pairOf]
   have:A0 a t=false:=by rw[Bool.eq_false_iff];intro hh;exact hta (A1 hh).symm
   rw[this]
  rcases UK hn.2 h with ⟨b',x0,k1,k2,k3⟩ | ⟨y,k1,k0,k2,k3⟩
  ·exact .inl ⟨b',x0,by rw[hpo (hne b' k1)];exact k1,k2,k3⟩
  ·cases hb:look hp b with
   | some x0 =>
    rw[hb]at k1;simp only at k1;rw[qA]at k1;split at k1
    ·rename_i e;subst e;cases k1;exact .inl ⟨b,x0,by simp[pairOf],hb,k0⟩
    ·rename_i e;refine .inr ⟨y,k1,k0,by rw[hpo e];exact k2,fun a' b' hh hb'=>?_⟩
     rcases List.mem_cons.1 hh with hh | hh
     ·cases hh;rw[hb]at hb';cases hb'
     ·exact k3 a' b' hh hb'
   | none =>
    rw[hb]at k1;simp only at k1;obtain⟨e,z,hz,rfl⟩:=Qi k1;refine .inr ⟨z,hz,⟨fun O M w t v hv=>k0.1 O M w t v (hv.kill a),fun s hs=>YF (k0.2 s hs)⟩,by rw[hpo e];exact k2,fun a' b' hh hb'=>?_⟩
    rcases List.mem_cons.1 hh with hh | hh
    ·cases hh
     cases hx:x.refs a with
     | false=>rfl
     | true =>
      have:=k0.2 a hx;rw[Qu]at this;cases this
    ·exact k3 a' b' hh hb'
theorem HQ {hp:Env} {ρ:List (Nat×Nat)} {id a:Nat} (h:pairOf id (backOf hp ρ)=some a):(a,id)∈ρ∧∃ x,look hp id=some x:=by
 have h1:=jd h;unfold backOf at h1;rw[List.mem_filter]at h1;obtain⟨h2,h3⟩:=h1;obtain⟨p,hp1,hp2⟩:=List.mem_map.1 h2;cases hp2;exact⟨hp1,Option.isSome_iff_exists.1 h3⟩
theorem SbOk.ren {O':Gh} {s t k off m:Nat} {v:Value} (h:SbOk O s k off m v) (h1:O'.o true t=O.o true s) (h2:O'.len t=O.len s) (h3:O'.siz t=O.siz s):SbOk O' t k off m v:=by
 unfold SbOk at *;rw[h1,h2,h3];exact h
theorem CellR.ren {O':Gh} {s t:Nat} {c:AV} {u:Value} {τ:List (Nat×Nat)} (h:CellR O M s c u) (h1:O'.o true t=O.o true s)
  (hτ:∀ id b,pairOf id τ=some b→O'.o true b=O.o true id∧O'.len b=O.len id∧O'.siz b=O.siz id):CellR O' M t (renCell τ c) u:=by
 have h0:=h.one;unfold renCell;split
 ·rename_i id e k off m;split
  ·rename_i b hb;obtain⟨q1,q2,q3⟩:=hτ id b hb;exact SbOk.ren h q1 q2 q3
  ·exact h0
 ·rename_i kd id;split
  ·rename_i b hb;obtain⟨r1,g,r2,r3⟩:=h;exact⟨r1,g,by rw[(hτ id b hb).1];exact r2,r3⟩
  ·exact h0
 ·rename_i hn1 hn2;unfold CellR at *
  cases c with
  | sb id e k off m=>exact absurd rfl (hn1 id e k off m)
  | mb kd id=>exact absurd rfl (hn2 kd id)
  | slf=>rw[h1];exact h
  | top=>exact h
  | _=>exact h
theorem Sat.ren {O':Gh} {s t:Nat} {x:AV} {v v':Value} {τ:List (Nat×Nat)} (h:Sat O M w s x v) (hx:x.ent=true) (hn:x.noLabs=true) (h1:O'.o true t=O.o true s) (h2:O'.len t=O.len s) (h3:O'.siz t=O.siz s)
  (hb:∀ g,O true s=some g→(∃ cs,x=.box cs∨x=.bxg cs)→v'=.pointer (some ⟨g,0,none⟩)∨1000000≤t)
  (hτ:∀ id b,pairOf id τ=some b→O'.o true b=O.o true id∧O'.len b=O.len id∧O'.siz b=O.siz id):Sat O' M w t (renE τ x) v':=by
 cases x with
 | box cs =>
  obtain⟨g,cur,el,q1,q2,q3,q4,q5,q6⟩:=h;refine⟨g,cur,el,hb g q2 ⟨cs,.inl rfl⟩,by rw[h1];exact q2,q3,q4,q5,fun j c u hc hu=>?_⟩;obtain⟨k1,k2,k3⟩:=q6 j c u hc hu;refine⟨k1,k2,?_⟩;simp only[AV.noLabs,A6]at hn;have:=hn c (A7 hc)
  cases c with
  | lst e k l xs=>cases l with
   | none=>trivial
   | some l=>simp[AV.lab?]at this
  | _=>trivial
 | obj e k xs =>
  obtain⟨q0,q1,q2,q3⟩:=h;refine⟨q0,q1,by rw[h2];exact q2,?_⟩;rw[h1,h3];exact q3
 | hob kd ks vs =>
  obtain⟨g,q1,q2,q3⟩:=h;exact⟨g,by rw[h1];exact q1,q2,q3⟩
 | bxg cs =>
  obtain⟨g,cur,el,q1,q2,q3,q4,q5,q6⟩:=h;refine⟨g,cur,el,hb g q2 ⟨cs,.inr rfl⟩,by rw[h1];exact q2,q3,by simpa using q4,q5,fun j c u hc hu=>?_⟩;rw[A4]at hc
  cases hz:cs[j]? with
  | none=>rw[hz]at hc;cases hc
  | some z =>
   rw[hz]at hc;cases hc;exact (q6 j z u hz hu).ren h1 hτ
 | _=>cases hx
def ghIn (O:Gh) (ρ:List (Nat×Nat)):Gh :=
 ⟨fun i b=>if i=true then (match pairOf b (swq ρ) with | some a=>O.o true a | none=>none) else none,fun b=>match pairOf b (swq ρ) with | some a=>O.len a | none=>0,fun b=>match pairOf b (swq ρ) with | some a=>O.siz a | none=>0⟩
def ghOut (O O':Gh) (hp:Env) (ρ:List (Nat×Nat)):Gh :=
 ⟨fun i c=>if i=true then (match pairOf c ρ with | some b=>(match look hp b with | some _=>O'.o true b | none=>none) | none=>O.o true c) else O.o false c,fun c=>match pairOf c ρ with | some b=>O'.len b | none=>O.len c,fun c=>match pairOf c ρ with | some b=>O'.siz b | none=>O.siz c⟩
theorem Hz (O O':Gh) (hp:Env) (ρ:List (Nat×Nat)) (c:Nat):(ghOut O O' hp ρ).o false c=O.o false c:=by simp[ghOut]
theorem DI {O O':Gh} {hp:Env} {ρ:List (Nat×Nat)} {c:Nat} (h:pairOf c ρ=none):Gh.Eq1 O (ghOut O O' hp ρ) c:=by simp[Gh.Eq1,ghOut,h]
theorem DH {O O':Gh} {hp:Env} {ρ:List (Nat×Nat)} {c b:Nat} {x:AV} (h:pairOf c ρ=some b) (hx:look hp b=some x):(ghOut O O' hp ρ).o true c=O'.o true b∧(ghOut O O' hp ρ).len c=O'.len b∧(ghOut O O' hp ρ).siz c=O'.siz b:=by simp[ghOut,h,hx]
theorem Dg {all:List Oper} {o:Oper} {e e1:Env} {f:Nat} {args:List AV} {hp hp':Env} {r:AV} {ρ nw:List (Nat×Nat)} (hw:awanted all o e=some true) (hc:Zm P o e ρ=some (f,args,hp)) (hr:CallMOk P f args hp r hp') (hent:∀ id x,look hp' id=some x→x.ent=true) (he:XX n o.dst ρ nw r hp' e=some e1):StepSem P n all o e e1:=by
 intro bs M O a w h K Q hK;rw[qB h hw];simp only[if_true];unfold Zm at hc;split at hc
 case h_2=>cases hc
 rename_i fo as ats ho;split at hc
 case h_2=>cases hc
 rename_i g caps l hf hl;split at hc
 case h_2=>cases hc
 rename_i fn hfn;split at hc
 case h_2=>cases hc
 rename_i l' hp0 hb hl' hhp;cases hc;simp only[A2,A6]at hb;obtain⟨⟨⟨⟨hb1,hb2⟩,hn1⟩,hn2⟩,hids⟩:=hb;have hn1:=Qh hn1;have hn2:=Qh hn2;obtain⟨us,cvs,h1,h2,h3,h4,h5⟩:=XU h ho hf hl hfn hb1 hb2;obtain⟨hp1,hp2⟩:=UN hhp;obtain⟨Oc,hOc⟩:∃ Oc,Oc=ghIn O ρ:=⟨_,rfl⟩
 have F1:∀ x b,(x,b)∈ρ→Oc.o true b=O.o true x∧Oc.len b=O.len x∧Oc.siz b=O.siz x:=by
  intro x b hm;have:=Jd (ρ:=swq ρ) (by rw[Nh];exact hn2) (Yg.2 hm);rw[hOc];simp[ghIn,this]
 have F2:∀ i c g,Oc.o i c=some g→i=true∧∃ x,(x,c)∈ρ∧O.o true x=some g:=by
  intro i c g hg;rw[hOc]at hg;simp only[ghIn]at hg;split at hg
  ·rename_i hi;split at hg
   ·rename_i x hx;exact⟨hi,x,Yg.1 (jd hx),hg⟩
   ·cases hg
  ·cases hg
 have hOf:∀ c,Oc.o false c=none:=fun c=>by
  cases hh:Oc.o false c with
  | none=>rfl
  | some g=>cases (F2 false c g hh).1
 have hsp:=qK hl'
 have hlen:l.length=l'.length:=by simpa using congrArg List.length hsp
 unfold Oper.wp;rw[h1];show Calls P f (us++cvs).toArray w _;refine (hr M Oc w (us++cvs) h.glob h.cons (by simp;omega) (fun i c g hg=>?_) (fun c c' g hg hg'=>?_) (XZ (by omega) (fun j c v hc hv=>?_) fun j c v hc hv=>?_) (fun id x hx=>?_)).mono ?_
 ·obtain⟨hi,x,_,hx⟩:=F2 i c g hg;exact⟨hi,(h.own _ _ _ hx).2⟩
 ·obtain⟨_,x,hm,hx⟩:=F2 _ c g hg;obtain⟨_,x',hm',hx'⟩:=F2 _ c' g hg';have:=(h.inj _ _ _ _ g hx hx').2;subst this;have k1:=Jd hn1 hm;have k2:=Jd hn1 hm';rw[k1]at k2;exact Option.some.inj k2
 ·have hjj:=congrArg (fun q=>q[j]?) hsp;simp only[A4,hc,Option.map_some]at hjj
  cases hz:l[j]? with
  | none=>rw[hz]at hjj;cases hjj
  | some z =>
   rw[hz]at hjj;have hz1:=h3 j z v hz hv;have hz2:renArg ρ z=some c:=Option.some.inj hjj
   cases z with
   | sb id e k off m =>
    simp only[renArg]at hz2;split at hz2
    case h_2=>cases hz2
    rename_i b hb;cases hz2;obtain⟨k1,k2,k3⟩:=F1 id b (jd hb);exact SbOk.ren hz1 k1 k2 k3
   | pb id off =>
    simp only[renArg]at hz2;split at hz2
    case h_2=>cases hz2
    rename_i b hb;cases hz2;obtain⟨g',q1,q2⟩:=hz1;exact⟨g',q1,by rw[(F1 id b (jd hb)).1];exact q2⟩
   | tpr id e k off m rest=>cases hz2
   | box cs=>cases hz2
   | obj e k xs=>cases hz2
   | pe s k j o=>cases hz2
   | hob kd ks vs=>cases hz2
   | mb kd id =>
    cases kd with
    | succ kd=>simp[renArg]at hz2
    | zero =>
     simp only[renArg]at hz2;split at hz2
     case h_2=>cases hz2
     rename_i b hb;cases hz2;obtain⟨g',q1,q2⟩:=hz1;exact⟨g',by rw[(F1 id b (jd hb)).1];exact q1,q2⟩
   | bxg cs=>cases hz2
   | slf=>cases hz2
   | agr cs=>cases hz2
   | clb f caps=>cases hz2
   | _ =>
    simp only[renArg,Option.some.injEq]at hz2;subst hz2;exact ja (hz1.1.strip).strip (JQ _)
 ·exact ja (h5 j c v hc hv).strip (JQ c)
 ·obtain⟨x',x0,k1,k2,rfl,k3,k4⟩:=hp1 id x hx;obtain⟨q1,q2,q3⟩:=F1 x' id k1;have hid:=hids _ k1;simp only[A2]at hid
  exact (h.slots x' x0 k2).ren k3 k4 q1 q2 q3 (fun g _ _=>.inr (by have:=A3 hid.1;omega)) fun i b hb=>F1 i b (jd hb)
 rintro ed w' ⟨v,M',O',rfl,hbel,hsub,hC,hMo,hOo,hOi,hfix,hR,hsat⟩
 unfold XX at he;split at he
 case h_2=>cases he
 rename_i r' hb hr';simp only[A2,A6]at hb;obtain⟨⟨⟨hm1,hm2⟩,hρ⟩,hnw⟩:=hb;have hm1:=Qh hm1;have hm2:=Qh hm2;obtain⟨Os,hOs⟩:∃ Os,Os=ghOut O O' hp' (ρ++nw):=⟨_,rfl⟩
 have Ff:∀ c,Os.o false c=O.o false c:=fun c=>by rw[hOs];exact Hz ..
 have Fn:∀ c,pairOf c (ρ++nw)=none→Gh.Eq1 O Os c:=fun c hc=>by rw[hOs];exact DI hc
 have Fs:∀ c b x,pairOf c (ρ++nw)=some b→look hp' b=some x→Os.o true c=O'.o true b∧Os.len c=O'.len b∧Os.siz c=O'.siz b:=fun c b x hc hx=>by rw[hOs];exact DH hc hx
 have Fp:∀ c b x,(c,b)∈ρ→look hp' b=some x→Gh.Eq1 Oc O' b:=by
  intro c b x hm hx;have:=hρ _ hm;simp only[hx,A2,A5]at this;have hb2:=hids _ hm;simp only[A2]at hb2;have h2m:=A3 hb2.1;have hus:=this.1.1;unfold usable at hus;simp only[Bool.or_eq_false_iff]at hus;refine hfix b h2m ?_;have hus2:Nat.ble 3000000 b=false:=hus.2
  refine Nat.lt_of_not_le fun hle=>?_
  have h3:=B0 hle;rw[h3]at hus2;cases hus2
 have Fk:∀ c b x,(c,b)∈ρ→look hp' b=some x→Gh.Eq1 O Os c:=by
  intro c b x hm hx;obtain⟨k1,k2,k3⟩:=Fs c b x (Jd hm1 (B5 _ hm)) hx;obtain⟨q1,q2,q3⟩:=Fp c b x hm hx;obtain⟨r1,r2,r3⟩:=F1 c b hm;exact⟨k1.trans (q1.trans r1),k2.trans (q2.trans r2),k3.trans (q3.trans r3)⟩
 have hDlt:∀ k,bs.D k→k<w.heap.size:=fun k hk=>by have:=h.hB k hk;have:=h.below.size;omega
 have hDfp:∀ k,bs.D k→∀ c,Oc.o true c≠some k:=fun k hk c hh=>by
  obtain⟨_,x,_,hx⟩:=F2 _ c k hh;exact (h.own _ _ _ hx).1 hk
 have hout:∀ i c g,O.o i c=some g→(i=true→pairOf c (ρ++nw)=none)→g<w.heap.size∧∀ c',Oc.o true c'≠some g:=by
  intro i c g hg hi;refine⟨(h.own _ _ _ hg).2,fun c' hh=>?_⟩;obtain⟨_,x,hm,hx⟩:=F2 _ c' g hh;obtain⟨e1,e2⟩:=h.inj _ _ _ _ g hg hx;subst e2;exact Hl (hi e1) c' (B5 _ hm)
 have hinv:Inv bs n M' Os (putM (backOf hp' (ρ++nw)) hp' (ρ++nw) e) a w':=by
  refine⟨h.size,h.defers,h.below.step hbel fun k hk=>⟨hDlt k hk,hDfp k hk⟩,h.hB,hC,h.ext.trans hsub,fun b o hb=>?_,fun i c g hg=>?_,fun i i' c c' g hg hg'=>?_,⟨h.fix.1,fun c k1 k2=>?_⟩,fun t x hx=>?_⟩
  ·rw[hMo b o (hDlt b hb) (hDfp b hb)];exact h.old b o hb
  ·
   cases i with
   | false =>
    rw[Ff]at hg;exact⟨(h.own _ _ _ hg).1,Nat.lt_of_lt_of_le (h.own _ _ _ hg).2 hbel.size⟩
   | true =>
    cases hp:pairOf c (ρ++nw) with
    | none =>
     rw[(Fn c hp).1]at hg;exact⟨(h.own _ _ _ hg).1,Nat.lt_of_lt_of_le (h.own _ _ _ hg).2 hbel.size⟩
    | some b =>
     rw[hOs]at hg;simp only[ghOut,hp,if_true]at hg;split at hg
     case h_2=>cases hg
     obtain⟨q1,q2⟩:=hOo _ _ _ hg;refine⟨fun hD=>?_,q1⟩
     rcases q2 with q2 | ⟨c',q2⟩
     ·have:=hDlt g hD;omega
     ·exact hDfp g hD c' q2
  ·
   have key:∀ i c g,Os.o i c=some g→(i=true∧∃ b,(c,b)∈ρ++nw∧O'.o true b=some g∧pairOf c (ρ++nw)=some b)∨(O.o i c=some g∧(i=true→pairOf c (ρ++nw)=none)):=by
    intro i c g hg
    cases i with
    | false=>rw[Ff]at hg;exact .inr ⟨hg,fun e=>by cases e⟩
    | true =>
     cases hp:pairOf c (ρ++nw) with
     | none=>rw[(Fn c hp).1]at hg;exact .inr ⟨hg,fun _=>rfl⟩
     | some b =>
      rw[hOs]at hg;simp only[ghOut,hp,if_true]at hg;split at hg
      case h_2=>cases hg
      exact .inl ⟨rfl,b,jd hp,hg,rfl⟩
   have mixed:∀ i c b c',(c',b)∈ρ++nw→O'.o true b=some g→O.o i c=some g→(i=true→pairOf c (ρ++nw)=none)→False:=by
    intro i c b c' hm h1 h2 h3;obtain⟨q1,q2⟩:=hout i c g h2 h3
    rcases (hOo _ _ _ h1).2 with k | ⟨c2,k⟩
    ·omega
    ·exact q2 c2 k
   rcases key i c g hg with ⟨rfl,b,m1,o1,_⟩ | ⟨o1,m1⟩ <;> rcases key i' c' g hg' with ⟨rfl,b',m2,o2,_⟩ | ⟨o2,m2⟩
   ·have:=(hOi _ _ _ _ g o1 o2).2;subst this;exact⟨rfl,qbB hm2 m1 m2⟩
   ·exact (mixed i' c' b c m1 o1 o2 m2).elim
   ·exact (mixed i c b' c' m2 o2 o1 m1).elim
   ·exact h.inj _ _ _ _ g o1 o2
  ·
   obtain⟨e1,e2,e3⟩:=h.fix.2 c k1 k2
   have fin:Gh.Eq1 O Os c→Gh.Eq1 bs.O0 Os c:=fun ⟨f1,f2,f3⟩=>⟨f1.trans e1,f2.trans e2,f3.trans e3⟩
   cases hp:pairOf c (ρ++nw) with
   | none=>exact fin (Fn c hp)
   | some b =>
    rcases List.mem_append.1 (jd hp) with hm | hm
    ·cases hx:look hp' b with
     | some x=>exact fin (Fk c b x hm hx)
     | none =>
      exfalso;have:=hρ _ hm;simp only[hx]at this;have h2:=hids _ hm;simp only[A2,Bool.or_eq_true,A5]at h2
      rcases h2.2 with h3 | h3
      ·exact Qf h3 ⟨k1,k2⟩
      ·rw[this]at h3;cases h3
    ·exfalso;have:=hnw _ hm;simp only[A2]at this;have:c<2000000:=A3 this.1.2;omega
  ·
   rcases UK hm1 hx with ⟨b,x,q1,q2,qk⟩ | ⟨y,q1,qk,q2,q3⟩
   ·obtain⟨f1,f2,f3⟩:=Fs t b x q1 q2;have hxe:=hent b x q2;have hmem:=jd q1
    have hnl:x.noLabs=true:=by
     rcases List.mem_append.1 hmem with hm | hm
     ·have:=hρ _ hm;simp only[q2,A2]at this;exact this.1.2
     ·have:=hnw _ hm;simp only[A2,q2]at this;exact this.2
    refine qk.1 _ _ _ _ _ ((hsat b x q2).ren hxe hnl f1 f2 f3 (fun g hg hbox=>?_) fun i c hic=>by
     obtain⟨m1,x1,hx1⟩:=HQ hic
     exact Fs c i x1 (Jd hm1 m1) hx1)
    rcases List.mem_append.1 hmem with hm | hm
    ·have:=hρ _ hm;simp only[q2,A2,Bool.or_eq_true]at this
     rcases this.2 with h2 | h2
     ·exact .inr (A3 h2)
     ·have hown:∀ g0,O true t=some g0→g0=g:=by
       intro g0 r2;have e1:=(Fp t b _ hm q2).1;rw[(F1 t b hm).1,hg,r2]at e1;exact (Option.some.inj e1).symm
      have hvv:∃ g0,(a.tmps.getD t undef=.pointer (some ⟨g0,0,none⟩)∨1000000≤t)∧O true t=some g0:=by
       cases hl0:look e t with
       | none=>rw[hl0]at h2;cases h2
       | some y0 =>
        rw[hl0]at h2
        cases y0 with
        | box cs0=>obtain⟨g0,cur0,el0,r1,r2,_⟩:=h.slots t _ hl0;exact⟨g0,r1,r2⟩
        | bxg cs0=>obtain⟨g0,cur0,el0,r1,r2,_⟩:=h.slots t _ hl0;exact⟨g0,r1,r2⟩
        | _=>cases h2
      obtain⟨g0,r1,r2⟩:=hvv;rw[← hown g0 r2];exact r1
    ·have:=hnw _ hm;simp only[A2]at this;exact .inr (A3 this.1.1.2)
   ·have hrow:∀ i c g,O.o i c=some g→(i=true→pairOf c (ρ++nw)=none)→w'.heap[g]? = w.heap[g]?∧∀ o,M g o=none→M' g o=none:=by
     intro i c g hg hi;obtain⟨k1,k2⟩:=hout i c g hg hi;exact⟨hbel.block g ⟨k1,k2⟩,fun o hm=>by rw[hMo g o k1 k2];exact hm⟩
    refine (qk.1 _ _ _ _ _ (h.slots t y q1)).change2 hsub (fun _=>Fn t q2) (fun s hs=>?_) (fun g _ hg=>hrow true t g hg fun _=>q2) fun c g hg=>⟨by rw[Ff];exact hg,hrow false c g hg fun e=>by cases e⟩
    cases hps:pairOf s (ρ++nw) with
    | none=>exact Fn s hps
    | some b =>
     have hmem:=jd hps
     rcases List.mem_append.1 hmem with hm | hm
     ·cases hxb:look hp' b with
      | some x'=>exact Fk s b x' hm hxb
      | none=>rw[q3 s b hmem hxb]at hs;cases hs
     ·exfalso;have:=hnw _ hm;simp only[A2]at this;have hs:=qk.2 s hs;rw[(jj this.1.1.1).2 t y q1]at hs;cases hs
 refine hK _ _ _ _ (JN hinv ?_ he)
 cases r with
 | sb id e' k off m =>
  simp only[renRes]at hr';split at hr'
  case h_2=>cases hr'
  rename_i c x hc hx;cases hr';have hm:(c,id)∈ρ++nw:=Yg.1 (jd hc);obtain⟨f1,f2,f3⟩:=Fs c id x (Jd hm1 hm) hx;exact SbOk.ren hR f1 f2 f3
 | box cs=>cases hr'
 | obj e' k xs=>cases hr'
 | pb s off=>cases hr'
 | pe s k j off=>cases hr'
 | hob kd ks vs=>cases hr'
 | mb kd s=>cases hr'
 | bxg cs=>cases hr'
 | slf=>cases hr'
 | agr cs=>cases hr'
 | clb f caps=>cases hr'
 | tpr id e' k off m rest =>
  simp only[renRes]at hr';split at hr'
  case h_2=>cases hr'
  rename_i c x hc hx;cases hr';have hm:(c,id)∈ρ++nw:=Yg.1 (jd hc);obtain⟨f1,f2,f3⟩:=Fs c id x (Jd hm1 hm) hx;obtain⟨u,us,e1,e2,e3,e4⟩:=hR;exact⟨u,us,e1,SbOk.ren e2 f1 f2 f3,e3,e4⟩
 | _ =>
  simp only[renRes,Option.some.injEq]at hr';subst hr';exact ja hR.1.strip (JQ _)
end
end Go.AM
namespace Go.AM
open Go.RowKit
section
variable {bs:Base} {n:Nat} {M:Mem} {O:Gh} {env:Env} {a:Act} {w:World} {P:Program}
theorem Inv.setVal (h:Inv bs n M O env a w) {t:Nat} {x:AV} (hx:Sat O M w t x (a.tmps.getD t undef)):Inv bs n M O (ins t x env) a w:=by
 refine⟨h.size,h.defers,h.below,h.hB,h.cons,h.ext,h.old,h.own,h.inj,h.fix,fun s y hy=>?_⟩;rw[qA]at hy;split at hy
 ·rename_i e;subst e;cases hy;exact hx
 ·exact h.slots s y hy
theorem qaa {s:Nat} (h:s<2000000):usable s=true:=by
 unfold usable;have:Nat.blt s 2000000=true:=B0 h;rw[this];rfl
theorem Inv.nilObj (h:Inv bs n M O env a w) (q:Nat×Nat×Nat×Nat):∃ O',Inv bs n M O' (nilObj env q) a w:=by
 obtain⟨t,e,k,id⟩:=q;unfold AM.nilObj;simp only;split
 ·rename_i hl hc;simp only[A2]at hc;obtain⟨⟨⟨hc,hc1⟩,hc2⟩,hc3⟩:=hc;have hc1:=A3 hc1;have hc2:id<2000000:=A3 hc2;have hc3:0<k:=A3 hc3;obtain⟨c1,c2⟩:=jj hc
  have hne:id≠t:=fun e=>c1 .nils (by rw[e];exact hl)
  have hv:a.tmps.getD t undef=.slice none 0 0:=by
   have:=(h.slots t _ hl).1;generalize a.tmps.getD t undef=v at this;cases this;rfl
  have h1:=h.claim (t:=id) (x:=.obj e k []) c2 hc2 none 0 0 (fun g e=>by cases e) ⟨hc3,by simp,by simp[setR],.inl ⟨rfl,by simp[jv]⟩⟩;have h2:=h1.setVal (t:=t) (x:=.sb id e k 0 0) ⟨by simp,.inl ⟨rfl,none,hv⟩⟩;exact⟨_,h2.looks fun s=>JE hne env s⟩
 ·exact⟨O,h⟩
theorem CellR.killC {O':Gh} {M':Mem} {s t:Nat} {c:AV} {u:Value} (h:CellR O M t c u) (hs:Sub M M') (he:O'.o true t=O.o true t) (hr:∀ id,c.cref id=true→id≠s→Gh.Eq1 O O' id):CellR O' M' t (killC s c) u:=by
 unfold AM.killC;split
 ·exact h.one
 ·rename_i hc
  exact h.mono hs (fun _=>he) fun id hid=>hr id hid fun e=>by subst e;rw[hc]at hid;cases hid
theorem CellR.renC {O':Gh} {s s' t:Nat} {c:AV} {u:Value} (h:CellR O M t c u) (h1:O'.o true s'=O.o true s) (h2:O'.len s'=O.len s) (h3:O'.siz s'=O.siz s) (he:O'.o true t=O.o true t)
  (hr:∀ id,c.cref id=true→id≠s→Gh.Eq1 O O' id):CellR O' M t (renC s s' c) u:=by
 unfold AM.renC;split
 ·rename_i id e k off m;split
  ·rename_i hb;have:=A1 hb;subst this;exact SbOk.ren h h1 h2 h3
  ·rename_i hb
   exact h.mono (Sub.refl M) (fun e=>by cases e) fun id' hid=>by
    have e1:id=id':=A1 hid;subst e1
    exact hr id hid fun e=>by subst e;simp at hb
 ·exact h.killC (Sub.refl M) he hr
theorem CellR.thawC {O':Gh} {M':Mem} {s t k:Nat} {xs:List AV} {c:AV} {u:Value} (h:CellR O M t c u) (hs:Sub M M') (snap:∀ (e' off m:Nat) (v:Value),SbOk O s k off m v→R M' (.lst e' k none (snapA off m xs)) v) (he:O'.o true t=O.o true t)
  (hr:∀ id,c.cref id=true→id≠s→Gh.Eq1 O O' id):CellR O' M' t (thawC s k xs c) u:=by
 unfold AM.thawC;split
 ·rename_i id e k' off m;split
  ·rename_i hb;have:=A1 hb;subst this;split
   ·rename_i hk;have:=A1 hk;subst this;exact⟨rfl,snap e off m u h⟩
   ·exact h.one
  ·rename_i hb
   exact h.mono hs (fun e=>by cases e) fun id' hid=>by
    have e1:id=id':=A1 hid;subst e1
    exact hr id hid fun e=>by subst e;simp at hb
 ·exact h.killC hs he hr
theorem CellR.thawCM {O':Gh} {M':Mem} {s t:Nat} {ks vs:List AV} {c:AV} {u:Value} (h:CellR O M t c u) (hs:Sub M M') (snap:∀ g,O true s=some g→R M' (.mpv ks vs) (.map (some g))) (he:O'.o true t=O.o true t)
  (hr:∀ id,c.cref id=true→id≠s→Gh.Eq1 O O' id):CellR O' M' t (thawCM s ks vs c) u:=by
 unfold AM.thawCM;split
 ·rename_i kd id;split
  ·rename_i hb;have:=A1 hb;subst this;split
   ·obtain⟨_,g,h1,h2⟩:=h;rw[h2];exact⟨rfl,snap g h1⟩
   ·exact h.one
  ·rename_i hb
   exact h.mono hs (fun e=>by cases e) fun id' hid=>by
    have e1:id=id':=A1 hid;subst e1
    exact hr id hid fun e=>by subst e;simp at hb
 ·exact h.killC hs he hr
theorem CellR.move0 {t t':Nat} {c:AV} {u:Value} (h:CellR O M t c u) (hn:c≠.slf):CellR O M t' c u:=by
 cases c with
 | slf=>exact absurd rfl hn
 | _=>exact h
theorem YB {x:AV} {v:Value} {s:Nat} (h:OwnV O M w x v):OwnV O M w (AM.killC s x) v:=by
 unfold AM.killC;split
 ·trivial
 ·exact h
theorem ZB {s:Nat} {x:AV} (h:x≠.slf):AM.killC s x≠.slf:=by
 unfold AM.killC;split
 ·exact fun e=>by cases e
 ·exact h
theorem qap {x:AV} {v:Value} {s s':Nat} (h:OwnV O M w x v):OwnV O M w (AM.renC s s' x) v:=by
 unfold AM.renC;split
 ·split <;> trivial
 ·exact YB h
theorem Hd {s s':Nat} {x:AV} (h:x≠.slf):AM.renC s s' x≠.slf:=by
 unfold AM.renC;split
 ·split <;> exact fun e=>by cases e
 ·exact ZB h
theorem Dw {x:AV} {v:Value} {s k:Nat} {xs:List AV} (h:OwnV O M w x v):OwnV O M w (AM.thawC s k xs x) v:=by
 unfold AM.thawC;split
 ·split
  ·split <;> trivial
  ·trivial
 ·exact YB h
theorem Uv {s k:Nat} {xs:List AV} {x:AV} (h:x≠.slf):AM.thawC s k xs x≠.slf:=by
 unfold AM.thawC;split
 ·split
  ·split <;> exact fun e=>by cases e
  ·exact fun e=>by cases e
 ·exact ZB h
theorem Hm {x:AV} {v:Value} {s:Nat} {ks vs:List AV} (h:OwnV O M w x v):OwnV O M w (AM.thawCM s ks vs x) v:=by
 unfold AM.thawCM;split
 ·split
  ·split <;> trivial
  ·trivial
 ·exact YB h
theorem Vr {s:Nat} {ks vs:List AV} {x:AV} (h:x≠.slf):AM.thawCM s ks vs x≠.slf:=by
 unfold AM.thawCM;split
 ·split
  ·split <;> exact fun e=>by cases e
  ·exact fun e=>by cases e
 ·exact ZB h
theorem Hc (s s':Nat) (y:AV):(y.refs s=false∧renId s s' y=y)∨(∃ o,y=.pb s o∧renId s s' y=.pb s' o)∨(∃ e k off m,y=.sb s e k off m∧renId s s' y=.sb s' e k off m)∨(∃ k j o,y=.pe s k j o∧renId s s' y=.pe s' k j o)∨renId s s' y=.top∨(∃ cs,y=.bxg cs∧renId s s' y=.bxg (cs.map (renC s s')))∨(∃ cs,y=.agr cs∧renId s s' y=.agr (cs.map (renC s s'))):=by
 cases y with
 | pb t o =>
  by_cases h:A0 t s=true
  ·have:=A1 h;subst this;exact .inr (.inl ⟨o,rfl,by simp[renId]⟩)
  ·have h':A0 t s=false:=Bool.eq_false_iff.2 h;exact .inl ⟨h',by simp only[renId];rw[h']⟩
 | sb t e k off m =>
  by_cases h:A0 t s=true
  ·have:=A1 h;subst this;exact .inr (.inr (.inl ⟨e,k,off,m,rfl,by simp[renId]⟩))
  ·have h':A0 t s=false:=Bool.eq_false_iff.2 h;exact .inl ⟨h',by simp only[renId];rw[h']⟩
 | pe t k j o =>
  by_cases h:A0 t s=true
  ·have:=A1 h;subst this;exact .inr (.inr (.inr (.inl ⟨k,j,o,rfl,by simp[renId]⟩)))
  ·have h':A0 t s=false:=Bool.eq_false_iff.2 h;exact .inl ⟨h',by simp only[renId];rw[h']⟩
 | tpr t e k off m rest =>
  by_cases h:A0 t s=true
  ·exact .inr (.inr (.inr (.inr (.inl (by simp only[renId];rw[h])))))
  ·have h':A0 t s=false:=Bool.eq_false_iff.2 h;exact .inl ⟨h',by simp only[renId];rw[h']⟩
 | mb kd t =>
  by_cases h:A0 t s=true
  ·exact .inr (.inr (.inr (.inr (.inl (by simp only[renId];rw[h])))))
  ·have h':A0 t s=false:=Bool.eq_false_iff.2 h;exact .inl ⟨h',by simp only[renId];rw[h']⟩
 | bxg cs=>exact .inr (.inr (.inr (.inr (.inr (.inl ⟨cs,rfl,rfl⟩)))))
 | agr cs=>exact .inr (.inr (.inr (.inr (.inr (.inr ⟨cs,rfl,rfl⟩)))))
 | clb f caps =>
  by_cases h:(AV.clb f caps).refs s=true
  ·exact .inr (.inr (.inr (.inr (.inl (by simp only[renId];rw[h])))))
  ·have h':(AV.clb f caps).refs s=false:=Bool.eq_false_iff.2 h;exact .inl ⟨h',by simp only[renId];rw[h']⟩
 | _=>exact .inl ⟨rfl,rfl⟩
theorem Jx {f:AV→AV} {s t:Nat} {x:AV} (h:look ((env.filter fun p=>!A0 p.1 s).map fun p=>(p.1,f p.2)) t=some x):t≠s∧∃ y,look env t=some y∧f y=x:=by
 rw[JF f]at h
 cases hy:look (env.filter fun p=>!A0 p.1 s) t with
 | none=>rw[hy]at h;cases h
 | some y =>
  rw[hy]at h;obtain⟨h1,h2⟩:=jx hy;exact⟨h1,y,h2,by simpa using h⟩
theorem Inv.renObj (h:Inv bs n M O env a w) (q:Nat×Nat):∃ O',Inv bs n M O' (renObj env q) a w:=by
 obtain⟨s,s'⟩:=q;unfold AM.renObj;simp only;split
 ·rename_i e k xs hl hc;simp only[A2]at hc;obtain⟨⟨⟨⟨hc,hc1⟩,hc2⟩,hc3⟩,hc4⟩:=hc;have hc2:s<2000000:=A3 hc2;have hc4:s'<2000000:=A3 hc4;obtain⟨c1,c2⟩:=jj hc
  have hne:s≠s':=fun e=>c1 _ (by rw[← e];exact hl)
  have h1:Inv bs n M (setO O true s none) ((env.filter fun p=>!A0 p.1 s).map fun p=>(p.1,killRef s p.2)) a w:=h.forget (qaa hc2);obtain⟨k0,k1,k2,k3⟩:=h.slots s _ hl
  have hS:ObjOk (setR (setO O true s none) s' (O.o true s) (O.len s) (O.siz s)) M w s' e k xs:=by
   refine⟨k0,k1,by simp[setR];exact k2,?_⟩;simp only[jv,and_self,if_true]
   have:(setR (setO O true s none) s' (O.o true s) (O.len s) (O.siz s)).siz s'=O.siz s:=by simp[setR]
   rw[this];exact k3
  have h2:=h1.claim (t:=s') (x:=.obj e k xs) (fun t x hx=>by
   obtain⟨_,y,hy,hyx⟩:=Jx (f:=killRef s) hx;have:=c2 t y hy;rw[← hyx]
   cases hk:(killRef s y).refs s' with
   | false=>rfl
   | true=>rw[YF hk]at this;cases this) hc4 (O.o true s) (O.len s) (O.siz s) (fun g hg=>⟨(h.own _ _ _ hg).1,(h.own _ _ _ hg).2,fun i c hh=>by
    exfalso;rw[qP]at hh;split at hh
    ·cases hh
    ·rename_i hn
     exact hn (h.inj _ _ _ _ g hh hg)⟩) hS
  refine⟨_,⟨h2.size,h2.defers,h2.below,h2.hB,h2.cons,h2.ext,h2.old,h2.own,h2.inj,h2.fix,fun t x hx=>?_⟩⟩;rw[qA]at hx;split at hx
  ·rename_i e1;subst e1;cases hx;exact hS
  ·rename_i hts;obtain⟨hts',y,hy,hyx⟩:=Jx hx;have hnr:=c2 t y hy
   rcases Hc s s' y with ⟨r1,r2⟩ | ⟨o,rfl,r2⟩ | ⟨e',k',off,m,rfl,r2⟩ | ⟨k',j,o,rfl,r2⟩ | r2 | ⟨cs,rfl,r2⟩ | ⟨cs,rfl,r2⟩
   ·rw[r2]at hyx;subst hyx
    have hEq:∀ c,c≠s→c≠s'→Gh.Eq1 O (setR (setO O true s none) s' (O.o true s) (O.len s) (O.siz s)) c:=fun c e1 e2=>by
     obtain⟨f1,f2,f3⟩:=qF (O:=O) (v:=none) e1;obtain⟨g1,g2,g3⟩:=Xn (O:=setO O true s none) (v:=O.o true s) (len:=O.len s) (siz:=O.siz s) e2;exact⟨g1.trans f1,g2.trans f2,g3.trans f3⟩
    refine (h.slots t _ hy).change2 (Sub.refl M) (fun _=>hEq t hts' hts) (fun c hcc=>hEq c (fun e=>by rw[e,r1]at hcc;cases hcc) (fun e=>by rw[e,hnr]at hcc;cases hcc)) (fun g _ _=>⟨rfl,fun _ hm=>hm⟩) fun c g hg=>⟨by simp[jv,qP,hg],rfl,fun _ hm=>hm⟩
   ·rw[r2]at hyx;subst hyx;obtain⟨g,p1,p2⟩:=h.slots t _ hy;exact⟨g,p1,by simp[jv];exact p2⟩
   ·rw[r2]at hyx;subst hyx;exact SbOk.ren (h.slots t _ hy) (by simp[jv]) (by simp[setR]) (by simp[setR])
   ·rw[r2]at hyx;subst hyx;obtain⟨g,p1,p2⟩:=h.slots t _ hy;exact⟨g,p1,by simp[jv];exact p2⟩
   ·rw[r2]at hyx;subst hyx;exact⟨.top _,trivial⟩
   ·rw[r2]at hyx;subst hyx;obtain⟨g,cur,el,p1,p2,p3,p4,p5,p6⟩:=h.slots t _ hy
    have hOt:(setR (setO O true s none) s' (O.o true s) (O.len s) (O.siz s)).o true t=O.o true t:=by
     simp only[jv,qP];rw[if_neg (fun e1=>hts e1.2),if_neg (fun e1=>hts' e1.2)]
    refine⟨g,cur,el,p1,by rw[hOt];exact p2,p3,by simpa using p4,p5,fun j c u hc hu=>?_⟩;rw[A4]at hc
    cases hz:cs[j]? with
    | none=>rw[hz]at hc;cases hc
    | some z =>
     rw[hz]at hc;cases hc
     refine (p6 j z u hz hu).renC (by simp[jv]) (by simp[setR]) (by simp[setR]) hOt fun id hid hne=>?_
     have hne':id≠s':=fun e1=>by
      subst e1
      have:(AV.bxg cs).refs id=true:=by
       simp only[AV.refs,List.any_eq_true];exact⟨z,A7 hz,hid⟩
      rw[hnr]at this;cases this
     obtain⟨f1,f2,f3⟩:=qF (O:=O) (v:=none) hne;obtain⟨g1,g2,g3⟩:=Xn (O:=setO O true s none) (v:=O.o true s) (len:=O.len s) (siz:=O.siz s) hne';exact⟨g1.trans f1,g2.trans f2,g3.trans f3⟩
   ·rw[r2]at hyx;subst hyx;obtain⟨us,p1,p2,p3⟩:=h.slots t _ hy;refine⟨us,p1,by simpa using p2,fun j c u hc hu=>?_⟩;rw[A4]at hc
    cases hz:cs[j]? with
    | none=>rw[hz]at hc;cases hc
    | some z =>
     rw[hz]at hc;cases hc;obtain⟨q1,q2,q3⟩:=p3 j z u hz hu
     have hO0:∀ c,(setR (setO O true s none) s' (O.o true s) (O.len s) (O.siz s)).o false c=O.o false c:=fun c=>by simp[jv,qP]
     refine⟨?_,qap (q2.change fun c g _ hg=>⟨by rw[hO0];exact hg,rfl,fun _ hm=>hm⟩),Hd q3⟩
     refine (CellR.move0 q1 q3).renC (t:=s+s'+1) (by simp[jv]) (by simp[setR]) (by simp[setR]) (by
      simp only[jv,qP]
      rw[if_neg (fun e=>by have:=e.2;omega),if_neg (fun e=>by have:=e.2;omega)]) (fun id hid hne=>?_) |>.move0 (Hd q3)
     have hne':id≠s':=fun e1=>by
      subst e1
      have:(AV.agr cs).refs id=true:=by
       simp only[AV.refs,List.any_eq_true];exact⟨z,A7 hz,hid⟩
      rw[hnr]at this;cases this
     obtain⟨f1,f2,f3⟩:=qF (O:=O) (v:=none) hne;obtain⟨g1,g2,g3⟩:=Xn (O:=setO O true s none) (v:=O.o true s) (len:=O.len s) (siz:=O.siz s) hne';exact⟨g1.trans f1,g2.trans f2,g3.trans f3⟩
 ·exact⟨O,h⟩
theorem DJ {k m:Nat} {xs:List AV} (h:∀ x,x∈xs→x.cells.length=k):flat (snapA 0 m xs)=(flat xs).take (m * k):=by
 unfold snapA;rw[List.drop_zero,JW m h]
theorem Inv.trimObj (h:Inv bs n M O env a w) (q:Nat×Nat):∃ O',Inv bs n M O' (trimObj env q) a w:=by
 obtain⟨t,s⟩:=q;unfold AM.trimObj;simp only;split
 ·rename_i id e k m e' k' xs hlt hls hus;split
  ·rename_i hc;simp only[A2]at hc;obtain⟨hc1,hc2⟩:=hc;have hc1:=A1 hc1;have hc2:=A1 hc2;subst hc1;subst hc2;obtain⟨k0,k1,k2,k3⟩:=h.slots id _ hls;obtain⟨q1,q2⟩:=h.slots t _ hlt
   have hlen:(snapA 0 m xs).length=m:=by unfold snapA;simp;omega
   have hne:id≠t:=fun e1=>by rw[e1,hlt]at hls;cases hls
   have hty:∀ x,x∈xs→x.cells.length=k:=fun x hx=>(k1 x hx).1
   have hsub:∀ x,x∈snapA 0 m xs→x∈xs:=fun x hx=>by
    unfold snapA at hx;exact A8 (B6 hx)
   obtain⟨O1,hO1⟩:∃ O1,O1=setR O id (O.o true id) m (O.siz id):=⟨_,rfl⟩
   have hO:∀ i c,O1.o i c=O.o i c:=by
    intro i c;rw[hO1,jv];split
    ·rename_i hh;rw[hh.1,hh.2]
    ·rfl
   have hL:O1.len id=m:=by rw[hO1];simp[setR]
   have hZ:∀ c,O1.siz c=O.siz c:=by
    intro c;rw[hO1];simp only[setR];split
    ·rename_i hh;rw[hh]
    ·rfl
   have hEq:∀ c,c≠id→Gh.Eq1 O O1 c:=fun c hc=>by rw[hO1];exact Xn hc
   refine⟨O1,h.size,h.defers,h.below,h.hB,h.cons,h.ext,h.old,fun i c g hg=>h.own i c g (by rw[← hO];exact hg),fun i i' c c' g h1 h2=>h.inj i i' c c' g (by rw[← hO];exact h1) (by rw[← hO];exact h2),⟨h.fix.1,fun c g1 g2=>?_⟩,fun r x hx=>?_⟩
   ·obtain⟨e1,e2,e3⟩:=h.fix.2 c g1 g2
    obtain⟨f1,f2,f3⟩:=hEq c fun e=>Qf hus ⟨by omega,by omega⟩
    exact⟨f1.trans e1,f2.trans e2,f3.trans e3⟩
   ·rw[qA]at hx;split at hx
    ·rename_i e1;subst e1;cases hx;refine⟨k0,fun x hx=>k1 x (hsub x hx),by rw[hL,hlen],?_⟩;rw[hO,hZ]
     rcases k3 with ⟨rfl,hn⟩ | ⟨g,cur,f1,f2,f3,f4,f5,f6⟩
     ·exact .inl ⟨by simp[snapA],hn⟩
     ·refine .inr ⟨g,cur,f1,f2,f3,?_,f5,fun j c u hc hu=>?_⟩
      ·rw[hlen];have:m * k≤xs.length * k:=Nat.mul_le_mul_right _ (by omega);omega
      ·rw[DJ hty,List.getElem?_take]at hc;split at hc
       ·exact f6 j c u hc hu
       ·cases hc
    ·rename_i hr;rw[qA]at hx;split at hx
     ·rename_i e1;subst e1;cases hx;refine⟨by rw[hL,hlen];omega,?_⟩;rw[hlen,hO,hZ];exact q2
     ·obtain⟨hrs,y,hy,rfl⟩:=Qi hx;have hnr:=Qu id y
      ·refine ((h.slots r _ hy).kill id).change2 (Sub.refl M) (fun _=>hEq r hrs) (fun c hcc=>hEq c fun e=>by rw[e,hnr]at hcc;cases hcc) (fun g _ _=>⟨rfl,fun _ hm=>hm⟩) fun c g hg=>⟨by rw[hO];exact hg,rfl,fun _ hm=>hm⟩
  ·exact⟨O,h⟩
 ·exact⟨O,h⟩
theorem Dd (s k:Nat) (xs:List AV) (y:AV):thaw s k xs y=.top∨(y.refs s=false∧thaw s k xs y=y)∨(∃ e off m,y=.sb s e k off m∧thaw s k xs y=.lst e k none (snapA off m xs))∨(∃ cs,y=.bxg cs∧thaw s k xs y=.bxg (cs.map (thawC s k xs)))∨∃ cs,y=.agr cs∧thaw s k xs y=.agr (cs.map (thawC s k xs)):=by
 cases y with
 | sb id e k' off m =>
  simp only[thaw];by_cases h:A0 id s=true
  ·rw[h];have:=A1 h;subst this;by_cases h2:A0 k' k=true
   ·have:=A1 h2;subst this;exact .inr (.inr (.inl ⟨e,off,m,rfl,by simp⟩))
   ·have h2':A0 k' k=false:=Bool.eq_false_iff.2 h2;exact .inl (by rw[h2'])
  ·have h':A0 id s=false:=Bool.eq_false_iff.2 h;exact .inr (.inl ⟨h',by rw[h']⟩)
 | pe id k' j o =>
  simp only[thaw];by_cases h:A0 id s=true
  ·exact .inl (by rw[h])
  ·have h':A0 id s=false:=Bool.eq_false_iff.2 h;exact .inr (.inl ⟨h',by rw[h']⟩)
 | pb id o =>
  simp only[thaw];by_cases h:A0 id s=true
  ·exact .inl (by rw[h])
  ·have h':A0 id s=false:=Bool.eq_false_iff.2 h;exact .inr (.inl ⟨h',by rw[h']⟩)
 | tpr id e k' off m rest =>
  simp only[thaw];by_cases h:A0 id s=true
  ·exact .inl (by rw[h])
  ·have h':A0 id s=false:=Bool.eq_false_iff.2 h;exact .inr (.inl ⟨h',by rw[h']⟩)
 | mb kd id =>
  simp only[thaw];by_cases h:A0 id s=true
  ·exact .inl (by rw[h])
  ·have h':A0 id s=false:=Bool.eq_false_iff.2 h;exact .inr (.inl ⟨h',by rw[h']⟩)
 | bxg cs=>exact .inr (.inr (.inr (.inl ⟨cs,rfl,rfl⟩)))
 | agr cs=>exact .inr (.inr (.inr (.inr ⟨cs,rfl,rfl⟩)))
 | clb f caps =>
  simp only[thaw];by_cases h:(AV.clb f caps).refs s=true
  ·exact .inl (by rw[h])
  ·have h':(AV.clb f caps).refs s=false:=Bool.eq_false_iff.2 h;exact .inr (.inl ⟨h',by rw[h']⟩)
 | _=>exact .inr (.inl ⟨rfl,rfl⟩)
theorem Inv.freezeObj (h:Inv bs n M O env a w) {s e k:Nat} {xs:List AV} (hl:look env s=some (.obj e k xs)) (hus:usable s=true) :
  ∃ M' O',Inv bs n M' O' ((env.filter fun p=>!A0 p.1 s).map fun p=>(p.1,thaw s k xs p.2)) a w:=by
 obtain⟨k0,k1,k2,k3⟩:=h.slots s _ hl
 have hty:∀ x,x∈xs→x.cells.length=k:=fun x hx=>(k1 x hx).1
 obtain⟨M',hsub,hM',hcell⟩:∃ M':Mem,Sub M M'∧(∀ b o,O.o true s≠some b→M' b o=M b o)∧Cons M' w∧∀ g,O.o true s=some g→∃ cur:Array Value,cur.size=O.siz s∧xs.length * k≤cur.size∧(∀ o,M' g o=cellsAt cur o)∧∀ (j:Nat) c u,(flat xs)[j]? = some c→cur[j]? = some u→R M c u:=by
  rcases k3 with ⟨_,hn⟩ | ⟨g,cur,f1,f2,f3,f4,f5,f6⟩
  ·exact⟨M,Sub.refl M,fun _ _ _=>rfl,h.cons,fun g hg=>by rw[hn]at hg;cases hg⟩
  ·refine⟨addRow M g cur,?_,fun b o hb=>?_,?_,fun g' hg=>?_⟩
   ·intro b o u hu;unfold addRow;split
    ·rename_i e1;subst e1;rw[f5]at hu;cases hu
    ·exact hu
   ·unfold addRow;rw[if_neg fun e1=>hb (by rw[e1];exact f1)]
   ·intro b o u hu;unfold addRow at hu;split at hu
    ·rename_i e1;subst e1;rw[mcRowAt f2];exact hu
    ·exact h.cons b o u hu
   ·have:g'=g:=by rw[f1]at hg;exact (Option.some.inj hg).symm
    subst this;exact⟨cur,f3,f4,fun o=>by simp[addRow],f6⟩
 obtain⟨hC,hcell⟩:=hcell
 have hOO:∀ i c g,(setO O true s none) i c=some g→O i c=some g∧¬ (i=true∧c=s):=by
  intro i c g hg;rw[qP]at hg;split at hg
  ·cases hg
  ·rename_i hne;exact⟨hg,hne⟩
 refine⟨M',setO O true s none,h.size,h.defers,h.below,h.hB,hC,h.ext.trans hsub,fun b o hb=>?_,fun i c g hg=>h.own i c g (hOO i c g hg).1,fun i i' c c' g h1 h2=>h.inj i i' c c' g (hOO _ _ _ h1).1 (hOO _ _ _ h2).1,⟨h.fix.1,fun c g1 g2=>?_⟩,fun t x hx=>?_⟩
 ·rw[hM' b o fun hh=>(h.own _ _ _ hh).1 hb];exact h.old b o hb
 ·obtain⟨e1,e2,e3⟩:=h.fix.2 c g1 g2;exact⟨(qF (O:=O) (v:=none) (fun e=>Qf hus ⟨by omega,by omega⟩:c≠s)).1.trans e1,e2,e3⟩
 ·obtain⟨hts,y,hy,hyx⟩:=Jx hx
  have snap:∀ (e' off m:Nat) (v:Value),SbOk O s k off m v→R M' (.lst e' k none (snapA off m xs)) v:=by
   intro e' off m v hq;obtain⟨q1,q2⟩:=hq
   have hlen:(snapA off m xs).length=m:=by unfold snapA;simp;omega
   have hsubx:∀ x,x∈snapA off m xs→x∈xs:=fun x hx=>A8 (B6 hx)
   rcases q2 with ⟨rfl,ad,e1⟩ | ⟨g,cap,e1,r1,r2,r3,r4⟩
   ·rw[e1]
    have:snapA off 0 xs=[]:=by simp[snapA]
    rw[this]
    cases ad with
    | none=>exact .lstn _ _ _
    | some ad=>exact .lste _ _ _ _ _
   ·obtain⟨cur,c1,c2,c3,c4⟩:=hcell g r1
    have hj2:∀ (j:Nat) c,(flat (snapA off m xs))[j]? = some c→(flat xs)[off * k+j]? = some c:=by
     intro j c hj;unfold snapA at hj;rw[JW (k:=k) m (fun y hy=>hty y (A8 hy)),JX off hty,List.getElem?_take]at hj;split at hj
     ·rw[List.getElem?_drop]at hj;exact hj
     ·cases hj
    have hcur:∀ (j:Nat) c,(flat (snapA off m xs))[j]? = some c→cur[off * k+j]? = some (cur.getD (off * k+j) undef):=by
     intro j c hj;have hlt:=(List.getElem?_eq_some_iff.1 (hj2 j c hj)).1;rw[qI hty]at hlt
     have:off * k+j<cur.size:=by omega
     simp[this]
    rw[e1];have:=R.lst (M:=M') (e:=e') (k:=k) (l:=none) (xs:=snapA off m xs) (b:=g) (off:=off * k) (cap:=cap) (fun j=>cur.getD (off * k+j) undef) (by rw[hlen];exact r3) (fun y hy=>hty y (hsubx y hy)) (fun y hy=>(k1 y (hsubx y hy)).2)
     (fun j c hj=>by rw[c3];exact jk (hcur j c hj) (Jl ((c4 _ _ _ (hj2 j c hj) (hcur j c hj)).one (Xf (fun y hy=>(k1 y (hsubx y hy)).2) hj)))) (fun j c hj=>(c4 _ _ _ (hj2 j c hj) (hcur j c hj)).mono hsub)
    rw[hlen]at this;exact this
  have hrow:∀ i c g,O i c=some g→¬ (i=true∧c=s)→∀ o,M g o=none→M' g o=none:=by
   intro i c g hg hne o hm;rw[hM' g o fun e1=>hne (h.inj _ _ _ _ g hg e1)];exact hm
  rcases Dd s k xs y with hh | ⟨hnr,hh⟩ | ⟨e',off,m,rfl,hh⟩ | ⟨cs,rfl,hh⟩ | ⟨cs,rfl,hh⟩
  ·rw[hh]at hyx;subst hyx;exact⟨.top _,trivial⟩
  ·rw[hh]at hyx;subst hyx
   refine (h.slots t _ hy).change2 hsub (fun _=>qF hts) (fun c hcc=>qF fun e=>by rw[e,hnr]at hcc;cases hcc) (fun g _ hg=>⟨rfl,hrow true t g hg fun e=>hts e.2⟩) fun c g hg=>⟨by simp[qP,hg],rfl,hrow false c g hg fun e=>by cases e.1⟩
  ·rw[hh]at hyx;subst hyx;exact⟨snap e' off m _ (h.slots t _ hy),trivial⟩
  ·rw[hh]at hyx;subst hyx;obtain⟨g,cur,el,p1,p2,p3,p4,p5,p6⟩:=h.slots t _ hy;have hOt:=(qF (O:=O) (v:=none) hts).1;refine⟨g,cur,el,p1,by rw[hOt];exact p2,p3,by simpa using p4,fun o=>hrow true t g p2 (fun e=>hts e.2) o (p5 o),fun j c u hc hu=>?_⟩;rw[A4]at hc
   cases hz:cs[j]? with
   | none=>rw[hz]at hc;cases hc
   | some z =>
    rw[hz]at hc;cases hc
    exact (p6 j z u hz hu).thawC hsub snap hOt fun id _ hne=>qF hne
  ·rw[hh]at hyx;subst hyx;obtain⟨us,p1,p2,p3⟩:=h.slots t _ hy;refine⟨us,p1,by simpa using p2,fun j c u hc hu=>?_⟩;rw[A4]at hc
   cases hz:cs[j]? with
   | none=>rw[hz]at hc;cases hc
   | some z =>
    rw[hz]at hc;cases hc;obtain⟨q1,q2,q3⟩:=p3 j z u hz hu;refine⟨?_,Dw (q2.change fun c g _ hg=>⟨by simp[qP,hg],rfl,hrow false c g hg fun e=>by cases e.1⟩),Uv q3⟩;exact ((CellR.move0 (t':=s+1) q1 q3).thawC hsub snap (qF (O:=O) (v:=none) (by omega)).1 fun id _ hne=>qF hne).move0 (Uv q3)
theorem NR (s:Nat) (ks vs:List AV) (y:AV):thawM s ks vs y=.top∨(y.refs s=false∧thawM s ks vs y=y)∨(y=.mb 0 s∧thawM s ks vs y=.mpv ks vs)∨(∃ cs,y=.bxg cs∧thawM s ks vs y=.bxg (cs.map (thawCM s ks vs)))∨∃ cs,y=.agr cs∧thawM s ks vs y=.agr (cs.map (thawCM s ks vs)):=by
 have other:(∀ cs,y≠.bxg cs)→(∀ cs,y≠.agr cs)→thawM s ks vs y=killRef s y→thawM s ks vs y=.top∨(y.refs s=false∧thawM s ks vs y=y)∨(y=.mb 0 s∧thawM s ks vs y=.mpv ks vs)∨(∃ cs,y=.bxg cs∧thawM s ks vs y=.bxg (cs.map (thawCM s ks vs)))∨∃ cs,y=.agr cs∧thawM s ks vs y=.agr (cs.map (thawCM s ks vs)):=by
  intro hb hg h;rw[h];unfold killRef
  cases hr:y.refs s with
  | true =>
   cases y with
   | bxg cs=>exact absurd rfl (hb cs)
   | agr cs=>exact absurd rfl (hg cs)
   | _=>exact .inl rfl
  | false=>exact .inr (.inl ⟨rfl,rfl⟩)
 cases y with
 | mb kd id =>
  simp only[thawM];by_cases h:A0 id s=true
  ·rw[h];have:=A1 h;subst this
   cases kd with
   | zero=>exact .inr (.inr (.inl ⟨rfl,rfl⟩))
   | succ kd=>exact .inl rfl
  ·have h':A0 id s=false:=Bool.eq_false_iff.2 h;exact .inr (.inl ⟨h',by rw[h']⟩)
 | bxg cs=>exact .inr (.inr (.inr (.inl ⟨cs,rfl,rfl⟩)))
 | agr cs=>exact .inr (.inr (.inr (.inr ⟨cs,rfl,rfl⟩)))
 | _=>exact other (fun cs e=>by cases e) (fun cs e=>by cases e) rfl
theorem Inv.freezeMap (h:Inv bs n M O env a w) {s:Nat} {ks vs:List AV} (hl:look env s=some (.hob 0 ks vs)) (hus:usable s=true) :
  ∃ M' O',Inv bs n M' O' ((env.filter fun p=>!A0 p.1 s).map fun p=>(p.1,thawM s ks vs p.2)) a w:=by
 obtain⟨g,k1,k2,es,clock,k3,E⟩:=h.slots s _ hl
 obtain⟨M',hM⟩:∃ M':Mem,M'=fun b o=>if b=g then mc w g o else M b o:=⟨_,rfl⟩
 have hsub:Sub M M':=by
  intro b o u hu;rw[hM];simp only;split
  ·rename_i e1;subst e1;rw[k2]at hu;cases hu
  ·exact hu
 have hM':∀ b o,b≠g→M' b o=M b o:=fun b o hb=>by rw[hM];simp only;rw[if_neg hb]
 have hMg:M' g 0=some (mapCell es clock):=by rw[hM];simp only[if_true];exact ZA k3
 have hC:Cons M' w:=by
  intro b o u hu;rw[hM]at hu;simp only at hu;split at hu
  ·rename_i e1;subst e1;exact hu
  ·exact h.cons b o u hu
 have hOO:∀ i c g,(setO O true s none) i c=some g→O i c=some g∧¬ (i=true∧c=s):=by
  intro i c g hg;rw[qP]at hg;split at hg
  ·cases hg
  ·rename_i hne;exact⟨hg,hne⟩
 refine⟨M',setO O true s none,h.size,h.defers,h.below,h.hB,hC,h.ext.trans hsub,fun b o hb=>?_,fun i c g hg=>h.own i c g (hOO i c g hg).1,fun i i' c c' g h1 h2=>h.inj i i' c c' g (hOO _ _ _ h1).1 (hOO _ _ _ h2).1,⟨h.fix.1,fun c g1 g2=>?_⟩,fun t x hx=>?_⟩
 ·rw[hM' b o fun e1=>(h.own _ _ _ k1).1 (by rw[← e1];exact hb)];exact h.old b o hb
 ·obtain⟨e1,e2,e3⟩:=h.fix.2 c g1 g2;exact⟨(qF (O:=O) (v:=none) (fun e=>Qf hus ⟨by omega,by omega⟩:c≠s)).1.trans e1,e2,e3⟩
 ·obtain⟨hts,y,hy,hyx⟩:=Jx hx
  have hrow:∀ i c g',O i c=some g'→¬ (i=true∧c=s)→∀ o,M g' o=none→M' g' o=none:=by
   intro i c g' hg hne o hm;rw[hM' g' o fun e1=>hne (h.inj _ _ _ _ g' hg (by rw[e1];exact k1))];exact hm
  have snap:∀ g',O true s=some g'→R M' (.mpv ks vs) (.map (some g')):=by
   intro g' q1
   have:g'=g:=by rw[k1]at q1;exact (Option.some.inj q1).symm
   subst this;obtain⟨E1,E2,E3,E4,E5,E6⟩:=E
   exact .mpv hMg E1 E2 E3 E4 E5 fun j v e hv he=>(E6 j v e hv he).mono hsub
  rcases NR s ks vs y with hh | ⟨hnr,hh⟩ | ⟨rfl,hh⟩ | ⟨cs,rfl,hh⟩ | ⟨cs,rfl,hh⟩
  ·rw[hh]at hyx;subst hyx;exact⟨.top _,trivial⟩
  ·rw[hh]at hyx;subst hyx
   refine (h.slots t _ hy).change2 hsub (fun _=>qF hts) (fun c hcc=>qF fun e=>by rw[e,hnr]at hcc;cases hcc) (fun g _ hg=>⟨rfl,hrow true t g hg fun e=>hts e.2⟩) fun c g hg=>⟨by simp[qP,hg],rfl,hrow false c g hg fun e=>by cases e.1⟩
  ·rw[hh]at hyx;subst hyx;obtain⟨g',q1,q2⟩:=h.slots t _ hy
   have:g'=g:=by rw[k1]at q1;exact (Option.some.inj q1).symm
   subst this;refine⟨?_,trivial⟩;rw[q2];exact snap g' k1
  ·rw[hh]at hyx;subst hyx;obtain⟨g1,cur,el,p1,p2,p3,p4,p5,p6⟩:=h.slots t _ hy;have hOt:=(qF (O:=O) (v:=none) hts).1;refine⟨g1,cur,el,p1,by rw[hOt];exact p2,p3,by simpa using p4,fun o=>hrow true t g1 p2 (fun e=>hts e.2) o (p5 o),fun j c u hc hu=>?_⟩;rw[A4]at hc
   cases hz:cs[j]? with
   | none=>rw[hz]at hc;cases hc
   | some z =>
    rw[hz]at hc;cases hc
    exact (p6 j z u hz hu).thawCM hsub snap hOt fun id _ hne=>qF hne
  ·rw[hh]at hyx;subst hyx;obtain⟨us,p1,p2,p3⟩:=h.slots t _ hy;refine⟨us,p1,by simpa using p2,fun j c u hc hu=>?_⟩;rw[A4]at hc
   cases hz:cs[j]? with
   | none=>rw[hz]at hc;cases hc
   | some z =>
    rw[hz]at hc;cases hc;obtain⟨q1,q2,q3⟩:=p3 j z u hz hu;refine⟨?_,Hm (q2.change fun c g _ hg=>⟨by simp[qP,hg],rfl,hrow false c g hg fun e=>by cases e.1⟩),Vr q3⟩;exact ((CellR.move0 (t':=s+1) q1 q3).thawCM hsub snap (qF (O:=O) (v:=none) (by omega)).1 fun id _ hne=>qF hne).move0 (Vr q3)
theorem Inv.slfCell (h:Inv bs n M O env a w) (s off:Nat):Inv bs n M O (slfCell env s off) a w:=by
 unfold AM.slfCell;split
 case h_2=>exact h
 rename_i cs hl;split
 case h_2=>exact h
 rename_i x hoff;obtain⟨g,cur,el,p1,p2,p3,p4,p5,p6⟩:=h.slots s _ hl;refine h.setVal ⟨g,cur,el,p1,p2,p3,by simpa using p4,p5,fun j c u hcj hu=>?_⟩;rw[List.getElem?_set]at hcj;split at hcj
 ·rename_i e1;subst e1;split at hcj
  ·cases hcj;have q:=(p6 _ _ u hoff hu).2;cases q;exact .inl rfl
  ·cases hcj
 ·exact p6 j c u hcj hu
end
end Go.AM
