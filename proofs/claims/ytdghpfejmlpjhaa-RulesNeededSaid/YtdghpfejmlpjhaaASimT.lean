/- s -/
import Derived.Test.YtdghpfejmlpjhaaASimM
set_option linter.unusedVariables false
set_option linter.unusedSimpArgs false
namespace Go.AM
open Go.RowKit
section
variable {bs:Base} {n:Nat} {M:Mem} {O:Gh} {env:Env} {a:Act} {w:World} {P:Program}
theorem XY:∀ {l:List Nat},nodupB l=true→l.Nodup
 | [],_=>List.nodup_nil
 | x::l,h=>by
  simp only[nodupB,Bool.and_eq_true,Bool.not_eq_true']at h;refine List.nodup_cons.2 ⟨fun hx=>?_,XY h.2⟩;have:=h.1;rw[List.any_eq_false]at this;exact this x hx (by simp)
theorem Jc {a b:Nat}:∀ {ρ:List (Nat×Nat)},pairOf a ρ=some b→(a,b)∈ρ
 | [],h=>by cases h
 | (x,y)::r,h=>by
  simp only[pairOf]at h
  split at h
  ·rename_i hb;have:=Nat.eq_of_beq_eq_true hb;subst this;cases h;exact List.mem_cons_self ..
  ·exact List.mem_cons_of_mem _ (Jc h)
theorem Qz {a b:Nat}:∀ {ρ:List (Nat×Nat)},(ρ.map (·.1)).Nodup→(a,b)∈ρ→pairOf a ρ=some b
 | [],_,h=>by cases h
 | (x,y)::r,hn,h=>by
  simp only[List.map_cons,List.nodup_cons]at hn;simp only[pairOf]
  split
  ·rename_i hb;have:=Nat.eq_of_beq_eq_true hb;subst this
   rcases List.mem_cons.1 h with h | h
   ·cases h;rfl
   ·exact absurd (List.mem_map.2 ⟨_,h,rfl⟩) hn.1
  ·rename_i hb
   rcases List.mem_cons.1 h with h | h
   ·cases h;simp at hb
   ·exact Qz hn.2 h
theorem qbS {a:Nat} {ρ:List (Nat×Nat)} (h:pairOf a ρ=none):∀ b,(a,b) ∉ ρ:=by
 intro b hb
 induction ρ with
 | nil=>cases hb
 | cons p r ih =>
  obtain⟨x,y⟩:=p;simp only[pairOf]at h
  split at h
  ·cases h
  ·rename_i hne
   rcases List.mem_cons.1 hb with hb | hb
   ·cases hb;simp at hne
   ·exact ih h hb
def swq (ρ:List (Nat×Nat)):List (Nat×Nat):=ρ.map fun p=>(p.2,p.1)
theorem qaI (ρ:List (Nat×Nat)):(swq ρ).map (·.1)=ρ.map (·.2):=by simp[swq]
theorem Vz {a b:Nat} {ρ:List (Nat×Nat)}:(b,a)∈swq ρ↔(a,b)∈ρ:=by
 unfold swq;rw[List.mem_map];exact⟨fun ⟨p,hp,e⟩=>by cases e;exact hp,fun h=>⟨_,h,rfl⟩⟩
theorem qgC:∀ {ρ:List (Nat×Nat)},(ρ.map (·.2)).Nodup→∀ {a a' b:Nat},(a,b)∈ρ→(a',b)∈ρ→a=a':=by
 intro ρ hn a a' b h1 h2;have k1:=Qz (ρ:=swq ρ) (by rw[qaI];exact hn) (Vz.2 h1);have k2:=Qz (ρ:=swq ρ) (by rw[qaI];exact hn) (Vz.2 h2);rw[k1]at k2;exact Option.some.inj k2
theorem qag {env:Env} {ρ0:List (Nat×Nat)}:∀ {ρ:List (Nat×Nat)} {hp:Env},hpOf ρ0 env ρ=some hp→(∀ b x,look hp b=some x→∃ a x0,(a,b)∈ρ∧look env a=some x0∧x=renE ρ0 x0∧x0.ent=true∧x0.noLabs=true)∧∀ a b,(a,b)∈ρ→∃ x,look env a=some x∧x.ent=true
 | [],hp,h=>by cases h;exact⟨fun b x hx=>by simp[look]at hx,fun a b hh=>by cases hh⟩
 | (a,b)::r,hp,h=>by
  simp only[hpOf]at h
  split at h
  case h_2=>cases h
  rename_i x l hx hl
  split at h
  case h_2=>cases h
  rename_i hc;cases h;simp only[Bool.and_eq_true]at hc;obtain⟨h1,h2⟩:=qag hl;refine⟨fun b' x' hx'=>?_,fun a' b' hh=>?_⟩
  ·simp only[look]at hx'
   split at hx'
   ·rename_i hb;have:=Nat.eq_of_beq_eq_true hb;subst this;cases hx';exact⟨a,x,List.mem_cons_self ..,hx,rfl,hc.1,hc.2⟩
   ·obtain⟨a',x0,k1,k2⟩:=h1 b' x' hx';exact⟨a',x0,List.mem_cons_of_mem _ k1,k2⟩
  ·rcases List.mem_cons.1 hh with hh | hh
   ·cases hh;exact⟨x,hx,hc.1⟩
   ·exact h2 a' b' hh
def Killed (y x:AV):Prop:=(∀ (O:Gh) (M:Mem) (w:World) (t:Nat) (v:Value),Sat O M w t y v→Sat O M w t x v)∧∀ s,x.refs s=true→y.refs s=true
theorem Killed.refl (y:AV):Killed y y:=⟨fun _ _ _ _ _ h=>h,fun _ h=>h⟩
theorem Killed.kill {y x:AV} (h:Killed y x) (s:Nat):Killed y (killRef s x):=⟨fun O M w t v hy=>(h.1 O M w t v hy).kill s,fun s' hs=>h.2 s' (ZC hs)⟩
theorem qac {hp:Env} {σ:List (Nat×Nat)}:∀ {ρ:List (Nat×Nat)} {env:Env},(ρ.map (·.1)).Nodup→∀ {t:Nat} {x:AV},look (putM σ hp ρ env) t=some x →
  (∃ b x0,pairOf t ρ=some b∧look hp b=some x0∧Killed (renE σ x0) x)∨(∃ y,look env t=some y∧Killed y x∧pairOf t ρ=none∧∀ a b,(a,b)∈ρ→look hp b=none→x.refs a=false)
 | [],env,_,t,x,h=>.inr ⟨x,h,Killed.refl x,rfl,fun a b hh=>by cases hh⟩
 | (a,b)::r,env,hn,t,x,h=>by
  simp only[List.map_cons,List.nodup_cons]at hn;simp only[putM]at h
  have hne:∀ b',pairOf t r=some b'→t≠a:=fun b' hb e=>by
   subst e;exact hn.1 (List.mem_map.2 ⟨_,Jc hb,rfl⟩)
  have hpo:t≠a→pairOf t ((a,b)::r)=pairOf t r:=fun hta=>by
   simp only[pairOf]
   have:Nat.beq a t=false:=by rw[Bool.eq_false_iff];intro hh;exact hta (Nat.eq_of_beq_eq_true hh).symm
   rw[this]
  rcases qac hn.2 h with ⟨b',x0,k1,k2,k3⟩ | ⟨y,k1,k0,k2,k3⟩
  ·exact .inl ⟨b',x0,by rw[hpo (hne b' k1)];exact k1,k2,k3⟩
  ·cases hb:look hp b with
   | some x0 =>
    rw[hb]at k1;simp only at k1;rw[qS]at k1
    split at k1
    ·rename_i e;subst e;cases k1;exact .inl ⟨b,x0,by simp[pairOf],hb,k0⟩
    ·rename_i e;refine .inr ⟨y,k1,k0,by rw[hpo e];exact k2,fun a' b' hh hb'=>?_⟩
     rcases List.mem_cons.1 hh with hh | hh
     ·cases hh;rw[hb]at hb';cases hb'
     ·exact k3 a' b' hh hb'
   | none =>
    rw[hb]at k1;simp only at k1;obtain⟨e,z,hz,rfl⟩:=Xt k1;refine .inr ⟨z,hz,⟨fun O M w t v hv=>k0.1 O M w t v (hv.kill a),fun s hs=>ZC (k0.2 s hs)⟩,by rw[hpo e];exact k2,fun a' b' hh hb'=>?_⟩
    rcases List.mem_cons.1 hh with hh | hh
    ·cases hh
     cases hx:x.refs a with
     | false=>rfl
     | true =>
      have:=k0.2 a hx;rw[Yi]at this;cases this
    ·exact k3 a' b' hh hb'
theorem qcv {hp:Env} {ρ:List (Nat×Nat)} {id a:Nat} (h:pairOf id (backOf hp ρ)=some a):(a,id)∈ρ∧∃ x,look hp id=some x:=by
 have h1:=Jc h;unfold backOf at h1;rw[List.mem_filter]at h1;obtain⟨h2,h3⟩:=h1;obtain⟨p,hp1,hp2⟩:=List.mem_map.1 h2;cases hp2;exact⟨hp1,Option.isSome_iff_exists.1 h3⟩
theorem SbOk.ren {O':Gh} {s t k off m:Nat} {v:Value} (h:SbOk O s k off m v) (h1:O'.o true t=O.o true s) (h2:O'.len t=O.len s) (h3:O'.siz t=O.siz s):SbOk O' t k off m v:=by
 unfold SbOk at *;rw[h1,h2,h3];exact h
theorem CellR.ren {O':Gh} {s t:Nat} {c:AV} {u:Value} {τ:List (Nat×Nat)} (h:CellR O M s c u) (h1:O'.o true t=O.o true s)
  (hτ:∀ id b,pairOf id τ=some b→O'.o true b=O.o true id∧O'.len b=O.len id∧O'.siz b=O.siz id):CellR O' M t (renCell τ c) u:=by
 have h0:=h.one;unfold renCell
 split
 ·rename_i id e k off m
  split
  ·rename_i b hb;obtain⟨q1,q2,q3⟩:=hτ id b hb;exact SbOk.ren h q1 q2 q3
  ·exact h0
 ·rename_i kd id
  split
  ·rename_i b hb;obtain⟨r1,g,r2,r3⟩:=h;exact⟨r1,g,by rw[(hτ id b hb).1];exact r2,r3⟩
  ·exact h0
 ·rename_i hn1 hn2;unfold CellR at *
  cases c with
  | sb id e k off m=>exact absurd rfl (hn1 id e k off m)
  | mb kd id=>exact absurd rfl (hn2 kd id)
  | slf=>rw[h1];exact h
  | top=>exact h
  | _=>exact h
theorem Sat.ren {O':Gh} {s t:Nat} {x:AV} {v v':Value} {τ:List (Nat×Nat)} (h:Sat O M w s x v) (hx:x.ent=true) (hn:x.noLabs=true) (h1:O'.o true t=O.o true s) (h2:O'.len t=O.len s) (h3:O'.siz t=O.siz s)
  (hb:∀ g,O true s=some g→(∃ cs,x=.box cs∨x=.bxg cs)→v'=.pointer (some ⟨g,0,none⟩)∨1000000≤t)
  (hτ:∀ id b,pairOf id τ=some b→O'.o true b=O.o true id∧O'.len b=O.len id∧O'.siz b=O.siz id):Sat O' M w t (renE τ x) v':=by
 cases x with
 | box cs =>
  obtain⟨g,cur,el,q1,q2,q3,q4,q5,q6⟩:=h;refine⟨g,cur,el,hb g q2 ⟨cs,.inl rfl⟩,by rw[h1];exact q2,q3,q4,q5,fun j c u hc hu=>?_⟩;obtain⟨k1,k2,k3⟩:=q6 j c u hc hu;refine⟨k1,k2,?_⟩;simp only[AV.noLabs,List.all_eq_true]at hn;have:=hn c (List.mem_of_getElem? hc)
  cases c with
  | lst e k l xs=>cases l with
   | none=>trivial
   | some l=>simp[AV.lab?]at this
  | _=>trivial
 | obj e k xs =>
  obtain⟨q0,q1,q2,q3⟩:=h;refine⟨q0,q1,by rw[h2];exact q2,?_⟩;rw[h1,h3];exact q3
 | hob kd ks vs =>
  obtain⟨g,q1,q2,q3⟩:=h;exact⟨g,by rw[h1];exact q1,q2,q3⟩
 | bxg cs =>
  obtain⟨g,cur,el,q1,q2,q3,q4,q5,q6⟩:=h;refine⟨g,cur,el,hb g q2 ⟨cs,.inr rfl⟩,by rw[h1];exact q2,q3,by simpa using q4,q5,fun j c u hc hu=>?_⟩;rw[List.getElem?_map]at hc
  cases hz:cs[j]? with
  | none=>rw[hz]at hc;cases hc
  | some z =>
   rw[hz]at hc;cases hc;exact (q6 j z u hz hu).ren h1 hτ
 | _=>cases hx
def ghIn (O:Gh) (ρ:List (Nat×Nat)):Gh :=
 ⟨fun i b=>if i=true then (match pairOf b (swq ρ) with | some a=>O.o true a | none=>none) else none,fun b=>match pairOf b (swq ρ) with | some a=>O.len a | none=>0,fun b=>match pairOf b (swq ρ) with | some a=>O.siz a | none=>0⟩
def ghOut (O O':Gh) (hp:Env) (ρ:List (Nat×Nat)):Gh :=
 ⟨fun i c=>if i=true then (match pairOf c ρ with | some b=>(match look hp b with | some _=>O'.o true b | none=>none) | none=>O.o true c) else O.o false c,fun c=>match pairOf c ρ with | some b=>O'.len b | none=>O.len c,fun c=>match pairOf c ρ with | some b=>O'.siz b | none=>O.siz c⟩
theorem qcg (O O':Gh) (hp:Env) (ρ:List (Nat×Nat)) (c:Nat):(ghOut O O' hp ρ).o false c=O.o false c:=by simp[ghOut]
theorem qdy {O O':Gh} {hp:Env} {ρ:List (Nat×Nat)} {c:Nat} (h:pairOf c ρ=none):Gh.Eq1 O (ghOut O O' hp ρ) c:=by simp[Gh.Eq1,ghOut,h]
theorem qdx {O O':Gh} {hp:Env} {ρ:List (Nat×Nat)} {c b:Nat} {x:AV} (h:pairOf c ρ=some b) (hx:look hp b=some x):(ghOut O O' hp ρ).o true c=O'.o true b∧(ghOut O O' hp ρ).len c=O'.len b∧(ghOut O O' hp ρ).siz c=O'.siz b:=by simp[ghOut,h,hx]
theorem qcO {all:List Oper} {o:Oper} {e e1:Env} {f:Nat} {args:List AV} {hp hp':Env} {r:AV} {ρ nw:List (Nat×Nat)} (hw:awanted all o e=some true) (hc:Na P o e ρ=some (f,args,hp)) (hr:CallMOk P f args hp r hp') (hent:∀ id x,look hp' id=some x→x.ent=true) (he:Vs n o.dst ρ nw r hp' e=some e1):StepSem P n all o e e1:=by
 intro bs M O a w h K Q hK;rw[qZ h hw];simp only[if_true];unfold Na at hc
 split at hc
 case h_2=>cases hc
 rename_i fo as ats ho
 split at hc
 case h_2=>cases hc
 rename_i g caps l hf hl
 split at hc
 case h_2=>cases hc
 rename_i fn hfn
 split at hc
 case h_2=>cases hc
 rename_i l' hp0 hb hl' hhp;cases hc;simp only[Bool.and_eq_true,List.all_eq_true]at hb;obtain⟨⟨⟨⟨hb1,hb2⟩,hn1⟩,hn2⟩,hids⟩:=hb;have hn1:=XY hn1;have hn2:=XY hn2;obtain⟨us,cvs,h1,h2,h3,h4,h5⟩:=Vq h ho hf hl hfn hb1 hb2;obtain⟨hp1,hp2⟩:=qag hhp;obtain⟨Oc,hOc⟩:∃ Oc,Oc=ghIn O ρ:=⟨_,rfl⟩
 have F1:∀ x b,(x,b)∈ρ→Oc.o true b=O.o true x∧Oc.len b=O.len x∧Oc.siz b=O.siz x:=by
  intro x b hm;have:=Qz (ρ:=swq ρ) (by rw[qaI];exact hn2) (Vz.2 hm);rw[hOc]
  simp[ghIn,this]
 have F2:∀ i c g,Oc.o i c=some g→i=true∧∃ x,(x,c)∈ρ∧O.o true x=some g:=by
  intro i c g hg;rw[hOc]at hg;simp only[ghIn]at hg
  split at hg
  ·rename_i hi
   split at hg
   ·rename_i x hx;exact⟨hi,x,Vz.1 (Jc hx),hg⟩
   ·cases hg
  ·cases hg
 have hOf:∀ c,Oc.o false c=none:=fun c=>by
  cases hh:Oc.o false c with
  | none=>rfl
  | some g=>cases (F2 false c g hh).1
 have hsp:=jH hl'
 have hlen:l.length=l'.length:=by simpa using congrArg List.length hsp
 unfold Oper.wp;rw[h1];show Calls P f (us++cvs).toArray w _;refine (hr M Oc w (us++cvs) h.glob h.cons (by simp;omega) (fun i c g hg=>?_) (fun c c' g hg hg'=>?_) (Vu (by omega) (fun j c v hc hv=>?_) fun j c v hc hv=>?_) (fun id x hx=>?_)).mono ?_
 ·obtain⟨hi,x,_,hx⟩:=F2 i c g hg;exact⟨hi,(h.own _ _ _ hx).2⟩
 ·obtain⟨_,x,hm,hx⟩:=F2 _ c g hg;obtain⟨_,x',hm',hx'⟩:=F2 _ c' g hg';have:=(h.inj _ _ _ _ g hx hx').2;subst this;have k1:=Qz hn1 hm;have k2:=Qz hn1 hm';rw[k1]at k2;exact Option.some.inj k2
 ·have hjj:=congrArg (fun q=>q[j]?) hsp;simp only[List.getElem?_map,hc,Option.map_some]at hjj
  cases hz:l[j]? with
  | none=>rw[hz]at hjj;cases hjj
  | some z =>
   rw[hz]at hjj;have hz1:=h3 j z v hz hv;have hz2:renArg ρ z=some c:=Option.some.inj hjj
   cases z with
   | sb id e k off m =>
    simp only[renArg]at hz2
    split at hz2
    case h_2=>cases hz2
    rename_i b hb;cases hz2;obtain⟨k1,k2,k3⟩:=F1 id b (Jc hb);exact SbOk.ren hz1 k1 k2 k3
   | pb id off =>
    simp only[renArg]at hz2
    split at hz2
    case h_2=>cases hz2
    rename_i b hb;cases hz2;obtain⟨g',q1,q2⟩:=hz1;exact⟨g',q1,by rw[(F1 id b (Jc hb)).1];exact q2⟩
   | tpr id e k off m rest=>cases hz2
   | box cs=>cases hz2
   | obj e k xs=>cases hz2
   | pe s k j o=>cases hz2
   | hob kd ks vs=>cases hz2
   | mb kd id =>
    cases kd with
    | succ kd=>simp[renArg]at hz2
    | zero =>
     simp only[renArg]at hz2
     split at hz2
     case h_2=>cases hz2
     rename_i b hb;cases hz2;obtain⟨g',q1,q2⟩:=hz1;exact⟨g',by rw[(F1 id b (Jc hb)).1];exact q1,q2⟩
   | bxg cs=>cases hz2
   | slf=>cases hz2
   | agr cs=>cases hz2
   | clb f caps=>cases hz2
   | _ =>
    simp only[renArg,Option.some.injEq]at hz2;subst hz2;exact jZ (hz1.1.strip).strip (Xq _)
 ·exact jZ (h5 j c v hc hv).strip (Xq c)
 ·obtain⟨x',x0,k1,k2,rfl,k3,k4⟩:=hp1 id x hx;obtain⟨q1,q2,q3⟩:=F1 x' id k1;have hid:=hids _ k1;simp only[Bool.and_eq_true]at hid
  exact (h.slots x' x0 k2).ren k3 k4 q1 q2 q3 (fun g _ _=>.inr (by have:=Nat.le_of_ble_eq_true hid.1;omega)) fun i b hb=>F1 i b (Jc hb)
 rintro ed w' ⟨v,M',O',rfl,hbel,hsub,hC,hMo,hOo,hOi,hfix,hR,hsat⟩
 unfold Vs at he
 split at he
 case h_2=>cases he
 rename_i r' hb hr';simp only[Bool.and_eq_true,List.all_eq_true]at hb;obtain⟨⟨⟨hm1,hm2⟩,hρ⟩,hnw⟩:=hb;have hm1:=XY hm1;have hm2:=XY hm2;obtain⟨Os,hOs⟩:∃ Os,Os=ghOut O O' hp' (ρ++nw):=⟨_,rfl⟩
 have Ff:∀ c,Os.o false c=O.o false c:=fun c=>by rw[hOs];exact qcg ..
 have Fn:∀ c,pairOf c (ρ++nw)=none→Gh.Eq1 O Os c:=fun c hc=>by rw[hOs];exact qdy hc
 have Fs:∀ c b x,pairOf c (ρ++nw)=some b→look hp' b=some x→Os.o true c=O'.o true b∧Os.len c=O'.len b∧Os.siz c=O'.siz b:=fun c b x hc hx=>by rw[hOs];exact qdx hc hx
 have Fp:∀ c b x,(c,b)∈ρ→look hp' b=some x→Gh.Eq1 Oc O' b:=by
  intro c b x hm hx;have:=hρ _ hm;simp only[hx,Bool.and_eq_true,Bool.not_eq_true']at this;have hb2:=hids _ hm;simp only[Bool.and_eq_true]at hb2;have h2m:=Nat.le_of_ble_eq_true hb2.1;have hus:=this.1.1;unfold usable at hus;simp only[Bool.or_eq_false_iff]at hus;refine hfix b h2m ?_;have hus2:Nat.ble 3000000 b=false:=hus.2
  refine Nat.lt_of_not_le fun hle=>?_
  have h3:=Nat.ble_eq_true_of_le hle;rw[h3]at hus2;cases hus2
 have Fk:∀ c b x,(c,b)∈ρ→look hp' b=some x→Gh.Eq1 O Os c:=by
  intro c b x hm hx;obtain⟨k1,k2,k3⟩:=Fs c b x (Qz hm1 (List.mem_append_left _ hm)) hx;obtain⟨q1,q2,q3⟩:=Fp c b x hm hx;obtain⟨r1,r2,r3⟩:=F1 c b hm;exact⟨k1.trans (q1.trans r1),k2.trans (q2.trans r2),k3.trans (q3.trans r3)⟩
 have hDlt:∀ k,bs.D k→k<w.heap.size:=fun k hk=>by have:=h.hB k hk;have:=h.below.size;omega
 have hDfp:∀ k,bs.D k→∀ c,Oc.o true c≠some k:=fun k hk c hh=>by
  obtain⟨_,x,_,hx⟩:=F2 _ c k hh;exact (h.own _ _ _ hx).1 hk
 have hout:∀ i c g,O.o i c=some g→(i=true→pairOf c (ρ++nw)=none)→g<w.heap.size∧∀ c',Oc.o true c'≠some g:=by
  intro i c g hg hi;refine⟨(h.own _ _ _ hg).2,fun c' hh=>?_⟩;obtain⟨_,x,hm,hx⟩:=F2 _ c' g hh;obtain⟨e1,e2⟩:=h.inj _ _ _ _ g hg hx;subst e2;exact qbS (hi e1) c' (List.mem_append_left _ hm)
 have hinv:Inv bs n M' Os (putM (backOf hp' (ρ++nw)) hp' (ρ++nw) e) a w':=by
  refine⟨h.size,h.defers,h.below.step hbel fun k hk=>⟨hDlt k hk,hDfp k hk⟩,h.hB,hC,h.ext.trans hsub,fun b o hb=>?_,fun i c g hg=>?_,fun i i' c c' g hg hg'=>?_,⟨h.fix.1,fun c k1 k2=>?_⟩,fun t x hx=>?_⟩
  ·rw[hMo b o (hDlt b hb) (hDfp b hb)];exact h.old b o hb
  ·
   cases i with
   | false =>
    rw[Ff]at hg;exact⟨(h.own _ _ _ hg).1,Nat.lt_of_lt_of_le (h.own _ _ _ hg).2 hbel.size⟩
   | true =>
    cases hp:pairOf c (ρ++nw) with
    | none =>
     rw[(Fn c hp).1]at hg;exact⟨(h.own _ _ _ hg).1,Nat.lt_of_lt_of_le (h.own _ _ _ hg).2 hbel.size⟩
    | some b =>
     rw[hOs]at hg;simp only[ghOut,hp,if_true]at hg
     split at hg
     case h_2=>cases hg
     obtain⟨q1,q2⟩:=hOo _ _ _ hg;refine⟨fun hD=>?_,q1⟩
     rcases q2 with q2 | ⟨c',q2⟩
     ·have:=hDlt g hD;omega
     ·exact hDfp g hD c' q2
  ·
   have key:∀ i c g,Os.o i c=some g→(i=true∧∃ b,(c,b)∈ρ++nw∧O'.o true b=some g∧pairOf c (ρ++nw)=some b)∨(O.o i c=some g∧(i=true→pairOf c (ρ++nw)=none)):=by
    intro i c g hg
    cases i with
    | false=>rw[Ff]at hg;exact .inr ⟨hg,fun e=>by cases e⟩
    | true =>
     cases hp:pairOf c (ρ++nw) with
     | none=>rw[(Fn c hp).1]at hg;exact .inr ⟨hg,fun _=>rfl⟩
     | some b =>
      rw[hOs]at hg;simp only[ghOut,hp,if_true]at hg
      split at hg
      case h_2=>cases hg
      exact .inl ⟨rfl,b,Jc hp,hg,rfl⟩
   have mixed:∀ i c b c',(c',b)∈ρ++nw→O'.o true b=some g→O.o i c=some g→(i=true→pairOf c (ρ++nw)=none)→False:=by
    intro i c b c' hm h1 h2 h3;obtain⟨q1,q2⟩:=hout i c g h2 h3
    rcases (hOo _ _ _ h1).2 with k | ⟨c2,k⟩
    ·omega
    ·exact q2 c2 k
   rcases key i c g hg with ⟨rfl,b,m1,o1,_⟩ | ⟨o1,m1⟩ <;> rcases key i' c' g hg' with ⟨rfl,b',m2,o2,_⟩ | ⟨o2,m2⟩
   ·have:=(hOi _ _ _ _ g o1 o2).2;subst this;exact⟨rfl,qgC hm2 m1 m2⟩
   ·exact (mixed i' c' b c m1 o1 o2 m2).elim
   ·exact (mixed i c b' c' m2 o2 o1 m1).elim
   ·exact h.inj _ _ _ _ g o1 o2
  ·
   obtain⟨e1,e2,e3⟩:=h.fix.2 c k1 k2
   have fin:Gh.Eq1 O Os c→Gh.Eq1 bs.O0 Os c:=fun ⟨f1,f2,f3⟩=>⟨f1.trans e1,f2.trans e2,f3.trans e3⟩
   cases hp:pairOf c (ρ++nw) with
   | none=>exact fin (Fn c hp)
   | some b =>
    rcases List.mem_append.1 (Jc hp) with hm | hm
    ·cases hx:look hp' b with
     | some x=>exact fin (Fk c b x hm hx)
     | none =>
      exfalso;have:=hρ _ hm;simp only[hx]at this;have h2:=hids _ hm;simp only[Bool.and_eq_true,Bool.or_eq_true,Bool.not_eq_true']at h2
      rcases h2.2 with h3 | h3
      ·exact XW h3 ⟨k1,k2⟩
      ·rw[this]at h3;cases h3
    ·exfalso;have:=hnw _ hm;simp only[Bool.and_eq_true]at this;have:c<2000000:=Nat.le_of_ble_eq_true this.1.2;omega
  ·
   rcases qac hm1 hx with ⟨b,x,q1,q2,qk⟩ | ⟨y,q1,qk,q2,q3⟩
   ·obtain⟨f1,f2,f3⟩:=Fs t b x q1 q2;have hxe:=hent b x q2;have hmem:=Jc q1
    have hnl:x.noLabs=true:=by
     rcases List.mem_append.1 hmem with hm | hm
     ·have:=hρ _ hm;simp only[q2,Bool.and_eq_true]at this;exact this.1.2
     ·have:=hnw _ hm;simp only[Bool.and_eq_true,q2]at this;exact this.2
    refine qk.1 _ _ _ _ _ ((hsat b x q2).ren hxe hnl f1 f2 f3 (fun g hg hbox=>?_) fun i c hic=>by
     obtain⟨m1,x1,hx1⟩:=qcv hic
     exact Fs c i x1 (Qz hm1 m1) hx1)
    rcases List.mem_append.1 hmem with hm | hm
    ·have:=hρ _ hm;simp only[q2,Bool.and_eq_true,Bool.or_eq_true]at this
     rcases this.2 with h2 | h2
     ·exact .inr (Nat.le_of_ble_eq_true h2)
     ·have hown:∀ g0,O true t=some g0→g0=g:=by
       intro g0 r2;have e1:=(Fp t b _ hm q2).1;rw[(F1 t b hm).1,hg,r2]at e1;exact (Option.some.inj e1).symm
      have hvv:∃ g0,(a.tmps.getD t undef=.pointer (some ⟨g0,0,none⟩)∨1000000≤t)∧O true t=some g0:=by
       cases hl0:look e t with
       | none=>rw[hl0]at h2;cases h2
       | some y0 =>
        rw[hl0]at h2
        cases y0 with
        | box cs0=>obtain⟨g0,cur0,el0,r1,r2,_⟩:=h.slots t _ hl0;exact⟨g0,r1,r2⟩
        | bxg cs0=>obtain⟨g0,cur0,el0,r1,r2,_⟩:=h.slots t _ hl0;exact⟨g0,r1,r2⟩
        | _=>cases h2
      obtain⟨g0,r1,r2⟩:=hvv;rw[← hown g0 r2];exact r1
    ·have:=hnw _ hm;simp only[Bool.and_eq_true]at this;exact .inr (Nat.le_of_ble_eq_true this.1.1.2)
   ·have hrow:∀ i c g,O.o i c=some g→(i=true→pairOf c (ρ++nw)=none)→w'.heap[g]? = w.heap[g]?∧∀ o,M g o=none→M' g o=none:=by
     intro i c g hg hi;obtain⟨k1,k2⟩:=hout i c g hg hi;exact⟨hbel.block g ⟨k1,k2⟩,fun o hm=>by rw[hMo g o k1 k2];exact hm⟩
    refine (qk.1 _ _ _ _ _ (h.slots t y q1)).change2 hsub (fun _=>Fn t q2) (fun s hs=>?_) (fun g _ hg=>hrow true t g hg fun _=>q2) fun c g hg=>⟨by rw[Ff];exact hg,hrow false c g hg fun e=>by cases e⟩
    cases hps:pairOf s (ρ++nw) with
    | none=>exact Fn s hps
    | some b =>
     have hmem:=Jc hps
     rcases List.mem_append.1 hmem with hm | hm
     ·cases hxb:look hp' b with
      | some x'=>exact Fk s b x' hm hxb
      | none=>rw[q3 s b hmem hxb]at hs;cases hs
     ·exfalso;have:=hnw _ hm;simp only[Bool.and_eq_true]at this;have hs:=qk.2 s hs;rw[(jO this.1.1.1).2 t y q1]at hs;cases hs
 refine hK _ _ _ _ (XG hinv ?_ he)
 cases r with
 | sb id e' k off m =>
  simp only[renRes]at hr'
  split at hr'
  case h_2=>cases hr'
  rename_i c x hc hx;cases hr';have hm:(c,id)∈ρ++nw:=Vz.1 (Jc hc);obtain⟨f1,f2,f3⟩:=Fs c id x (Qz hm1 hm) hx;exact SbOk.ren hR f1 f2 f3
 | box cs=>cases hr'
 | obj e' k xs=>cases hr'
 | pb s off=>cases hr'
 | pe s k j off=>cases hr'
 | hob kd ks vs=>cases hr'
 | mb kd s=>cases hr'
 | bxg cs=>cases hr'
 | slf=>cases hr'
 | agr cs=>cases hr'
 | clb f caps=>cases hr'
 | tpr id e' k off m rest =>
  simp only[renRes]at hr'
  split at hr'
  case h_2=>cases hr'
  rename_i c x hc hx;cases hr';have hm:(c,id)∈ρ++nw:=Vz.1 (Jc hc);obtain⟨f1,f2,f3⟩:=Fs c id x (Qz hm1 hm) hx;obtain⟨u,us,e1,e2,e3,e4⟩:=hR;exact⟨u,us,e1,SbOk.ren e2 f1 f2 f3,e3,e4⟩
 | _ =>
  simp only[renRes,Option.some.injEq]at hr';subst hr';exact jZ hR.1.strip (Xq _)
end
end Go.AM
