/- s -/
import Derived.Test.YtdghpfejmlpjhaaASimT
set_option linter.unusedVariables false
set_option linter.unusedSimpArgs false
namespace Go.AM
open Go.RowKit
section
variable {bs:Base} {n:Nat} {M:Mem} {O:Gh} {env:Env} {a:Act} {w:World} {P:Program}
theorem Inv.setVal (h:Inv bs n M O env a w) {t:Nat} {x:AV} (hx:Sat O M w t x (a.tmps.getD t undef)):Inv bs n M O (ins t x env) a w:=by
 refine⟨h.size,h.defers,h.below,h.hB,h.cons,h.ext,h.old,h.own,h.inj,h.fix,fun s y hy=>?_⟩;rw[qS]at hy
 split at hy
 ·rename_i e;subst e;cases hy;exact hx
 ·exact h.slots s y hy
theorem DK {s:Nat} (h:s<2000000):usable s=true:=by
 unfold usable;have:Nat.blt s 2000000=true:=Nat.ble_eq_true_of_le h;rw[this];rfl
theorem Inv.nilObj (h:Inv bs n M O env a w) (q:Nat×Nat×Nat×Nat):∃ O',Inv bs n M O' (nilObj env q) a w:=by
 obtain⟨t,e,k,id⟩:=q;unfold AM.nilObj
 simp only
 split
 ·rename_i hl hc;simp only[Bool.and_eq_true]at hc;obtain⟨⟨⟨hc,hc1⟩,hc2⟩,hc3⟩:=hc;have hc1:=Nat.le_of_ble_eq_true hc1;have hc2:id<2000000:=Nat.le_of_ble_eq_true hc2;have hc3:0<k:=Nat.le_of_ble_eq_true hc3;obtain⟨c1,c2⟩:=jO hc
  have hne:id≠t:=fun e=>c1 .nils (by rw[e];exact hl)
  have hv:a.tmps.getD t undef=.slice none 0 0:=by
   have:=(h.slots t _ hl).1;generalize a.tmps.getD t undef=v at this;cases this;rfl
  have h1:=h.claim (t:=id) (x:=.obj e k []) c2 hc2 none 0 0 (fun g e=>by cases e) ⟨hc3,by simp,by simp[setR],.inl ⟨rfl,by simp[Ji]⟩⟩;have h2:=h1.setVal (t:=t) (x:=.sb id e k 0 0) ⟨by simp,.inl ⟨rfl,none,hv⟩⟩;exact⟨_,h2.looks fun s=>QQ hne env s⟩
 ·exact⟨O,h⟩
theorem CellR.killC {O':Gh} {M':Mem} {s t:Nat} {c:AV} {u:Value} (h:CellR O M t c u) (hs:Sub M M') (he:O'.o true t=O.o true t) (hr:∀ id,c.cref id=true→id≠s→Gh.Eq1 O O' id):CellR O' M' t (killC s c) u:=by
 unfold AM.killC
 split
 ·exact h.one
 ·rename_i hc
  exact h.mono hs (fun _=>he) fun id hid=>hr id hid fun e=>by subst e;rw[hc]at hid;cases hid
theorem CellR.renC {O':Gh} {s s' t:Nat} {c:AV} {u:Value} (h:CellR O M t c u) (h1:O'.o true s'=O.o true s) (h2:O'.len s'=O.len s) (h3:O'.siz s'=O.siz s) (he:O'.o true t=O.o true t)
  (hr:∀ id,c.cref id=true→id≠s→Gh.Eq1 O O' id):CellR O' M t (renC s s' c) u:=by
 unfold AM.renC
 split
 ·rename_i id e k off m
  split
  ·rename_i hb;have:=Nat.eq_of_beq_eq_true hb;subst this;exact SbOk.ren h h1 h2 h3
  ·rename_i hb
   exact h.mono (Sub.refl M) (fun e=>by cases e) fun id' hid=>by
    have e1:id=id':=Nat.eq_of_beq_eq_true hid;subst e1
    exact hr id hid fun e=>by subst e;simp at hb
 ·exact h.killC (Sub.refl M) he hr
theorem CellR.thawC {O':Gh} {M':Mem} {s t k:Nat} {xs:List AV} {c:AV} {u:Value} (h:CellR O M t c u) (hs:Sub M M') (snap:∀ (e' off m:Nat) (v:Value),SbOk O s k off m v→R M' (.lst e' k none (snapA off m xs)) v) (he:O'.o true t=O.o true t)
  (hr:∀ id,c.cref id=true→id≠s→Gh.Eq1 O O' id):CellR O' M' t (thawC s k xs c) u:=by
 unfold AM.thawC
 split
 ·rename_i id e k' off m
  split
  ·rename_i hb;have:=Nat.eq_of_beq_eq_true hb;subst this
   split
   ·rename_i hk;have:=Nat.eq_of_beq_eq_true hk;subst this;exact⟨rfl,snap e off m u h⟩
   ·exact h.one
  ·rename_i hb
   exact h.mono hs (fun e=>by cases e) fun id' hid=>by
    have e1:id=id':=Nat.eq_of_beq_eq_true hid;subst e1
    exact hr id hid fun e=>by subst e;simp at hb
 ·exact h.killC hs he hr
theorem CellR.thawCM {O':Gh} {M':Mem} {s t:Nat} {ks vs:List AV} {c:AV} {u:Value} (h:CellR O M t c u) (hs:Sub M M') (snap:∀ g,O true s=some g→R M' (.mpv ks vs) (.map (some g))) (he:O'.o true t=O.o true t)
  (hr:∀ id,c.cref id=true→id≠s→Gh.Eq1 O O' id):CellR O' M' t (thawCM s ks vs c) u:=by
 unfold AM.thawCM
 split
 ·rename_i kd id
  split
  ·rename_i hb;have:=Nat.eq_of_beq_eq_true hb;subst this
   split
   ·obtain⟨_,g,h1,h2⟩:=h;rw[h2];exact⟨rfl,snap g h1⟩
   ·exact h.one
  ·rename_i hb
   exact h.mono hs (fun e=>by cases e) fun id' hid=>by
    have e1:id=id':=Nat.eq_of_beq_eq_true hid;subst e1
    exact hr id hid fun e=>by subst e;simp at hb
 ·exact h.killC hs he hr
theorem CellR.move0 {t t':Nat} {c:AV} {u:Value} (h:CellR O M t c u) (hn:c≠.slf):CellR O M t' c u:=by
 cases c with
 | slf=>exact absurd rfl hn
 | _=>exact h
theorem Uf {x:AV} {v:Value} {s:Nat} (h:OwnV O M w x v):OwnV O M w (AM.killC s x) v:=by
 unfold AM.killC
 split
 ·trivial
 ·exact h
theorem Nu {s:Nat} {x:AV} (h:x≠.slf):AM.killC s x≠.slf:=by
 unfold AM.killC
 split
 ·exact fun e=>by cases e
 ·exact h
theorem qeI {x:AV} {v:Value} {s s':Nat} (h:OwnV O M w x v):OwnV O M w (AM.renC s s' x) v:=by
 unfold AM.renC
 split
 ·split <;> trivial
 ·exact Uf h
theorem qbM {s s':Nat} {x:AV} (h:x≠.slf):AM.renC s s' x≠.slf:=by
 unfold AM.renC
 split
 ·split <;> exact fun e=>by cases e
 ·exact Nu h
theorem qdi {x:AV} {v:Value} {s k:Nat} {xs:List AV} (h:OwnV O M w x v):OwnV O M w (AM.thawC s k xs x) v:=by
 unfold AM.thawC
 split
 ·split
  ·split <;> trivial
  ·trivial
 ·exact Uf h
theorem DM {s k:Nat} {xs:List AV} {x:AV} (h:x≠.slf):AM.thawC s k xs x≠.slf:=by
 unfold AM.thawC
 split
 ·split
  ·split <;> exact fun e=>by cases e
  ·exact fun e=>by cases e
 ·exact Nu h
theorem qbT {x:AV} {v:Value} {s:Nat} {ks vs:List AV} (h:OwnV O M w x v):OwnV O M w (AM.thawCM s ks vs x) v:=by
 unfold AM.thawCM
 split
 ·split
  ·split <;> trivial
  ·trivial
 ·exact Uf h
theorem Hm {s:Nat} {ks vs:List AV} {x:AV} (h:x≠.slf):AM.thawCM s ks vs x≠.slf:=by
 unfold AM.thawCM
 split
 ·split
  ·split <;> exact fun e=>by cases e
  ·exact fun e=>by cases e
 ·exact Nu h
theorem qbL (s s':Nat) (y:AV):(y.refs s=false∧renId s s' y=y)∨(∃ o,y=.pb s o∧renId s s' y=.pb s' o)∨(∃ e k off m,y=.sb s e k off m∧renId s s' y=.sb s' e k off m)∨(∃ k j o,y=.pe s k j o∧renId s s' y=.pe s' k j o)∨renId s s' y=.top∨(∃ cs,y=.bxg cs∧renId s s' y=.bxg (cs.map (renC s s')))∨(∃ cs,y=.agr cs∧renId s s' y=.agr (cs.map (renC s s'))):=by
 cases y with
 | pb t o =>
  by_cases h:Nat.beq t s=true
  ·have:=Nat.eq_of_beq_eq_true h;subst this;exact .inr (.inl ⟨o,rfl,by simp[renId]⟩)
  ·have h':Nat.beq t s=false:=Bool.eq_false_iff.2 h;exact .inl ⟨h',by simp only[renId];rw[h']⟩
 | sb t e k off m =>
  by_cases h:Nat.beq t s=true
  ·have:=Nat.eq_of_beq_eq_true h;subst this;exact .inr (.inr (.inl ⟨e,k,off,m,rfl,by simp[renId]⟩))
  ·have h':Nat.beq t s=false:=Bool.eq_false_iff.2 h;exact .inl ⟨h',by simp only[renId];rw[h']⟩
 | pe t k j o =>
  by_cases h:Nat.beq t s=true
  ·have:=Nat.eq_of_beq_eq_true h;subst this;exact .inr (.inr (.inr (.inl ⟨k,j,o,rfl,by simp[renId]⟩)))
  ·have h':Nat.beq t s=false:=Bool.eq_false_iff.2 h;exact .inl ⟨h',by simp only[renId];rw[h']⟩
 | tpr t e k off m rest =>
  by_cases h:Nat.beq t s=true
  ·exact .inr (.inr (.inr (.inr (.inl (by simp only[renId];rw[h])))))
  ·have h':Nat.beq t s=false:=Bool.eq_false_iff.2 h;exact .inl ⟨h',by simp only[renId];rw[h']⟩
 | mb kd t =>
  by_cases h:Nat.beq t s=true
  ·exact .inr (.inr (.inr (.inr (.inl (by simp only[renId];rw[h])))))
  ·have h':Nat.beq t s=false:=Bool.eq_false_iff.2 h;exact .inl ⟨h',by simp only[renId];rw[h']⟩
 | bxg cs=>exact .inr (.inr (.inr (.inr (.inr (.inl ⟨cs,rfl,rfl⟩)))))
 | agr cs=>exact .inr (.inr (.inr (.inr (.inr (.inr ⟨cs,rfl,rfl⟩)))))
 | clb f caps =>
  by_cases h:(AV.clb f caps).refs s=true
  ·exact .inr (.inr (.inr (.inr (.inl (by simp only[renId];rw[h])))))
  ·have h':(AV.clb f caps).refs s=false:=Bool.eq_false_iff.2 h;exact .inl ⟨h',by simp only[renId];rw[h']⟩
 | _=>exact .inl ⟨rfl,rfl⟩
theorem Xk {f:AV→AV} {s t:Nat} {x:AV} (h:look ((env.filter fun p=>!Nat.beq p.1 s).map fun p=>(p.1,f p.2)) t=some x):t≠s∧∃ y,look env t=some y∧f y=x:=by
 rw[XC f]at h
 cases hy:look (env.filter fun p=>!Nat.beq p.1 s) t with
 | none=>rw[hy]at h;cases h
 | some y =>
  rw[hy]at h;obtain⟨h1,h2⟩:=JP hy;exact⟨h1,y,h2,by simpa using h⟩
theorem Inv.renObj (h:Inv bs n M O env a w) (q:Nat×Nat):∃ O',Inv bs n M O' (renObj env q) a w:=by
 obtain⟨s,s'⟩:=q;unfold AM.renObj
 simp only
 split
 ·rename_i e k xs hl hc;simp only[Bool.and_eq_true]at hc;obtain⟨⟨⟨⟨hc,hc1⟩,hc2⟩,hc3⟩,hc4⟩:=hc;have hc2:s<2000000:=Nat.le_of_ble_eq_true hc2;have hc4:s'<2000000:=Nat.le_of_ble_eq_true hc4;obtain⟨c1,c2⟩:=jO hc
  have hne:s≠s':=fun e=>c1 _ (by rw[← e];exact hl)
  have h1:Inv bs n M (setO O true s none) ((env.filter fun p=>!Nat.beq p.1 s).map fun p=>(p.1,killRef s p.2)) a w:=h.forget (DK hc2);obtain⟨k0,k1,k2,k3⟩:=h.slots s _ hl
  have hS:ObjOk (setR (setO O true s none) s' (O.o true s) (O.len s) (O.siz s)) M w s' e k xs:=by
   refine⟨k0,k1,by simp[setR];exact k2,?_⟩;simp only[Ji,and_self,if_true]
   have:(setR (setO O true s none) s' (O.o true s) (O.len s) (O.siz s)).siz s'=O.siz s:=by simp[setR]
   rw[this];exact k3
  have h2:=h1.claim (t:=s') (x:=.obj e k xs) (fun t x hx=>by
   obtain⟨_,y,hy,hyx⟩:=Xk (f:=killRef s) hx;have:=c2 t y hy;rw[← hyx]
   cases hk:(killRef s y).refs s' with
   | false=>rfl
   | true=>rw[ZC hk]at this;cases this) hc4 (O.o true s) (O.len s) (O.siz s) (fun g hg=>⟨(h.own _ _ _ hg).1,(h.own _ _ _ hg).2,fun i c hh=>by
    exfalso;rw[jL]at hh
    split at hh
    ·cases hh
    ·rename_i hn
     exact hn (h.inj _ _ _ _ g hh hg)⟩) hS
  refine⟨_,⟨h2.size,h2.defers,h2.below,h2.hB,h2.cons,h2.ext,h2.old,h2.own,h2.inj,h2.fix,fun t x hx=>?_⟩⟩;rw[qS]at hx
  split at hx
  ·rename_i e1;subst e1;cases hx;exact hS
  ·rename_i hts;obtain⟨hts',y,hy,hyx⟩:=Xk hx;have hnr:=c2 t y hy
   rcases qbL s s' y with ⟨r1,r2⟩ | ⟨o,rfl,r2⟩ | ⟨e',k',off,m,rfl,r2⟩ | ⟨k',j,o,rfl,r2⟩ | r2 | ⟨cs,rfl,r2⟩ | ⟨cs,rfl,r2⟩
   ·rw[r2]at hyx;subst hyx
    have hEq:∀ c,c≠s→c≠s'→Gh.Eq1 O (setR (setO O true s none) s' (O.o true s) (O.len s) (O.siz s)) c:=fun c e1 e2=>by
     obtain⟨f1,f2,f3⟩:=jk (O:=O) (v:=none) e1;obtain⟨g1,g2,g3⟩:=YI (O:=setO O true s none) (v:=O.o true s) (len:=O.len s) (siz:=O.siz s) e2;exact⟨g1.trans f1,g2.trans f2,g3.trans f3⟩
    refine (h.slots t _ hy).change2 (Sub.refl M) (fun _=>hEq t hts' hts) (fun c hcc=>hEq c (fun e=>by rw[e,r1]at hcc;cases hcc) (fun e=>by rw[e,hnr]at hcc;cases hcc)) (fun g _ _=>⟨rfl,fun _ hm=>hm⟩) fun c g hg=>⟨by simp[Ji,jL,hg],rfl,fun _ hm=>hm⟩
   ·rw[r2]at hyx;subst hyx;obtain⟨g,p1,p2⟩:=h.slots t _ hy;exact⟨g,p1,by simp[Ji];exact p2⟩
   ·rw[r2]at hyx;subst hyx;exact SbOk.ren (h.slots t _ hy) (by simp[Ji]) (by simp[setR]) (by simp[setR])
   ·rw[r2]at hyx;subst hyx;obtain⟨g,p1,p2⟩:=h.slots t _ hy;exact⟨g,p1,by simp[Ji];exact p2⟩
   ·rw[r2]at hyx;subst hyx;exact⟨.top _,trivial⟩
   ·rw[r2]at hyx;subst hyx;obtain⟨g,cur,el,p1,p2,p3,p4,p5,p6⟩:=h.slots t _ hy
    have hOt:(setR (setO O true s none) s' (O.o true s) (O.len s) (O.siz s)).o true t=O.o true t:=by
     simp only[Ji,jL];rw[if_neg (fun e1=>hts e1.2),if_neg (fun e1=>hts' e1.2)]
    refine⟨g,cur,el,p1,by rw[hOt];exact p2,p3,by simpa using p4,p5,fun j c u hc hu=>?_⟩;rw[List.getElem?_map]at hc
    cases hz:cs[j]? with
    | none=>rw[hz]at hc;cases hc
    | some z =>
     rw[hz]at hc;cases hc
     refine (p6 j z u hz hu).renC (by simp[Ji]) (by simp[setR]) (by simp[setR]) hOt fun id hid hne=>?_
     have hne':id≠s':=fun e1=>by
      subst e1
      have:(AV.bxg cs).refs id=true:=by
       simp only[AV.refs,List.any_eq_true];exact⟨z,List.mem_of_getElem? hz,hid⟩
      rw[hnr]at this;cases this
     obtain⟨f1,f2,f3⟩:=jk (O:=O) (v:=none) hne;obtain⟨g1,g2,g3⟩:=YI (O:=setO O true s none) (v:=O.o true s) (len:=O.len s) (siz:=O.siz s) hne';exact⟨g1.trans f1,g2.trans f2,g3.trans f3⟩
   ·rw[r2]at hyx;subst hyx;obtain⟨us,p1,p2,p3⟩:=h.slots t _ hy;refine⟨us,p1,by simpa using p2,fun j c u hc hu=>?_⟩;rw[List.getElem?_map]at hc
    cases hz:cs[j]? with
    | none=>rw[hz]at hc;cases hc
    | some z =>
     rw[hz]at hc;cases hc;obtain⟨q1,q2,q3⟩:=p3 j z u hz hu
     have hO0:∀ c,(setR (setO O true s none) s' (O.o true s) (O.len s) (O.siz s)).o false c=O.o false c:=fun c=>by simp[Ji,jL]
     refine⟨?_,qeI (q2.change fun c g _ hg=>⟨by rw[hO0];exact hg,rfl,fun _ hm=>hm⟩),qbM q3⟩
     refine (CellR.move0 q1 q3).renC (t:=s+s'+1) (by simp[Ji]) (by simp[setR]) (by simp[setR]) (by
      simp only[Ji,jL]
      rw[if_neg (fun e=>by have:=e.2;omega),if_neg (fun e=>by have:=e.2;omega)]) (fun id hid hne=>?_) |>.move0 (qbM q3)
     have hne':id≠s':=fun e1=>by
      subst e1
      have:(AV.agr cs).refs id=true:=by
       simp only[AV.refs,List.any_eq_true];exact⟨z,List.mem_of_getElem? hz,hid⟩
      rw[hnr]at this;cases this
     obtain⟨f1,f2,f3⟩:=jk (O:=O) (v:=none) hne;obtain⟨g1,g2,g3⟩:=YI (O:=setO O true s none) (v:=O.o true s) (len:=O.len s) (siz:=O.siz s) hne';exact⟨g1.trans f1,g2.trans f2,g3.trans f3⟩
 ·exact⟨O,h⟩
theorem qdz {k m:Nat} {xs:List AV} (h:∀ x,x∈xs→x.cells.length=k):flat (snapA 0 m xs)=(flat xs).take (m * k):=by
 unfold snapA;rw[List.drop_zero,Xu m h]
theorem Inv.trimObj (h:Inv bs n M O env a w) (q:Nat×Nat):∃ O',Inv bs n M O' (trimObj env q) a w:=by
 obtain⟨t,s⟩:=q;unfold AM.trimObj
 simp only
 split
 ·rename_i id e k m e' k' xs hlt hls hus
  split
  ·rename_i hc;simp only[Bool.and_eq_true]at hc;obtain⟨hc1,hc2⟩:=hc;have hc1:=Nat.eq_of_beq_eq_true hc1;have hc2:=Nat.eq_of_beq_eq_true hc2;subst hc1;subst hc2;obtain⟨k0,k1,k2,k3⟩:=h.slots id _ hls;obtain⟨q1,q2⟩:=h.slots t _ hlt
   have hlen:(snapA 0 m xs).length=m:=by unfold snapA;simp;omega
   have hne:id≠t:=fun e1=>by rw[e1,hlt]at hls;cases hls
   have hty:∀ x,x∈xs→x.cells.length=k:=fun x hx=>(k1 x hx).1
   have hsub:∀ x,x∈snapA 0 m xs→x∈xs:=fun x hx=>by
    unfold snapA at hx;exact List.mem_of_mem_drop (List.mem_of_mem_take hx)
   obtain⟨O1,hO1⟩:∃ O1,O1=setR O id (O.o true id) m (O.siz id):=⟨_,rfl⟩
   have hO:∀ i c,O1.o i c=O.o i c:=by
    intro i c;rw[hO1,Ji]
    split
    ·rename_i hh;rw[hh.1,hh.2]
    ·rfl
   have hL:O1.len id=m:=by rw[hO1];simp[setR]
   have hZ:∀ c,O1.siz c=O.siz c:=by
    intro c;rw[hO1];simp only[setR]
    split
    ·rename_i hh;rw[hh]
    ·rfl
   have hEq:∀ c,c≠id→Gh.Eq1 O O1 c:=fun c hc=>by rw[hO1];exact YI hc
   refine⟨O1,h.size,h.defers,h.below,h.hB,h.cons,h.ext,h.old,fun i c g hg=>h.own i c g (by rw[← hO];exact hg),fun i i' c c' g h1 h2=>h.inj i i' c c' g (by rw[← hO];exact h1) (by rw[← hO];exact h2),⟨h.fix.1,fun c g1 g2=>?_⟩,fun r x hx=>?_⟩
   ·obtain⟨e1,e2,e3⟩:=h.fix.2 c g1 g2
    obtain⟨f1,f2,f3⟩:=hEq c fun e=>XW hus ⟨by omega,by omega⟩
    exact⟨f1.trans e1,f2.trans e2,f3.trans e3⟩
   ·rw[qS]at hx
    split at hx
    ·rename_i e1;subst e1;cases hx;refine⟨k0,fun x hx=>k1 x (hsub x hx),by rw[hL,hlen],?_⟩;rw[hO,hZ]
     rcases k3 with ⟨rfl,hn⟩ | ⟨g,cur,f1,f2,f3,f4,f5,f6⟩
     ·exact .inl ⟨by simp[snapA],hn⟩
     ·refine .inr ⟨g,cur,f1,f2,f3,?_,f5,fun j c u hc hu=>?_⟩
      ·rw[hlen];have:m * k≤xs.length * k:=Nat.mul_le_mul_right _ (by omega);omega
      ·rw[qdz hty,List.getElem?_take]at hc
       split at hc
       ·exact f6 j c u hc hu
       ·cases hc
    ·rename_i hr;rw[qS]at hx
     split at hx
     ·rename_i e1;subst e1;cases hx;refine⟨by rw[hL,hlen];omega,?_⟩;rw[hlen,hO,hZ];exact q2
     ·obtain⟨hrs,y,hy,rfl⟩:=Xt hx;have hnr:=Yi id y
      ·refine ((h.slots r _ hy).kill id).change2 (Sub.refl M) (fun _=>hEq r hrs) (fun c hcc=>hEq c fun e=>by rw[e,hnr]at hcc;cases hcc) (fun g _ _=>⟨rfl,fun _ hm=>hm⟩) fun c g hg=>⟨by rw[hO];exact hg,rfl,fun _ hm=>hm⟩
  ·exact⟨O,h⟩
 ·exact⟨O,h⟩
theorem qcK (s k:Nat) (xs:List AV) (y:AV):thaw s k xs y=.top∨(y.refs s=false∧thaw s k xs y=y)∨(∃ e off m,y=.sb s e k off m∧thaw s k xs y=.lst e k none (snapA off m xs))∨(∃ cs,y=.bxg cs∧thaw s k xs y=.bxg (cs.map (thawC s k xs)))∨∃ cs,y=.agr cs∧thaw s k xs y=.agr (cs.map (thawC s k xs)):=by
 cases y with
 | sb id e k' off m =>
  simp only[thaw]
  by_cases h:Nat.beq id s=true
  ·rw[h];have:=Nat.eq_of_beq_eq_true h;subst this
   by_cases h2:Nat.beq k' k=true
   ·have:=Nat.eq_of_beq_eq_true h2;subst this;exact .inr (.inr (.inl ⟨e,off,m,rfl,by simp⟩))
   ·have h2':Nat.beq k' k=false:=Bool.eq_false_iff.2 h2;exact .inl (by rw[h2'])
  ·have h':Nat.beq id s=false:=Bool.eq_false_iff.2 h;exact .inr (.inl ⟨h',by rw[h']⟩)
 | pe id k' j o =>
  simp only[thaw]
  by_cases h:Nat.beq id s=true
  ·exact .inl (by rw[h])
  ·have h':Nat.beq id s=false:=Bool.eq_false_iff.2 h;exact .inr (.inl ⟨h',by rw[h']⟩)
 | pb id o =>
  simp only[thaw]
  by_cases h:Nat.beq id s=true
  ·exact .inl (by rw[h])
  ·have h':Nat.beq id s=false:=Bool.eq_false_iff.2 h;exact .inr (.inl ⟨h',by rw[h']⟩)
 | tpr id e k' off m rest =>
  simp only[thaw]
  by_cases h:Nat.beq id s=true
  ·exact .inl (by rw[h])
  ·have h':Nat.beq id s=false:=Bool.eq_false_iff.2 h;exact .inr (.inl ⟨h',by rw[h']⟩)
 | mb kd id =>
  simp only[thaw]
  by_cases h:Nat.beq id s=true
  ·exact .inl (by rw[h])
  ·have h':Nat.beq id s=false:=Bool.eq_false_iff.2 h;exact .inr (.inl ⟨h',by rw[h']⟩)
 | bxg cs=>exact .inr (.inr (.inr (.inl ⟨cs,rfl,rfl⟩)))
 | agr cs=>exact .inr (.inr (.inr (.inr ⟨cs,rfl,rfl⟩)))
 | clb f caps =>
  simp only[thaw]
  by_cases h:(AV.clb f caps).refs s=true
  ·exact .inl (by rw[h])
  ·have h':(AV.clb f caps).refs s=false:=Bool.eq_false_iff.2 h;exact .inr (.inl ⟨h',by rw[h']⟩)
 | _=>exact .inr (.inl ⟨rfl,rfl⟩)
theorem Inv.freezeObj (h:Inv bs n M O env a w) {s e k:Nat} {xs:List AV} (hl:look env s=some (.obj e k xs)) (hus:usable s=true) :
  ∃ M' O',Inv bs n M' O' ((env.filter fun p=>!Nat.beq p.1 s).map fun p=>(p.1,thaw s k xs p.2)) a w:=by
 obtain⟨k0,k1,k2,k3⟩:=h.slots s _ hl
 have hty:∀ x,x∈xs→x.cells.length=k:=fun x hx=>(k1 x hx).1
 obtain⟨M',hsub,hM',hcell⟩:∃ M':Mem,Sub M M'∧(∀ b o,O.o true s≠some b→M' b o=M b o)∧Cons M' w∧∀ g,O.o true s=some g→∃ cur:Array Value,cur.size=O.siz s∧xs.length * k≤cur.size∧(∀ o,M' g o=cellsAt cur o)∧∀ (j:Nat) c u,(flat xs)[j]? = some c→cur[j]? = some u→R M c u:=by
  rcases k3 with ⟨_,hn⟩ | ⟨g,cur,f1,f2,f3,f4,f5,f6⟩
  ·exact⟨M,Sub.refl M,fun _ _ _=>rfl,h.cons,fun g hg=>by rw[hn]at hg;cases hg⟩
  ·refine⟨addRow M g cur,?_,fun b o hb=>?_,?_,fun g' hg=>?_⟩
   ·intro b o u hu;unfold addRow
    split
    ·rename_i e1;subst e1;rw[f5]at hu;cases hu
    ·exact hu
   ·unfold addRow;rw[if_neg fun e1=>hb (by rw[e1];exact f1)]
   ·intro b o u hu;unfold addRow at hu
    split at hu
    ·rename_i e1;subst e1;rw[mcRowAt f2];exact hu
    ·exact h.cons b o u hu
   ·have:g'=g:=by rw[f1]at hg;exact (Option.some.inj hg).symm
    subst this;exact⟨cur,f3,f4,fun o=>by simp[addRow],f6⟩
 obtain⟨hC,hcell⟩:=hcell
 have hOO:∀ i c g,(setO O true s none) i c=some g→O i c=some g∧¬ (i=true∧c=s):=by
  intro i c g hg;rw[jL]at hg
  split at hg
  ·cases hg
  ·rename_i hne;exact⟨hg,hne⟩
 refine⟨M',setO O true s none,h.size,h.defers,h.below,h.hB,hC,h.ext.trans hsub,fun b o hb=>?_,fun i c g hg=>h.own i c g (hOO i c g hg).1,fun i i' c c' g h1 h2=>h.inj i i' c c' g (hOO _ _ _ h1).1 (hOO _ _ _ h2).1,⟨h.fix.1,fun c g1 g2=>?_⟩,fun t x hx=>?_⟩
 ·rw[hM' b o fun hh=>(h.own _ _ _ hh).1 hb];exact h.old b o hb
 ·obtain⟨e1,e2,e3⟩:=h.fix.2 c g1 g2;exact⟨(jk (O:=O) (v:=none) (fun e=>XW hus ⟨by omega,by omega⟩:c≠s)).1.trans e1,e2,e3⟩
 ·obtain⟨hts,y,hy,hyx⟩:=Xk hx
  have snap:∀ (e' off m:Nat) (v:Value),SbOk O s k off m v→R M' (.lst e' k none (snapA off m xs)) v:=by
   intro e' off m v hq;obtain⟨q1,q2⟩:=hq
   have hlen:(snapA off m xs).length=m:=by unfold snapA;simp;omega
   have hsubx:∀ x,x∈snapA off m xs→x∈xs:=fun x hx=>List.mem_of_mem_drop (List.mem_of_mem_take hx)
   rcases q2 with ⟨rfl,ad,e1⟩ | ⟨g,cap,e1,r1,r2,r3,r4⟩
   ·rw[e1]
    have:snapA off 0 xs=[]:=by simp[snapA]
    rw[this]
    cases ad with
    | none=>exact .lstn _ _ _
    | some ad=>exact .lste _ _ _ _ _
   ·obtain⟨cur,c1,c2,c3,c4⟩:=hcell g r1
    have hj2:∀ (j:Nat) c,(flat (snapA off m xs))[j]? = some c→(flat xs)[off * k+j]? = some c:=by
     intro j c hj;unfold snapA at hj;rw[Xu (k:=k) m (fun y hy=>hty y (List.mem_of_mem_drop hy)),Xv off hty,List.getElem?_take]at hj
     split at hj
     ·rw[List.getElem?_drop]at hj;exact hj
     ·cases hj
    have hcur:∀ (j:Nat) c,(flat (snapA off m xs))[j]? = some c→cur[off * k+j]? = some (cur.getD (off * k+j) undef):=by
     intro j c hj;have hlt:=(List.getElem?_eq_some_iff.1 (hj2 j c hj)).1;rw[qW hty]at hlt
     have:off * k+j<cur.size:=by omega
     simp[this]
    rw[e1];have:=R.lst (M:=M') (e:=e') (k:=k) (l:=none) (xs:=snapA off m xs) (b:=g) (off:=off * k) (cap:=cap) (fun j=>cur.getD (off * k+j) undef) (by rw[hlen];exact r3) (fun y hy=>hty y (hsubx y hy)) (fun y hy=>(k1 y (hsubx y hy)).2)
     (fun j c hj=>by rw[c3];exact Jd (hcur j c hj) (QR ((c4 _ _ _ (hj2 j c hj) (hcur j c hj)).one (Zp (fun y hy=>(k1 y (hsubx y hy)).2) hj)))) (fun j c hj=>(c4 _ _ _ (hj2 j c hj) (hcur j c hj)).mono hsub)
    rw[hlen]at this;exact this
  have hrow:∀ i c g,O i c=some g→¬ (i=true∧c=s)→∀ o,M g o=none→M' g o=none:=by
   intro i c g hg hne o hm;rw[hM' g o fun e1=>hne (h.inj _ _ _ _ g hg e1)];exact hm
  rcases qcK s k xs y with hh | ⟨hnr,hh⟩ | ⟨e',off,m,rfl,hh⟩ | ⟨cs,rfl,hh⟩ | ⟨cs,rfl,hh⟩
  ·rw[hh]at hyx;subst hyx;exact⟨.top _,trivial⟩
  ·rw[hh]at hyx;subst hyx
   refine (h.slots t _ hy).change2 hsub (fun _=>jk hts) (fun c hcc=>jk fun e=>by rw[e,hnr]at hcc;cases hcc) (fun g _ hg=>⟨rfl,hrow true t g hg fun e=>hts e.2⟩) fun c g hg=>⟨by simp[jL,hg],rfl,hrow false c g hg fun e=>by cases e.1⟩
  ·rw[hh]at hyx;subst hyx;exact⟨snap e' off m _ (h.slots t _ hy),trivial⟩
  ·rw[hh]at hyx;subst hyx;obtain⟨g,cur,el,p1,p2,p3,p4,p5,p6⟩:=h.slots t _ hy;have hOt:=(jk (O:=O) (v:=none) hts).1;refine⟨g,cur,el,p1,by rw[hOt];exact p2,p3,by simpa using p4,fun o=>hrow true t g p2 (fun e=>hts e.2) o (p5 o),fun j c u hc hu=>?_⟩;rw[List.getElem?_map]at hc
   cases hz:cs[j]? with
   | none=>rw[hz]at hc;cases hc
   | some z =>
    rw[hz]at hc;cases hc
    exact (p6 j z u hz hu).thawC hsub snap hOt fun id _ hne=>jk hne
  ·rw[hh]at hyx;subst hyx;obtain⟨us,p1,p2,p3⟩:=h.slots t _ hy;refine⟨us,p1,by simpa using p2,fun j c u hc hu=>?_⟩;rw[List.getElem?_map]at hc
   cases hz:cs[j]? with
   | none=>rw[hz]at hc;cases hc
   | some z =>
    rw[hz]at hc;cases hc;obtain⟨q1,q2,q3⟩:=p3 j z u hz hu;refine⟨?_,qdi (q2.change fun c g _ hg=>⟨by simp[jL,hg],rfl,hrow false c g hg fun e=>by cases e.1⟩),DM q3⟩;exact ((CellR.move0 (t':=s+1) q1 q3).thawC hsub snap (jk (O:=O) (v:=none) (by omega)).1 fun id _ hne=>jk hne).move0 (DM q3)
theorem qbw (s:Nat) (ks vs:List AV) (y:AV):thawM s ks vs y=.top∨(y.refs s=false∧thawM s ks vs y=y)∨(y=.mb 0 s∧thawM s ks vs y=.mpv ks vs)∨(∃ cs,y=.bxg cs∧thawM s ks vs y=.bxg (cs.map (thawCM s ks vs)))∨∃ cs,y=.agr cs∧thawM s ks vs y=.agr (cs.map (thawCM s ks vs)):=by
 have other:(∀ cs,y≠.bxg cs)→(∀ cs,y≠.agr cs)→thawM s ks vs y=killRef s y→thawM s ks vs y=.top∨(y.refs s=false∧thawM s ks vs y=y)∨(y=.mb 0 s∧thawM s ks vs y=.mpv ks vs)∨(∃ cs,y=.bxg cs∧thawM s ks vs y=.bxg (cs.map (thawCM s ks vs)))∨∃ cs,y=.agr cs∧thawM s ks vs y=.agr (cs.map (thawCM s ks vs)):=by
  intro hb hg h;rw[h];unfold killRef
  cases hr:y.refs s with
  | true =>
   cases y with
   | bxg cs=>exact absurd rfl (hb cs)
   | agr cs=>exact absurd rfl (hg cs)
   | _=>exact .inl rfl
  | false=>exact .inr (.inl ⟨rfl,rfl⟩)
 cases y with
 | mb kd id =>
  simp only[thawM]
  by_cases h:Nat.beq id s=true
  ·rw[h];have:=Nat.eq_of_beq_eq_true h;subst this
   cases kd with
   | zero=>exact .inr (.inr (.inl ⟨rfl,rfl⟩))
   | succ kd=>exact .inl rfl
  ·have h':Nat.beq id s=false:=Bool.eq_false_iff.2 h;exact .inr (.inl ⟨h',by rw[h']⟩)
 | bxg cs=>exact .inr (.inr (.inr (.inl ⟨cs,rfl,rfl⟩)))
 | agr cs=>exact .inr (.inr (.inr (.inr ⟨cs,rfl,rfl⟩)))
 | _=>exact other (fun cs e=>by cases e) (fun cs e=>by cases e) rfl
theorem Inv.freezeMap (h:Inv bs n M O env a w) {s:Nat} {ks vs:List AV} (hl:look env s=some (.hob 0 ks vs)) (hus:usable s=true) :
  ∃ M' O',Inv bs n M' O' ((env.filter fun p=>!Nat.beq p.1 s).map fun p=>(p.1,thawM s ks vs p.2)) a w:=by
 obtain⟨g,k1,k2,es,clock,k3,E⟩:=h.slots s _ hl
 obtain⟨M',hM⟩:∃ M':Mem,M'=fun b o=>if b=g then mc w g o else M b o:=⟨_,rfl⟩
 have hsub:Sub M M':=by
  intro b o u hu;rw[hM]
  simp only
  split
  ·rename_i e1;subst e1;rw[k2]at hu;cases hu
  ·exact hu
 have hM':∀ b o,b≠g→M' b o=M b o:=fun b o hb=>by rw[hM];simp only;rw[if_neg hb]
 have hMg:M' g 0=some (mapCell es clock):=by rw[hM];simp only[if_true];exact Zj k3
 have hC:Cons M' w:=by
  intro b o u hu;rw[hM]at hu;simp only at hu
  split at hu
  ·rename_i e1;subst e1;exact hu
  ·exact h.cons b o u hu
 have hOO:∀ i c g,(setO O true s none) i c=some g→O i c=some g∧¬ (i=true∧c=s):=by
  intro i c g hg;rw[jL]at hg
  split at hg
  ·cases hg
  ·rename_i hne;exact⟨hg,hne⟩
 refine⟨M',setO O true s none,h.size,h.defers,h.below,h.hB,hC,h.ext.trans hsub,fun b o hb=>?_,fun i c g hg=>h.own i c g (hOO i c g hg).1,fun i i' c c' g h1 h2=>h.inj i i' c c' g (hOO _ _ _ h1).1 (hOO _ _ _ h2).1,⟨h.fix.1,fun c g1 g2=>?_⟩,fun t x hx=>?_⟩
 ·rw[hM' b o fun e1=>(h.own _ _ _ k1).1 (by rw[← e1];exact hb)];exact h.old b o hb
 ·obtain⟨e1,e2,e3⟩:=h.fix.2 c g1 g2;exact⟨(jk (O:=O) (v:=none) (fun e=>XW hus ⟨by omega,by omega⟩:c≠s)).1.trans e1,e2,e3⟩
 ·obtain⟨hts,y,hy,hyx⟩:=Xk hx
  have hrow:∀ i c g',O i c=some g'→¬ (i=true∧c=s)→∀ o,M g' o=none→M' g' o=none:=by
   intro i c g' hg hne o hm;rw[hM' g' o fun e1=>hne (h.inj _ _ _ _ g' hg (by rw[e1];exact k1))];exact hm
  have snap:∀ g',O true s=some g'→R M' (.mpv ks vs) (.map (some g')):=by
   intro g' q1
   have:g'=g:=by rw[k1]at q1;exact (Option.some.inj q1).symm
   subst this;obtain⟨E1,E2,E3,E4,E5,E6⟩:=E
   exact .mpv hMg E1 E2 E3 E4 E5 fun j v e hv he=>(E6 j v e hv he).mono hsub
  rcases qbw s ks vs y with hh | ⟨hnr,hh⟩ | ⟨rfl,hh⟩ | ⟨cs,rfl,hh⟩ | ⟨cs,rfl,hh⟩
  ·rw[hh]at hyx;subst hyx;exact⟨.top _,trivial⟩
  ·rw[hh]at hyx;subst hyx
   refine (h.slots t _ hy).change2 hsub (fun _=>jk hts) (fun c hcc=>jk fun e=>by rw[e,hnr]at hcc;cases hcc) (fun g _ hg=>⟨rfl,hrow true t g hg fun e=>hts e.2⟩) fun c g hg=>⟨by simp[jL,hg],rfl,hrow false c g hg fun e=>by cases e.1⟩
  ·rw[hh]at hyx;subst hyx;obtain⟨g',q1,q2⟩:=h.slots t _ hy
   have:g'=g:=by rw[k1]at q1;exact (Option.some.inj q1).symm
   subst this;refine⟨?_,trivial⟩;rw[q2];exact snap g' k1
  ·rw[hh]at hyx;subst hyx;obtain⟨g1,cur,el,p1,p2,p3,p4,p5,p6⟩:=h.slots t _ hy;have hOt:=(jk (O:=O) (v:=none) hts).1;refine⟨g1,cur,el,p1,by rw[hOt];exact p2,p3,by simpa using p4,fun o=>hrow true t g1 p2 (fun e=>hts e.2) o (p5 o),fun j c u hc hu=>?_⟩;rw[List.getElem?_map]at hc
   cases hz:cs[j]? with
   | none=>rw[hz]at hc;cases hc
   | some z =>
    rw[hz]at hc;cases hc
    exact (p6 j z u hz hu).thawCM hsub snap hOt fun id _ hne=>jk hne
  ·rw[hh]at hyx;subst hyx;obtain⟨us,p1,p2,p3⟩:=h.slots t _ hy;refine⟨us,p1,by simpa using p2,fun j c u hc hu=>?_⟩;rw[List.getElem?_map]at hc
   cases hz:cs[j]? with
   | none=>rw[hz]at hc;cases hc
   | some z =>
    rw[hz]at hc;cases hc;obtain⟨q1,q2,q3⟩:=p3 j z u hz hu;refine⟨?_,qbT (q2.change fun c g _ hg=>⟨by simp[jL,hg],rfl,hrow false c g hg fun e=>by cases e.1⟩),Hm q3⟩;exact ((CellR.move0 (t':=s+1) q1 q3).thawCM hsub snap (jk (O:=O) (v:=none) (by omega)).1 fun id _ hne=>jk hne).move0 (Hm q3)
theorem Inv.nilCell (h:Inv bs n M O env a w) (s off e k id:Nat):∃ O',Inv bs n M O' (nilCell env s off e k id) a w:=by
 unfold AM.nilCell
 split
 ·exact⟨O,h⟩
 rename_i hc;simp only[Bool.and_eq_true,Bool.not_eq_true']at hc;obtain⟨⟨⟨⟨hc,hc1⟩,hc2⟩,hc3⟩,hc4⟩:=hc;have hc2:id<2000000:=Nat.le_of_ble_eq_true hc2;have hc3:0<k:=Nat.le_of_ble_eq_true hc3;obtain⟨c1,c2⟩:=jO hc
 have hne:id≠s:=fun e=>by subst e;simp at hc4
 have h1:=h.claim (t:=id) (x:=.obj e k []) c2 hc2 none 0 0 (fun g e=>by cases e) ⟨hc3,by simp,by simp[setR],.inl ⟨rfl,by simp[Ji]⟩⟩
 have key:∀ (cs:List AV) (g:Nat) (cur:Array Value) (el:Nat),(a.tmps.getD s undef=.pointer (some ⟨g,0,none⟩)∨1000000≤s)→O true s=some g→w.heap[g]? = some (.cells cur el (0,0))→cur.size=cs.length→(∀ o,M g o=none) →
   (∀ (j:Nat) c u,cs[j]? = some c→cur[j]? = some u→CellR O M s c u)→(∀ c,c∈cs→c.cref id=false)→(∀ u,cur[off]? = some u→u=.slice none 0 0) →
   ∃ O',Inv bs n M O' (ins id (.obj e k []) (ins s (.bxg (cs.set off (.sb id e k 0 0))) env)) a w:=by
  intro cs g cur el p1 p2 p3 p4 p5 p6 hid hnil
  have hOs:(setR O id none 0 0).o true s=O.o true s:=by rw[Ji,if_neg (fun e=>hne e.2.symm)]
  have h2:=h1.setVal (t:=s) (x:=.bxg (cs.set off (.sb id e k 0 0))) ⟨g,cur,el,p1,by rw[hOs];exact p2,p3,by simpa using p4,p5,fun j c u hcj hu=>by
   rw[List.getElem?_set]at hcj
   split at hcj
   ·rename_i e1;subst e1
    split at hcj
    ·cases hcj;exact⟨by simp,.inl ⟨rfl,none,hnil u hu⟩⟩
    ·cases hcj
   ·refine (p6 j c u hcj hu).mono (Sub.refl M) (fun _=>hOs) fun id' hid'=>YI fun e1=>?_
    subst e1;rw[hid c (List.mem_of_getElem? hcj)]at hid'
    cases hid'⟩
  exact⟨_,h2.looks fun r=>QQ hne env r⟩
 split
 ·rename_i cs hl
  split
  case h_2=>exact⟨O,h⟩
  rename_i hoff;obtain⟨g,cur,el,p1,p2,p3,p4,p5,p6⟩:=h.slots s _ hl
  refine key (cs.map AV.strip) g cur el p1 p2 p3 (by simpa using p4) p5 (fun j c u hcj hu=>?_) (fun c hcc=>?_) fun u hu=>?_
  ·rw[List.getElem?_map]at hcj
   cases hz:cs[j]? with
   | none=>rw[hz]at hcj;cases hcj
   | some z =>
    rw[hz]at hcj;cases hcj;obtain⟨q1,q2,_⟩:=p6 j z u hz hu;exact CellR.of_one q1 q2
  ·obtain⟨z,hz,rfl⟩:=List.mem_map.1 hcc;obtain⟨j,hj⟩:=List.mem_iff_getElem?.1 hz
   have hjlt:j<cur.size:=by rw[p4];exact (List.getElem?_eq_some_iff.1 hj).1
   have q1:=(p6 j z cur[j] hj (by simp[hjlt])).1
   cases z <;> first | rfl | cases q1
  ·have q:=(p6 off _ u hoff hu).2.1;cases q;rfl
 ·rename_i cs hl
  split
  case h_2=>exact⟨O,h⟩
  rename_i hoff;obtain⟨g,cur,el,p1,p2,p3,p4,p5,p6⟩:=h.slots s _ hl;have hnr:=c2 s _ hl;simp only[AV.refs,List.any_eq_false]at hnr
  refine key cs g cur el p1 p2 p3 p4 p5 p6 (fun c hcc=>by simpa using hnr c hcc) fun u hu=>?_
  have q:=(p6 off _ u hoff hu).2;cases q;rfl
 ·exact⟨O,h⟩
theorem Inv.slfCell (h:Inv bs n M O env a w) (s off:Nat):Inv bs n M O (slfCell env s off) a w:=by
 unfold AM.slfCell
 split
 case h_2=>exact h
 rename_i cs hl
 split
 case h_2=>exact h
 rename_i x hoff;obtain⟨g,cur,el,p1,p2,p3,p4,p5,p6⟩:=h.slots s _ hl;refine h.setVal ⟨g,cur,el,p1,p2,p3,by simpa using p4,p5,fun j c u hcj hu=>?_⟩;rw[List.getElem?_set]at hcj
 split at hcj
 ·rename_i e1;subst e1
  split at hcj
  ·cases hcj;have q:=(p6 _ _ u hoff hu).2;cases q;exact .inl rfl
  ·cases hcj
 ·exact p6 j c u hcj hu
theorem Inv.plainBox (h:Inv bs n M O env a w) (s:Nat):Inv bs n M O (Vg env s) a w:=by
 unfold AM.Vg
 split
 case h_2=>exact h
 rename_i cs hl
 split
 case h_2=>exact h
 rename_i hall;obtain⟨g,cur,el,p1,p2,p3,p4,p5,p6⟩:=h.slots s _ hl;refine h.setVal ⟨g,cur,el,p1,p2,p3,by simpa using p4,p5,fun j c u hcj hu=>?_⟩;rw[List.getElem?_map]at hcj
 cases hz:cs[j]? with
 | none=>rw[hz]at hcj;cases hcj
 | some z =>
  rw[hz]at hcj;cases hcj;have h1:=List.all_eq_true.1 hall z (List.mem_of_getElem? hz);exact⟨JS h1,(p6 j z u hz hu).to_r h1,QH _ _⟩
theorem Inv.arrBox (h:Inv bs n M O env a w) (d:Nat):∃ O',Inv bs n M O' (arrBox env d) a w:=by
 unfold AM.arrBox
 split
 ·rename_i cs hl hc;simp only[Bool.and_eq_true]at hc;obtain⟨hc,hd⟩:=hc;have hd:d<1000000:=Nat.le_of_ble_eq_true hd;obtain⟨c1,c2⟩:=jO hc;have h1:=h.forget (s:=d) (DK (by omega));obtain⟨g,cur,el,p1,p2,p3,p4,p5,p6⟩:=h.slots d _ hl;have p1:=p1.resolve_right (by omega)
  have hS:HobOk (setR (setO O true d none) (1000000+d) (some g) 0 0) M w (1000000+d) 3 [] (cs.map AV.strip):=by
   refine⟨g,by simp[Ji],p5,cur,el,p3,by simpa using p4,fun j c u hcj hu=>?_⟩;rw[List.getElem?_map]at hcj
   cases hz:cs[j]? with
   | none=>rw[hz]at hcj;cases hcj
   | some z =>
    rw[hz]at hcj;cases hcj;obtain⟨q1,q2,_⟩:=p6 j z u hz hu;exact⟨JS q1,Xq z,q2.strip⟩
  have h2:=h1.claim (t:=1000000+d) (x:=.hob 3 [] (cs.map AV.strip)) (fun t x hx=>by
   obtain⟨_,y,hy,hyx⟩:=Xt hx;have:=c2 t y hy;rw[hyx]
   cases hk:(killRef d y).refs (1000000+d) with
   | false=>rfl
   | true=>rw[ZC hk]at this;cases this) (by omega) (some g) 0 0 (fun g' e=>by
    cases e;refine⟨(h.own _ _ _ p2).1,(h.own _ _ _ p2).2,fun i c hh=>?_⟩;exfalso;rw[jL]at hh
    split at hh
    ·cases hh
    ·rename_i hn
     exact hn (h.inj _ _ _ _ g hh p2)) hS
  exact⟨_,h2.setVal (t:=d) (x:=.pb (1000000+d) 0) ⟨g,p1,by simp[Ji]⟩⟩
 ·exact⟨O,h⟩
end
end Go.AM
