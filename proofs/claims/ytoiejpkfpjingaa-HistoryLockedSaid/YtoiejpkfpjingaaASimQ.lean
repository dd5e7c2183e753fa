import Derived.Test.YtoiejpkfpjingaaASimT
import Derived.Test.YtoiejpkfpjingaaAWp
set_option linter.all false
set_option maxRecDepth 100000
open Nat renaming beq→A0, eq_of_beq_eq_true→A1, le_of_ble_eq_true→A5, le_refl→A8, ble_eq_true_of_le→B5
open Bool renaming and_eq_true→A2, not_eq_true'→A4, or_eq_true→B9, and_self→C9
open List renaming all_eq_true→A3, getElem?_map→A6, mem_of_getElem?→A7, getElem?_eq_getElem→A9, any_eq_true→B6, any_eq_false→B7, mem_of_mem_drop→C4, any_map→C5, filter_cons→C6, mem_of_mem_take→D0, mem_iff_getElem?→D1, getElem?_zipIdx→D2
open Go.Region renaming ready→B0, before→C7
open Option renaming map_some→C0, map_eq_some_iff→C2
open Array renaming replicate→C8
namespace Go.AM
open Go.RowKit
section
variable {bs:Base} {n:Nat} {M:Mem} {O:Gh} {env:Env} {a:Act} {w:World} {P:Program}
theorem Inv.setVal (h:Inv bs n M O env a w) {t:Nat} {x:AV} (hx:Sat O M w t x (a.tmps.getD t undef)):Inv bs n M O (ins t x env) a w:=by
 refine⟨h.size,h.defers,h.below,h.hB,h.cons,h.ext,h.old,h.own,h.inj,h.fix,fun s y hy=>?_⟩;rw[qR]at hy;split at hy
 ·rename_i e;subst e;cases hy;exact hx
 ·exact h.slots s y hy
theorem Db {s:Nat} (h:s<2000000):usable s=true:=by
 unfold usable;have:Nat.blt s 2000000=true:=B5 h;rw[this];rfl
theorem Inv.nilObj (h:Inv bs n M O env a w) (q:Nat×Nat×Nat×Nat):∃ O',Inv bs n M O' (nilObj env q) a w:=by
 obtain⟨t,e,k,id⟩:=q;unfold AM.nilObj;simp only;split
 ·rename_i hl hc;simp only[A2]at hc;obtain⟨⟨⟨hc,hc1⟩,hc2⟩,hc3⟩:=hc;have hc1:=A5 hc1;have hc2:id<2000000:=A5 hc2;have hc3:0<k:=A5 hc3;obtain⟨c1,c2⟩:=jU hc
  have hne:id≠t:=fun e=>c1 .nils (by rw[e];exact hl)
  have hv:a.tmps.getD t undef=.slice none 0 0:=by
   have:=(h.slots t _ hl).1;generalize a.tmps.getD t undef=v at this;cases this;rfl
  have h1:=h.claim (t:=id) (x:=.obj e k []) c2 hc2 none 0 0 (fun g e=>by cases e) ⟨hc3,by simp,by simp[setR],.inl ⟨rfl,by simp[Jp]⟩⟩;have h2:=h1.setVal (t:=t) (x:=.sb id e k 0 0) ⟨by simp,.inl ⟨rfl,none,hv⟩⟩;exact⟨_,h2.looks fun s=>QY hne env s⟩
 ·exact⟨O,h⟩
theorem CellR.killC {O':Gh} {M':Mem} {s t:Nat} {c:AV} {u:Value} (h:CellR O M t c u) (hs:Sub M M') (he:O'.o true t=O.o true t) (hr:∀ id,c.cref id=true→id≠s→Gh.Eq1 O O' id):CellR O' M' t (killC s c) u:=by
 unfold AM.killC;split
 ·exact h.one
 ·rename_i hc
  exact h.mono hs (fun _=>he) fun id hid=>hr id hid fun e=>by subst e;rw[hc]at hid;cases hid
theorem CellR.renC {O':Gh} {s s' t:Nat} {c:AV} {u:Value} (h:CellR O M t c u) (h1:O'.o true s'=O.o true s) (h2:O'.len s'=O.len s) (h3:O'.siz s'=O.siz s) (he:O'.o true t=O.o true t)
  (hr:∀ id,c.cref id=true→id≠s→Gh.Eq1 O O' id):CellR O' M t (renC s s' c) u:=by
 unfold AM.renC;split
 ·rename_i id e k off m;split
  ·rename_i hb;have:=A1 hb;subst this;exact SbOk.ren h h1 h2 h3
  ·rename_i hb
   exact h.mono (Sub.refl M) (fun e=>by cases e) fun id' hid=>by
    have e1:id=id':=A1 hid;subst e1
    exact hr id hid fun e=>by subst e;simp at hb
 ·exact h.killC (Sub.refl M) he hr
theorem CellR.thawC {O':Gh} {M':Mem} {s t k:Nat} {xs:List AV} {c:AV} {u:Value} (h:CellR O M t c u) (hs:Sub M M') (snap:∀ (e' off m:Nat) (v:Value),SbOk O s k off m v→R M' (.lst e' k none (snapA off m xs)) v) (he:O'.o true t=O.o true t)
  (hr:∀ id,c.cref id=true→id≠s→Gh.Eq1 O O' id):CellR O' M' t (thawC s k xs c) u:=by
 unfold AM.thawC;split
 ·rename_i id e k' off m;split
  ·rename_i hb;have:=A1 hb;subst this;split
   ·rename_i hk;have:=A1 hk;subst this;exact⟨rfl,snap e off m u h⟩
   ·exact h.one
  ·rename_i hb
   exact h.mono hs (fun e=>by cases e) fun id' hid=>by
    have e1:id=id':=A1 hid;subst e1
    exact hr id hid fun e=>by subst e;simp at hb
 ·exact h.killC hs he hr
theorem CellR.thawCM {O':Gh} {M':Mem} {s t:Nat} {ks vs:List AV} {c:AV} {u:Value} (h:CellR O M t c u) (hs:Sub M M') (snap:∀ g,O true s=some g→R M' (.mpv ks vs) (.map (some g))) (he:O'.o true t=O.o true t)
  (hr:∀ id,c.cref id=true→id≠s→Gh.Eq1 O O' id):CellR O' M' t (thawCM s ks vs c) u:=by
 unfold AM.thawCM;split
 ·rename_i kd id;split
  ·rename_i hb;have:=A1 hb;subst this;split
   ·obtain⟨_,g,h1,h2⟩:=h;rw[h2];exact⟨rfl,snap g h1⟩
   ·exact h.one
  ·rename_i hb
   exact h.mono hs (fun e=>by cases e) fun id' hid=>by
    have e1:id=id':=A1 hid;subst e1
    exact hr id hid fun e=>by subst e;simp at hb
 ·exact h.killC hs he hr
theorem CellR.move0 {t t':Nat} {c:AV} {u:Value} (h:CellR O M t c u) (hn:c≠.slf):CellR O M t' c u:=by
 cases c with
 | slf=>exact absurd rfl hn
 | _=>exact h
theorem Vl {x:AV} {v:Value} {s:Nat} (h:OwnV O M w x v):OwnV O M w (AM.killC s x) v:=by
 unfold AM.killC;split
 ·trivial
 ·exact h
theorem Uv {s:Nat} {x:AV} (h:x≠.slf):AM.killC s x≠.slf:=by
 unfold AM.killC;split
 ·exact fun e=>by cases e
 ·exact h
theorem qdy {x:AV} {v:Value} {s s':Nat} (h:OwnV O M w x v):OwnV O M w (AM.renC s s' x) v:=by
 unfold AM.renC;split
 ·split <;> trivial
 ·exact Vl h
theorem qbf {s s':Nat} {x:AV} (h:x≠.slf):AM.renC s s' x≠.slf:=by
 unfold AM.renC;split
 ·split <;> exact fun e=>by cases e
 ·exact Uv h
theorem qcq {x:AV} {v:Value} {s k:Nat} {xs:List AV} (h:OwnV O M w x v):OwnV O M w (AM.thawC s k xs x) v:=by
 unfold AM.thawC;split
 ·split
  ·split <;> trivial
  ·trivial
 ·exact Vl h
theorem Dc {s k:Nat} {xs:List AV} {x:AV} (h:x≠.slf):AM.thawC s k xs x≠.slf:=by
 unfold AM.thawC;split
 ·split
  ·split <;> exact fun e=>by cases e
  ·exact fun e=>by cases e
 ·exact Uv h
theorem qbs {x:AV} {v:Value} {s:Nat} {ks vs:List AV} (h:OwnV O M w x v):OwnV O M w (AM.thawCM s ks vs x) v:=by
 unfold AM.thawCM;split
 ·split
  ·split <;> trivial
  ·trivial
 ·exact Vl h
theorem Nu {s:Nat} {ks vs:List AV} {x:AV} (h:x≠.slf):AM.thawCM s ks vs x≠.slf:=by
 unfold AM.thawCM;split
 ·split
  ·split <;> exact fun e=>by cases e
  ·exact fun e=>by cases e
 ·exact Uv h
theorem qbe (s s':Nat) (y:AV):(y.refs s=false∧renId s s' y=y)∨(∃ o,y=.pb s o∧renId s s' y=.pb s' o)∨(∃ e k off m,y=.sb s e k off m∧renId s s' y=.sb s' e k off m)∨(∃ k j o,y=.pe s k j o∧renId s s' y=.pe s' k j o)∨renId s s' y=.top∨(∃ cs,y=.bxg cs∧renId s s' y=.bxg (cs.map (renC s s')))∨(∃ cs,y=.agr cs∧renId s s' y=.agr (cs.map (renC s s'))):=by
 cases y with
 | pb t o =>
  by_cases h:A0 t s=true
  ·have:=A1 h;subst this;exact .inr (.inl ⟨o,rfl,by simp[renId]⟩)
  ·have h':A0 t s=false:=Bool.eq_false_iff.2 h;exact .inl ⟨h',by simp only[renId];rw[h']⟩
 | sb t e k off m =>
  by_cases h:A0 t s=true
  ·have:=A1 h;subst this;exact .inr (.inr (.inl ⟨e,k,off,m,rfl,by simp[renId]⟩))
  ·have h':A0 t s=false:=Bool.eq_false_iff.2 h;exact .inl ⟨h',by simp only[renId];rw[h']⟩
 | pe t k j o =>
  by_cases h:A0 t s=true
  ·have:=A1 h;subst this;exact .inr (.inr (.inr (.inl ⟨k,j,o,rfl,by simp[renId]⟩)))
  ·have h':A0 t s=false:=Bool.eq_false_iff.2 h;exact .inl ⟨h',by simp only[renId];rw[h']⟩
 | tpr t e k off m rest =>
  by_cases h:A0 t s=true
  ·exact .inr (.inr (.inr (.inr (.inl (by simp only[renId];rw[h])))))
  ·have h':A0 t s=false:=Bool.eq_false_iff.2 h;exact .inl ⟨h',by simp only[renId];rw[h']⟩
 | mb kd t =>
  by_cases h:A0 t s=true
  ·exact .inr (.inr (.inr (.inr (.inl (by simp only[renId];rw[h])))))
  ·have h':A0 t s=false:=Bool.eq_false_iff.2 h;exact .inl ⟨h',by simp only[renId];rw[h']⟩
 | bxg cs=>exact .inr (.inr (.inr (.inr (.inr (.inl ⟨cs,rfl,rfl⟩)))))
 | agr cs=>exact .inr (.inr (.inr (.inr (.inr (.inr ⟨cs,rfl,rfl⟩)))))
 | clb f caps =>
  by_cases h:(AV.clb f caps).refs s=true
  ·exact .inr (.inr (.inr (.inr (.inl (by simp only[renId];rw[h])))))
  ·have h':(AV.clb f caps).refs s=false:=Bool.eq_false_iff.2 h;exact .inl ⟨h',by simp only[renId];rw[h']⟩
 | _=>exact .inl ⟨rfl,rfl⟩
theorem QP {f:AV→AV} {s t:Nat} {x:AV} (h:look ((env.filter fun p=>!A0 p.1 s).map fun p=>(p.1,f p.2)) t=some x):t≠s∧∃ y,look env t=some y∧f y=x:=by
 rw[QZ f]at h
 cases hy:look (env.filter fun p=>!A0 p.1 s) t with
 | none=>rw[hy]at h;cases h
 | some y =>
  rw[hy]at h;obtain⟨h1,h2⟩:=JH hy;exact⟨h1,y,h2,by simpa using h⟩
theorem Inv.renObj (h:Inv bs n M O env a w) (q:Nat×Nat):∃ O',Inv bs n M O' (renObj env q) a w:=by
 obtain⟨s,s'⟩:=q;unfold AM.renObj;simp only;split
 ·rename_i e k xs hl hc;simp only[A2]at hc;obtain⟨⟨⟨⟨hc,hc1⟩,hc2⟩,hc3⟩,hc4⟩:=hc;have hc2:s<2000000:=A5 hc2;have hc4:s'<2000000:=A5 hc4;obtain⟨c1,c2⟩:=jU hc
  have hne:s≠s':=fun e=>c1 _ (by rw[← e];exact hl)
  have h1:Inv bs n M (setO O true s none) ((env.filter fun p=>!A0 p.1 s).map fun p=>(p.1,killRef s p.2)) a w:=h.forget (Db hc2);obtain⟨k0,k1,k2,k3⟩:=h.slots s _ hl
  have hS:ObjOk (setR (setO O true s none) s' (O.o true s) (O.len s) (O.siz s)) M w s' e k xs:=by
   refine⟨k0,k1,by simp[setR];exact k2,?_⟩;simp only[Jp,and_self,if_true]
   have:(setR (setO O true s none) s' (O.o true s) (O.len s) (O.siz s)).siz s'=O.siz s:=by simp[setR]
   rw[this];exact k3
  have h2:=h1.claim (t:=s') (x:=.obj e k xs) (fun t x hx=>by
   obtain⟨_,y,hy,hyx⟩:=QP (f:=killRef s) hx;have:=c2 t y hy;rw[← hyx]
   cases hk:(killRef s y).refs s' with
   | false=>rfl
   | true=>rw[YW hk]at this;cases this) hc4 (O.o true s) (O.len s) (O.siz s) (fun g hg=>⟨(h.own _ _ _ hg).1,(h.own _ _ _ hg).2,fun i c hh=>by
    exfalso;rw[jC]at hh;split at hh
    ·cases hh
    ·rename_i hn
     exact hn (h.inj _ _ _ _ g hh hg)⟩) hS
  refine⟨_,⟨h2.size,h2.defers,h2.below,h2.hB,h2.cons,h2.ext,h2.old,h2.own,h2.inj,h2.fix,fun t x hx=>?_⟩⟩;rw[qR]at hx;split at hx
  ·rename_i e1;subst e1;cases hx;exact hS
  ·rename_i hts;obtain⟨hts',y,hy,hyx⟩:=QP hx;have hnr:=c2 t y hy
   rcases qbe s s' y with ⟨r1,r2⟩ | ⟨o,rfl,r2⟩ | ⟨e',k',off,m,rfl,r2⟩ | ⟨k',j,o,rfl,r2⟩ | r2 | ⟨cs,rfl,r2⟩ | ⟨cs,rfl,r2⟩
   ·rw[r2]at hyx;subst hyx
    have hEq:∀ c,c≠s→c≠s'→Gh.Eq1 O (setR (setO O true s none) s' (O.o true s) (O.len s) (O.siz s)) c:=fun c e1 e2=>by
     obtain⟨f1,f2,f3⟩:=jj (O:=O) (v:=none) e1;obtain⟨g1,g2,g3⟩:=YO (O:=setO O true s none) (v:=O.o true s) (len:=O.len s) (siz:=O.siz s) e2;exact⟨g1.trans f1,g2.trans f2,g3.trans f3⟩
    refine (h.slots t _ hy).change2 (Sub.refl M) (fun _=>hEq t hts' hts) (fun c hcc=>hEq c (fun e=>by rw[e,r1]at hcc;cases hcc) (fun e=>by rw[e,hnr]at hcc;cases hcc)) (fun g _ _=>⟨rfl,fun _ hm=>hm⟩) fun c g hg=>⟨by simp[Jp,jC,hg],rfl,fun _ hm=>hm⟩
   ·rw[r2]at hyx;subst hyx;obtain⟨g,p1,p2⟩:=h.slots t _ hy;exact⟨g,p1,by simp[Jp];exact p2⟩
   ·rw[r2]at hyx;subst hyx;exact SbOk.ren (h.slots t _ hy) (by simp[Jp]) (by simp[setR]) (by simp[setR])
   ·rw[r2]at hyx;subst hyx;obtain⟨g,p1,p2⟩:=h.slots t _ hy;exact⟨g,p1,by simp[Jp];exact p2⟩
   ·rw[r2]at hyx;subst hyx;exact⟨.top _,trivial⟩
   ·rw[r2]at hyx;subst hyx;obtain⟨g,cur,el,p1,p2,p3,p4,p5,p6⟩:=h.slots t _ hy
    have hOt:(setR (setO O true s none) s' (O.o true s) (O.len s) (O.siz s)).o true t=O.o true t:=by
     simp only[Jp,jC];rw[if_neg (fun e1=>hts e1.2),if_neg (fun e1=>hts' e1.2)]
    refine⟨g,cur,el,p1,by rw[hOt];exact p2,p3,by simpa using p4,p5,fun j c u hc hu=>?_⟩;rw[A6]at hc
    cases hz:cs[j]? with
    | none=>rw[hz]at hc;cases hc
    | some z =>
     rw[hz]at hc;cases hc
     refine (p6 j z u hz hu).renC (by simp[Jp]) (by simp[setR]) (by simp[setR]) hOt fun id hid hne=>?_
     have hne':id≠s':=fun e1=>by
      subst e1
      have:(AV.bxg cs).refs id=true:=by
       simp only[AV.refs,B6];exact⟨z,A7 hz,hid⟩
      rw[hnr]at this;cases this
     obtain⟨f1,f2,f3⟩:=jj (O:=O) (v:=none) hne;obtain⟨g1,g2,g3⟩:=YO (O:=setO O true s none) (v:=O.o true s) (len:=O.len s) (siz:=O.siz s) hne';exact⟨g1.trans f1,g2.trans f2,g3.trans f3⟩
   ·rw[r2]at hyx;subst hyx;obtain⟨us,p1,p2,p3⟩:=h.slots t _ hy;refine⟨us,p1,by simpa using p2,fun j c u hc hu=>?_⟩;rw[A6]at hc
    cases hz:cs[j]? with
    | none=>rw[hz]at hc;cases hc
    | some z =>
     rw[hz]at hc;cases hc;obtain⟨q1,q2,q3⟩:=p3 j z u hz hu
     have hO0:∀ c,(setR (setO O true s none) s' (O.o true s) (O.len s) (O.siz s)).o false c=O.o false c:=fun c=>by simp[Jp,jC]
     refine⟨?_,qdy (q2.change fun c g _ hg=>⟨by rw[hO0];exact hg,rfl,fun _ hm=>hm⟩),qbf q3⟩
     refine (CellR.move0 q1 q3).renC (t:=s+s'+1) (by simp[Jp]) (by simp[setR]) (by simp[setR]) (by
      simp only[Jp,jC]
      rw[if_neg (fun e=>by have:=e.2;omega),if_neg (fun e=>by have:=e.2;omega)]) (fun id hid hne=>?_) |>.move0 (qbf q3)
     have hne':id≠s':=fun e1=>by
      subst e1
      have:(AV.agr cs).refs id=true:=by
       simp only[AV.refs,B6];exact⟨z,A7 hz,hid⟩
      rw[hnr]at this;cases this
     obtain⟨f1,f2,f3⟩:=jj (O:=O) (v:=none) hne;obtain⟨g1,g2,g3⟩:=YO (O:=setO O true s none) (v:=O.o true s) (len:=O.len s) (siz:=O.siz s) hne';exact⟨g1.trans f1,g2.trans f2,g3.trans f3⟩
 ·exact⟨O,h⟩
theorem qcF {k m:Nat} {xs:List AV} (h:∀ x,x∈xs→x.cells.length=k):flat (snapA 0 m xs)=(flat xs).take (m * k):=by
 unfold snapA;rw[List.drop_zero,Xo m h]
theorem Inv.trimObj (h:Inv bs n M O env a w) (q:Nat×Nat):∃ O',Inv bs n M O' (trimObj env q) a w:=by
 obtain⟨t,s⟩:=q;unfold AM.trimObj;simp only;split
 ·rename_i id e k m e' k' xs hlt hls hus;split
  ·rename_i hc;simp only[A2]at hc;obtain⟨hc1,hc2⟩:=hc;have hc1:=A1 hc1;have hc2:=A1 hc2;subst hc1;subst hc2;obtain⟨k0,k1,k2,k3⟩:=h.slots id _ hls;obtain⟨q1,q2⟩:=h.slots t _ hlt
   have hlen:(snapA 0 m xs).length=m:=by unfold snapA;simp;omega
   have hne:id≠t:=fun e1=>by rw[e1,hlt]at hls;cases hls
   have hty:∀ x,x∈xs→x.cells.length=k:=fun x hx=>(k1 x hx).1
   have hsub:∀ x,x∈snapA 0 m xs→x∈xs:=fun x hx=>by
    unfold snapA at hx;exact C4 (D0 hx)
   obtain⟨O1,hO1⟩:∃ O1,O1=setR O id (O.o true id) m (O.siz id):=⟨_,rfl⟩
   have hO:∀ i c,O1.o i c=O.o i c:=by
    intro i c;rw[hO1,Jp];split
    ·rename_i hh;rw[hh.1,hh.2]
    ·rfl
   have hL:O1.len id=m:=by rw[hO1];simp[setR]
   have hZ:∀ c,O1.siz c=O.siz c:=by
    intro c;rw[hO1];simp only[setR];split
    ·rename_i hh;rw[hh]
    ·rfl
   have hEq:∀ c,c≠id→Gh.Eq1 O O1 c:=fun c hc=>by rw[hO1];exact YO hc
   refine⟨O1,h.size,h.defers,h.below,h.hB,h.cons,h.ext,h.old,fun i c g hg=>h.own i c g (by rw[← hO];exact hg),fun i i' c c' g h1 h2=>h.inj i i' c c' g (by rw[← hO];exact h1) (by rw[← hO];exact h2),⟨h.fix.1,fun c g1 g2=>?_⟩,fun r x hx=>?_⟩
   ·obtain⟨e1,e2,e3⟩:=h.fix.2 c g1 g2
    obtain⟨f1,f2,f3⟩:=hEq c fun e=>Xy hus ⟨by omega,by omega⟩
    exact⟨f1.trans e1,f2.trans e2,f3.trans e3⟩
   ·rw[qR]at hx;split at hx
    ·rename_i e1;subst e1;cases hx;refine⟨k0,fun x hx=>k1 x (hsub x hx),by rw[hL,hlen],?_⟩;rw[hO,hZ]
     rcases k3 with ⟨rfl,hn⟩ | ⟨g,cur,f1,f2,f3,f4,f5,f6⟩
     ·exact .inl ⟨by simp[snapA],hn⟩
     ·refine .inr ⟨g,cur,f1,f2,f3,?_,f5,fun j c u hc hu=>?_⟩
      ·rw[hlen];have:m * k≤xs.length * k:=Nat.mul_le_mul_right _ (by omega);omega
      ·rw[qcF hty,List.getElem?_take]at hc;split at hc
       ·exact f6 j c u hc hu
       ·cases hc
    ·rename_i hr;rw[qR]at hx;split at hx
     ·rename_i e1;subst e1;cases hx;refine⟨by rw[hL,hlen];omega,?_⟩;rw[hlen,hO,hZ];exact q2
     ·obtain⟨hrs,y,hy,rfl⟩:=QV hx;have hnr:=XO id y
      ·refine ((h.slots r _ hy).kill id).change2 (Sub.refl M) (fun _=>hEq r hrs) (fun c hcc=>hEq c fun e=>by rw[e,hnr]at hcc;cases hcc) (fun g _ _=>⟨rfl,fun _ hm=>hm⟩) fun c g hg=>⟨by rw[hO];exact hg,rfl,fun _ hm=>hm⟩
  ·exact⟨O,h⟩
 ·exact⟨O,h⟩
theorem qbY (s k:Nat) (xs:List AV) (y:AV):thaw s k xs y=.top∨(y.refs s=false∧thaw s k xs y=y)∨(∃ e off m,y=.sb s e k off m∧thaw s k xs y=.lst e k none (snapA off m xs))∨(∃ cs,y=.bxg cs∧thaw s k xs y=.bxg (cs.map (thawC s k xs)))∨∃ cs,y=.agr cs∧thaw s k xs y=.agr (cs.map (thawC s k xs)):=by
 cases y with
 | sb id e k' off m =>
  simp only[thaw];by_cases h:A0 id s=true
  ·rw[h];have:=A1 h;subst this;by_cases h2:A0 k' k=true
   ·have:=A1 h2;subst this;exact .inr (.inr (.inl ⟨e,off,m,rfl,by simp⟩))
   ·have h2':A0 k' k=false:=Bool.eq_false_iff.2 h2;exact .inl (by rw[h2'])
  ·have h':A0 id s=false:=Bool.eq_false_iff.2 h;exact .inr (.inl ⟨h',by rw[h']⟩)
 | pe id k' j o =>
  simp only[thaw];by_cases h:A0 id s=true
  ·exact .inl (by rw[h])
  ·have h':A0 id s=false:=Bool.eq_false_iff.2 h;exact .inr (.inl ⟨h',by rw[h']⟩)
 | pb id o =>
  simp only[thaw];by_cases h:A0 id s=true
  ·exact .inl (by rw[h])
  ·have h':A0 id s=false:=Bool.eq_false_iff.2 h;exact .inr (.inl ⟨h',by rw[h']⟩)
 | tpr id e k' off m rest =>
  simp only[thaw];by_cases h:A0 id s=true
  ·exact .inl (by rw[h])
  ·have h':A0 id s=false:=Bool.eq_false_iff.2 h;exact .inr (.inl ⟨h',by rw[h']⟩)
 | mb kd id =>
  simp only[thaw];by_cases h:A0 id s=true
  ·exact .inl (by rw[h])
  ·have h':A0 id s=false:=Bool.eq_false_iff.2 h;exact .inr (.inl ⟨h',by rw[h']⟩)
 | bxg cs=>exact .inr (.inr (.inr (.inl ⟨cs,rfl,rfl⟩)))
 | agr cs=>exact .inr (.inr (.inr (.inr ⟨cs,rfl,rfl⟩)))
 | clb f caps =>
  simp only[thaw];by_cases h:(AV.clb f caps).refs s=true
  ·exact .inl (by rw[h])
  ·have h':(AV.clb f caps).refs s=false:=Bool.eq_false_iff.2 h;exact .inr (.inl ⟨h',by rw[h']⟩)
 | _=>exact .inr (.inl ⟨rfl,rfl⟩)
theorem Inv.freezeObj (h:Inv bs n M O env a w) {s e k:Nat} {xs:List AV} (hl:look env s=some (.obj e k xs)) (hus:usable s=true) :
  ∃ M' O',Inv bs n M' O' ((env.filter fun p=>!A0 p.1 s).map fun p=>(p.1,thaw s k xs p.2)) a w:=by
 obtain⟨k0,k1,k2,k3⟩:=h.slots s _ hl
 have hty:∀ x,x∈xs→x.cells.length=k:=fun x hx=>(k1 x hx).1
 obtain⟨M',hsub,hM',hcell⟩:∃ M':Mem,Sub M M'∧(∀ b o,O.o true s≠some b→M' b o=M b o)∧Cons M' w∧∀ g,O.o true s=some g→∃ cur:Array Value,cur.size=O.siz s∧xs.length * k≤cur.size∧(∀ o,M' g o=cellsAt cur o)∧∀ (j:Nat) c u,(flat xs)[j]? = some c→cur[j]? = some u→R M c u:=by
  rcases k3 with ⟨_,hn⟩ | ⟨g,cur,f1,f2,f3,f4,f5,f6⟩
  ·exact⟨M,Sub.refl M,fun _ _ _=>rfl,h.cons,fun g hg=>by rw[hn]at hg;cases hg⟩
  ·refine⟨addRow M g cur,?_,fun b o hb=>?_,?_,fun g' hg=>?_⟩
   ·intro b o u hu;unfold addRow;split
    ·rename_i e1;subst e1;rw[f5]at hu;cases hu
    ·exact hu
   ·unfold addRow;rw[if_neg fun e1=>hb (by rw[e1];exact f1)]
   ·intro b o u hu;unfold addRow at hu;split at hu
    ·rename_i e1;subst e1;rw[mcRowAt f2];exact hu
    ·exact h.cons b o u hu
   ·have:g'=g:=by rw[f1]at hg;exact (Option.some.inj hg).symm
    subst this;exact⟨cur,f3,f4,fun o=>by simp[addRow],f6⟩
 obtain⟨hC,hcell⟩:=hcell
 have hOO:∀ i c g,(setO O true s none) i c=some g→O i c=some g∧¬ (i=true∧c=s):=by
  intro i c g hg;rw[jC]at hg;split at hg
  ·cases hg
  ·rename_i hne;exact⟨hg,hne⟩
 refine⟨M',setO O true s none,h.size,h.defers,h.below,h.hB,hC,h.ext.trans hsub,fun b o hb=>?_,fun i c g hg=>h.own i c g (hOO i c g hg).1,fun i i' c c' g h1 h2=>h.inj i i' c c' g (hOO _ _ _ h1).1 (hOO _ _ _ h2).1,⟨h.fix.1,fun c g1 g2=>?_⟩,fun t x hx=>?_⟩
 ·rw[hM' b o fun hh=>(h.own _ _ _ hh).1 hb];exact h.old b o hb
 ·obtain⟨e1,e2,e3⟩:=h.fix.2 c g1 g2;exact⟨(jj (O:=O) (v:=none) (fun e=>Xy hus ⟨by omega,by omega⟩:c≠s)).1.trans e1,e2,e3⟩
 ·obtain⟨hts,y,hy,hyx⟩:=QP hx
  have snap:∀ (e' off m:Nat) (v:Value),SbOk O s k off m v→R M' (.lst e' k none (snapA off m xs)) v:=by
   intro e' off m v hq;obtain⟨q1,q2⟩:=hq
   have hlen:(snapA off m xs).length=m:=by unfold snapA;simp;omega
   have hsubx:∀ x,x∈snapA off m xs→x∈xs:=fun x hx=>C4 (D0 hx)
   rcases q2 with ⟨rfl,ad,e1⟩ | ⟨g,cap,e1,r1,r2,r3,r4⟩
   ·rw[e1]
    have:snapA off 0 xs=[]:=by simp[snapA]
    rw[this]
    cases ad with
    | none=>exact .lstn _ _ _
    | some ad=>exact .lste _ _ _ _ _
   ·obtain⟨cur,c1,c2,c3,c4⟩:=hcell g r1
    have hj2:∀ (j:Nat) c,(flat (snapA off m xs))[j]? = some c→(flat xs)[off * k+j]? = some c:=by
     intro j c hj;unfold snapA at hj;rw[Xo (k:=k) m (fun y hy=>hty y (C4 hy)),Xp off hty,List.getElem?_take]at hj;split at hj
     ·rw[List.getElem?_drop]at hj;exact hj
     ·cases hj
    have hcur:∀ (j:Nat) c,(flat (snapA off m xs))[j]? = some c→cur[off * k+j]? = some (cur.getD (off * k+j) undef):=by
     intro j c hj;have hlt:=(List.getElem?_eq_some_iff.1 (hj2 j c hj)).1;rw[jn hty]at hlt
     have:off * k+j<cur.size:=by omega
     simp[this]
    rw[e1];have:=R.lst (M:=M') (e:=e') (k:=k) (l:=none) (xs:=snapA off m xs) (b:=g) (off:=off * k) (cap:=cap) (fun j=>cur.getD (off * k+j) undef) (by rw[hlen];exact r3) (fun y hy=>hty y (hsubx y hy)) (fun y hy=>(k1 y (hsubx y hy)).2)
     (fun j c hj=>by rw[c3];exact Jj (hcur j c hj) (QE ((c4 _ _ _ (hj2 j c hj) (hcur j c hj)).one (YF (fun y hy=>(k1 y (hsubx y hy)).2) hj)))) (fun j c hj=>(c4 _ _ _ (hj2 j c hj) (hcur j c hj)).mono hsub)
    rw[hlen]at this;exact this
  have hrow:∀ i c g,O i c=some g→¬ (i=true∧c=s)→∀ o,M g o=none→M' g o=none:=by
   intro i c g hg hne o hm;rw[hM' g o fun e1=>hne (h.inj _ _ _ _ g hg e1)];exact hm
  rcases qbY s k xs y with hh | ⟨hnr,hh⟩ | ⟨e',off,m,rfl,hh⟩ | ⟨cs,rfl,hh⟩ | ⟨cs,rfl,hh⟩
  ·rw[hh]at hyx;subst hyx;exact⟨.top _,trivial⟩
  ·rw[hh]at hyx;subst hyx
   refine (h.slots t _ hy).change2 hsub (fun _=>jj hts) (fun c hcc=>jj fun e=>by rw[e,hnr]at hcc;cases hcc) (fun g _ hg=>⟨rfl,hrow true t g hg fun e=>hts e.2⟩) fun c g hg=>⟨by simp[jC,hg],rfl,hrow false c g hg fun e=>by cases e.1⟩
  ·rw[hh]at hyx;subst hyx;exact⟨snap e' off m _ (h.slots t _ hy),trivial⟩
  ·rw[hh]at hyx;subst hyx;obtain⟨g,cur,el,p1,p2,p3,p4,p5,p6⟩:=h.slots t _ hy;have hOt:=(jj (O:=O) (v:=none) hts).1;refine⟨g,cur,el,p1,by rw[hOt];exact p2,p3,by simpa using p4,fun o=>hrow true t g p2 (fun e=>hts e.2) o (p5 o),fun j c u hc hu=>?_⟩;rw[A6]at hc
   cases hz:cs[j]? with
   | none=>rw[hz]at hc;cases hc
   | some z =>
    rw[hz]at hc;cases hc
    exact (p6 j z u hz hu).thawC hsub snap hOt fun id _ hne=>jj hne
  ·rw[hh]at hyx;subst hyx;obtain⟨us,p1,p2,p3⟩:=h.slots t _ hy;refine⟨us,p1,by simpa using p2,fun j c u hc hu=>?_⟩;rw[A6]at hc
   cases hz:cs[j]? with
   | none=>rw[hz]at hc;cases hc
   | some z =>
    rw[hz]at hc;cases hc;obtain⟨q1,q2,q3⟩:=p3 j z u hz hu;refine⟨?_,qcq (q2.change fun c g _ hg=>⟨by simp[jC,hg],rfl,hrow false c g hg fun e=>by cases e.1⟩),Dc q3⟩;exact ((CellR.move0 (t':=s+1) q1 q3).thawC hsub snap (jj (O:=O) (v:=none) (by omega)).1 fun id _ hne=>jj hne).move0 (Dc q3)
theorem qaP (s:Nat) (ks vs:List AV) (y:AV):thawM s ks vs y=.top∨(y.refs s=false∧thawM s ks vs y=y)∨(y=.mb 0 s∧thawM s ks vs y=.mpv ks vs)∨(∃ cs,y=.bxg cs∧thawM s ks vs y=.bxg (cs.map (thawCM s ks vs)))∨∃ cs,y=.agr cs∧thawM s ks vs y=.agr (cs.map (thawCM s ks vs)):=by
 have other:(∀ cs,y≠.bxg cs)→(∀ cs,y≠.agr cs)→thawM s ks vs y=killRef s y→thawM s ks vs y=.top∨(y.refs s=false∧thawM s ks vs y=y)∨(y=.mb 0 s∧thawM s ks vs y=.mpv ks vs)∨(∃ cs,y=.bxg cs∧thawM s ks vs y=.bxg (cs.map (thawCM s ks vs)))∨∃ cs,y=.agr cs∧thawM s ks vs y=.agr (cs.map (thawCM s ks vs)):=by
  intro hb hg h;rw[h];unfold killRef
  cases hr:y.refs s with
  | true =>
   cases y with
   | bxg cs=>exact absurd rfl (hb cs)
   | agr cs=>exact absurd rfl (hg cs)
   | _=>exact .inl rfl
  | false=>exact .inr (.inl ⟨rfl,rfl⟩)
 cases y with
 | mb kd id =>
  simp only[thawM];by_cases h:A0 id s=true
  ·rw[h];have:=A1 h;subst this
   cases kd with
   | zero=>exact .inr (.inr (.inl ⟨rfl,rfl⟩))
   | succ kd=>exact .inl rfl
  ·have h':A0 id s=false:=Bool.eq_false_iff.2 h;exact .inr (.inl ⟨h',by rw[h']⟩)
 | bxg cs=>exact .inr (.inr (.inr (.inl ⟨cs,rfl,rfl⟩)))
 | agr cs=>exact .inr (.inr (.inr (.inr ⟨cs,rfl,rfl⟩)))
 | _=>exact other (fun cs e=>by cases e) (fun cs e=>by cases e) rfl
theorem Inv.freezeMap (h:Inv bs n M O env a w) {s:Nat} {ks vs:List AV} (hl:look env s=some (.hob 0 ks vs)) (hus:usable s=true) :
  ∃ M' O',Inv bs n M' O' ((env.filter fun p=>!A0 p.1 s).map fun p=>(p.1,thawM s ks vs p.2)) a w:=by
 obtain⟨g,k1,k2,es,clock,k3,E⟩:=h.slots s _ hl
 obtain⟨M',hM⟩:∃ M':Mem,M'=fun b o=>if b=g then mc w g o else M b o:=⟨_,rfl⟩
 have hsub:Sub M M':=by
  intro b o u hu;rw[hM];simp only;split
  ·rename_i e1;subst e1;rw[k2]at hu;cases hu
  ·exact hu
 have hM':∀ b o,b≠g→M' b o=M b o:=fun b o hb=>by rw[hM];simp only;rw[if_neg hb]
 have hMg:M' g 0=some (mapCell es clock):=by rw[hM];simp only[if_true];exact Ut k3
 have hC:Cons M' w:=by
  intro b o u hu;rw[hM]at hu;simp only at hu;split at hu
  ·rename_i e1;subst e1;exact hu
  ·exact h.cons b o u hu
 have hOO:∀ i c g,(setO O true s none) i c=some g→O i c=some g∧¬ (i=true∧c=s):=by
  intro i c g hg;rw[jC]at hg;split at hg
  ·cases hg
  ·rename_i hne;exact⟨hg,hne⟩
 refine⟨M',setO O true s none,h.size,h.defers,h.below,h.hB,hC,h.ext.trans hsub,fun b o hb=>?_,fun i c g hg=>h.own i c g (hOO i c g hg).1,fun i i' c c' g h1 h2=>h.inj i i' c c' g (hOO _ _ _ h1).1 (hOO _ _ _ h2).1,⟨h.fix.1,fun c g1 g2=>?_⟩,fun t x hx=>?_⟩
 ·rw[hM' b o fun e1=>(h.own _ _ _ k1).1 (by rw[← e1];exact hb)];exact h.old b o hb
 ·obtain⟨e1,e2,e3⟩:=h.fix.2 c g1 g2;exact⟨(jj (O:=O) (v:=none) (fun e=>Xy hus ⟨by omega,by omega⟩:c≠s)).1.trans e1,e2,e3⟩
 ·obtain⟨hts,y,hy,hyx⟩:=QP hx
  have hrow:∀ i c g',O i c=some g'→¬ (i=true∧c=s)→∀ o,M g' o=none→M' g' o=none:=by
   intro i c g' hg hne o hm;rw[hM' g' o fun e1=>hne (h.inj _ _ _ _ g' hg (by rw[e1];exact k1))];exact hm
  have snap:∀ g',O true s=some g'→R M' (.mpv ks vs) (.map (some g')):=by
   intro g' q1
   have:g'=g:=by rw[k1]at q1;exact (Option.some.inj q1).symm
   subst this;obtain⟨E1,E2,E3,E4,E5,E6⟩:=E
   exact .mpv hMg E1 E2 E3 E4 E5 fun j v e hv he=>(E6 j v e hv he).mono hsub
  rcases qaP s ks vs y with hh | ⟨hnr,hh⟩ | ⟨rfl,hh⟩ | ⟨cs,rfl,hh⟩ | ⟨cs,rfl,hh⟩
  ·rw[hh]at hyx;subst hyx;exact⟨.top _,trivial⟩
  ·rw[hh]at hyx;subst hyx
   refine (h.slots t _ hy).change2 hsub (fun _=>jj hts) (fun c hcc=>jj fun e=>by rw[e,hnr]at hcc;cases hcc) (fun g _ hg=>⟨rfl,hrow true t g hg fun e=>hts e.2⟩) fun c g hg=>⟨by simp[jC,hg],rfl,hrow false c g hg fun e=>by cases e.1⟩
  ·rw[hh]at hyx;subst hyx;obtain⟨g',q1,q2⟩:=h.slots t _ hy
   have:g'=g:=by rw[k1]at q1;exact (Option.some.inj q1).symm
   subst this;refine⟨?_,trivial⟩;rw[q2];exact snap g' k1
  ·rw[hh]at hyx;subst hyx;obtain⟨g1,cur,el,p1,p2,p3,p4,p5,p6⟩:=h.slots t _ hy;have hOt:=(jj (O:=O) (v:=none) hts).1;refine⟨g1,cur,el,p1,by rw[hOt];exact p2,p3,by simpa using p4,fun o=>hrow true t g1 p2 (fun e=>hts e.2) o (p5 o),fun j c u hc hu=>?_⟩;rw[A6]at hc
   cases hz:cs[j]? with
   | none=>rw[hz]at hc;cases hc
   | some z =>
    rw[hz]at hc;cases hc
    exact (p6 j z u hz hu).thawCM hsub snap hOt fun id _ hne=>jj hne
  ·rw[hh]at hyx;subst hyx;obtain⟨us,p1,p2,p3⟩:=h.slots t _ hy;refine⟨us,p1,by simpa using p2,fun j c u hc hu=>?_⟩;rw[A6]at hc
   cases hz:cs[j]? with
   | none=>rw[hz]at hc;cases hc
   | some z =>
    rw[hz]at hc;cases hc;obtain⟨q1,q2,q3⟩:=p3 j z u hz hu;refine⟨?_,qbs (q2.change fun c g _ hg=>⟨by simp[jC,hg],rfl,hrow false c g hg fun e=>by cases e.1⟩),Nu q3⟩;exact ((CellR.move0 (t':=s+1) q1 q3).thawCM hsub snap (jj (O:=O) (v:=none) (by omega)).1 fun id _ hne=>jj hne).move0 (Nu q3)
theorem Inv.slfCell (h:Inv bs n M O env a w) (s off:Nat):Inv bs n M O (slfCell env s off) a w:=by
 unfold AM.slfCell;split
 case h_2=>exact h
 rename_i cs hl;split
 case h_2=>exact h
 rename_i x hoff;obtain⟨g,cur,el,p1,p2,p3,p4,p5,p6⟩:=h.slots s _ hl;refine h.setVal ⟨g,cur,el,p1,p2,p3,by simpa using p4,p5,fun j c u hcj hu=>?_⟩;rw[List.getElem?_set]at hcj;split at hcj
 ·rename_i e1;subst e1;split at hcj
  ·cases hcj;have q:=(p6 _ _ u hoff hu).2;cases q;exact .inl rfl
  ·cases hcj
 ·exact p6 j c u hcj hu
theorem Inv.arrBox (h:Inv bs n M O env a w) (d:Nat):∃ O',Inv bs n M O' (arrBox env d) a w:=by
 unfold AM.arrBox;split
 ·rename_i cs hl hc;simp only[A2]at hc;obtain⟨hc,hd⟩:=hc;have hd:d<1000000:=A5 hd;obtain⟨c1,c2⟩:=jU hc;have h1:=h.forget (s:=d) (Db (by omega));obtain⟨g,cur,el,p1,p2,p3,p4,p5,p6⟩:=h.slots d _ hl;have p1:=p1.resolve_right (by omega)
  have hS:HobOk (setR (setO O true d none) (1000000+d) (some g) 0 0) M w (1000000+d) 3 [] (cs.map AV.strip):=by
   refine⟨g,by simp[Jp],p5,cur,el,p3,by simpa using p4,fun j c u hcj hu=>?_⟩;rw[A6]at hcj
   cases hz:cs[j]? with
   | none=>rw[hz]at hcj;cases hcj
   | some z =>
    rw[hz]at hcj;cases hcj;obtain⟨q1,q2,_⟩:=p6 j z u hz hu;exact⟨Qa q1,QU z,q2.strip⟩
  have h2:=h1.claim (t:=1000000+d) (x:=.hob 3 [] (cs.map AV.strip)) (fun t x hx=>by
   obtain⟨_,y,hy,hyx⟩:=QV hx;have:=c2 t y hy;rw[hyx]
   cases hk:(killRef d y).refs (1000000+d) with
   | false=>rfl
   | true=>rw[YW hk]at this;cases this) (by omega) (some g) 0 0 (fun g' e=>by
    cases e;refine⟨(h.own _ _ _ p2).1,(h.own _ _ _ p2).2,fun i c hh=>?_⟩;exfalso;rw[jC]at hh;split at hh
    ·cases hh
    ·rename_i hn
     exact hn (h.inj _ _ _ _ g hh p2)) hS
  exact⟨_,h2.setVal (t:=d) (x:=.pb (1000000+d) 0) ⟨g,p1,by simp[Jp]⟩⟩
 ·exact⟨O,h⟩
end
end Go.AM
namespace Go.AM
open Go.RowKit
section
variable {n:Nat} {P:Program}
def unlab:List Nat→Env→Env
  | [],e=>e
  | c::r,e=>unlab r (relabE c none e)
def unlV:List Nat→AV→AV
  | [],x=>x
  | c::r,x=>unlV r (x.relabB c none)
theorem QA:∀ (cl:List Nat) (e:Env) (t:Nat),look (unlab cl e) t=(look e t).map (unlV cl)
  | [],e,t=>by cases h:look e t <;> simp[unlab,unlV,h]
  | c::r,e,t=>by
    simp only[unlab];rw[QA r];unfold relabE;rw[QZ (AV.relabB c none)];cases look e t <;> rfl
theorem NK {l:Nat} {x:AV} (h:x.hasLab l=false):x.relab l none=x:=by
  cases x with
  | lst e k o xs =>
    cases o with
    | none=>rfl
    | some c =>
      simp only[AV.relab];split
      · rename_i hc
        simp only[AV.hasLab,AV.lab?,hc]at h;cases h
      · rfl
  | _=>rfl
theorem qdp {l:Nat} {x:AV} (h:x.hasLabB l=false):x.relabB l none=x:=by
  cases x with
  | box cs =>
    simp only[AV.relabB,AV.hasLabB]at h ⊢
    congr 1
    rw[B7]at h
    conv=>rhs;rw[← List.map_id cs]
    exact List.map_congr_left fun z hz=>NK (by simpa using h z hz)
  | agr cs =>
    simp only[AV.relabB,AV.hasLabB]at h ⊢
    congr 1
    rw[B7]at h
    conv=>rhs;rw[← List.map_id cs]
    exact List.map_congr_left fun z hz=>NK (by simpa using h z hz)
  | lst e k o xs=>exact NK h
  | _=>rfl
theorem Nm:∀ {cl:List Nat} {x:AV},(∀ c,c∈cl→x.hasLabB c=false)→unlV cl x=x
  | [],x,_=>rfl
  | c::r,x,h=>by
    simp only[unlV];rw[qdp (h c (List.mem_cons_self ..))]
    exact Nm fun c' hc=>h c' (List.mem_cons_of_mem _ hc)
theorem VQ {b l:Nat} {x:AV} (h:(x.relab l none).hasLab b=true):x.hasLab b=true:=by
  cases x with
  | lst e k o xs =>
    cases o with
    | none=>cases h
    | some c =>
      simp only[AV.relab]at h;split at h
      · cases h
      · exact h
  | _=>cases h
theorem NZ {b l:Nat} {x:AV} (h:(x.relabB l none).hasLabB b=true):x.hasLabB b=true:=by
  cases x with
  | box cs =>
    simp only[AV.relabB,AV.hasLabB,C5,B6]at h ⊢;obtain⟨z,hz,h⟩:=h;exact⟨z,hz,VQ h⟩
  | agr cs =>
    simp only[AV.relabB,AV.hasLabB,C5,B6]at h ⊢;obtain⟨z,hz,h⟩:=h;exact⟨z,hz,VQ h⟩
  | lst e k o xs =>
    cases o with
    | none=>cases h
    | some c =>
      simp only[AV.relabB,AV.relab]at h;split at h
      · cases h
      · exact h
  | _=>cases h
theorem VR {b:Nat}:∀ {cl:List Nat} {x:AV},(unlV cl x).hasLabB b=true→x.hasLabB b=true
  | [],x,h=>h
  | c::r,x,h=>NZ (VR (cl:=r) h)
def StepB (P:Program) (n:Nat) (all:List Oper) (o:Oper) (e e1:Env):Prop :=
  ∃ (d:Nat) (v:AV) (cl:List Nat),o.dst=some d∧v.ent=false∧(∀ b,v.hasLabB b=true→b=d)∧(∀ c,c∈cl→c∈killsB o)∧e1=ins d v (unlab cl e) ∧
    ∀ E,NA all o e E→StepSem P n all o E (ins d v (unlab cl E))
inductive ChainB (P:Program) (n:Nat) (all:List Oper):List Oper→Env→Env→Prop where
  | nil {e}:ChainB P n all [] e e
  | step {o rest e e1 e'}:StepB P n all o e e1→ChainB P n all rest e1 e'→ChainB P n all (o::rest) e e'
theorem qbM {all rest:List Oper} {e e':Env} (h:ChainB P n all rest e e'):∃ es:Nat→Env,es 0=e∧es rest.length=e'∧∀ i o,rest[i]? = some o→StepB P n all o (es i) (es (i+1)):=by
  induction h with
  | @nil e=>exact⟨fun _=>e,rfl,rfl,fun i o h=>by simp at h⟩
  | @step o rest e e1 e' hs _ ih =>
    obtain⟨es,h1,h2,h3⟩:=ih;refine⟨fun i=>match i with | 0=>e | i+1=>es i,rfl,h2,fun i o' ho=>?_⟩
    cases i with
    | zero=>simp at ho;subst ho;show StepB P n all o e (es 0);rw[h1];exact hs
    | succ i=>exact h3 i o' (by simpa using ho)
theorem qad (x:AV) (b:Nat) (hx:x.ent=false):x.strip.hasLabB b=false:=by
  cases x with
  | agr cs =>
    simp only[AV.strip,AV.hasLabB,C5,B7];intro c _
    cases c <;> exact fun e=>by cases e
  | box cs=>cases hx
  | _=>rfl
theorem qfe {all:List Oper} {o:Oper} {e e1:Env} {d:Nat} {x:AV} (hd:o.dst=some d) (hw:awanted all o e=some true) (hm:memFree o.op=true) (hx:apure P o e=some x) (hnb:x.ent=false) (he:eput n o.dst x.strip e=some e1):StepB P n all o e e1:=by
  obtain⟨h1,h2,_⟩:=JE he;rw[hd]at h1 h2;refine⟨d,x.strip,[],hd,(by cases x <;> first | rfl | cases hnb),fun b hb=>?_,fun c hc=>(by cases hc),h1,fun E hk=>?_⟩
  · rw[qad x b hnb]at hb;cases hb
  intro bs M O a w h K Q hK;rw[jg h (jP hk hw)];simp only[if_true];obtain⟨v,w',M',k1,k2,k3,k4,k5,k6⟩:=Vk h (ZF (JU hk) (.inl hm) hx);have h':=h.grown (row:=none) (fun g e=>by cases e) k2 k3 k4 (fun b o hb _=>k5 b o hb);have h2':=Zx h' (d:=some d) (UE k6) h2;exact Xb (env':=ins d x.strip E) ⟨v,w',M',O,.inl k1,by rw[hd];exact h2'⟩ hK
theorem mk_B {all:List Oper} {o:Oper} {e e1:Env} {t m:Nat} {ps:Array (Nat×Operand)} (ho:o.op=.buildSlice t m ps) {d:Nat} {el k:Nat} {xs:List AV} (hd:o.dst=some d) (hw:awanted all o e=some true) (hx:apure P o e=some (.lst el k none xs)) (he:eput n o.dst (.lst el k (some d) xs) (relabE d none e)=some e1):StepB P n all o e e1:=by
  obtain⟨h1,h2,_⟩:=JE he;rw[hd]at h1 h2;refine⟨d,.lst el k (some d) xs,[d],hd,rfl,fun b hb=>?_,fun c hc=>?_,h1,fun E hk=>?_⟩
  · exact (A1 hb).symm
  · unfold killsB
    rw[ho,hd]
    simpa using hc
  intro bs M O a w h K Q hK;rw[jg h (jP hk hw)];simp only[if_true];have hxE:=ZF (JU hk) (.inl (by rw[ho];rfl)) hx;unfold apure at hxE;rw[ho]at hxE;simp only at hxE;split at hxE
  case h_2=>cases hxE
  rename_i l hl;obtain⟨e1',k1,xs1,us,e2,g1,g2,g3,g4⟩:=QF (P:=P) h ho hl hxE;cases e2;have h':=h.grown (row:=none) (fun g e=>by cases e) (World.grownBy_alloc w (.cells us el) none) (XZ h.cons us) (ZB h.cons us el) (fun b o hb _=>Zf us b o hb);have hBle:¬ bs.D w.heap.size:=h.fresh (A8 _);have h'':=h'.relab d none (fun c hc=>by cases hc)
  obtain⟨O',hfin⟩:=h''.putFresh (d:=d) (g:=w.heap.size) (off:=0) (cap:=xs.length) (cur:=us) (h2 d rfl) (Xc d E) g3 (.inr ⟨rfl,hBle,fun i c hc=>by
    have hcO:O i c=some w.heap.size:=by
      simp only[relO,jC]at hc;split at hc
      · cases hc
      · exact hc
    have:=(h.own i c _ hcO).2
    omega,heap_alloc_new w _,by rw[Nat.zero_add];exact g2,A8 _,by unfold maxLen;omega,fun o ho=>by
      unfold addRow;rw[if_pos rfl];rw[Nat.zero_add]at ho;unfold cellsAt
      simp[g2,ho]⟩)
  exact Xb ⟨_,_,_,O',.inl g1,by rw[hd];exact hfin⟩ hK
theorem qbW {t t' d:Nat} {ex kx c:Nat} {xs:List AV} {y v:AV} {e e1:Env} (h:aappend P t t' d (.lst ex kx (some c) xs) y e=some (v,e1)) :
    (∃ a b l,v=.lst a b (some d) l)∧e1=relabE d none (relabE c none e)∧∀ E,aappend P t t' d (.lst ex kx (some c) xs) y E=some (v,relabE d none (relabE c none E)):=by
  unfold aappend at h ⊢;split at h
  case h_2=>cases h
  rename_i e' s hse;split at h
  · cases h
  rename_i hc;split at h
  · cases h
  · rename_i ey ky l ys
    split at h
    · cases h
    rename_i hky;simp only at h;split at h
    · cases h
    rename_i hb;split at h
    case isFalse=>cases h
    rename_i hcap;cases h;refine⟨⟨_,_,_,rfl⟩,rfl,fun E=>?_⟩;simp only[hse,hc,hky,hb];rw[if_pos hcap]
  · cases h
theorem Xw {d t:Nat} (h:t≠d):∀ (E:Env),look (E.filter fun p=>!A0 p.1 d) t=look E t
  | []=>rfl
  | (k,y)::r=>by
    simp only[C6];split
    · simp only[look]
      split
      · rfl
      · exact Xw h r
    · rename_i hk
      have hk:k=d:=by
        simp at hk;exact hk
      rw[Xw h r];simp only[look];split
      · rename_i hb
        have:=A1 hb;omega
      · rfl
theorem NS {d:Nat} {x:AV} (E:Env):look (E.filter fun p=>!A0 p.1 d) d≠some x:=by
  intro h;exact (JH h).1 rfl
theorem qfB {all:List Oper} {o:Oper} {e e1:Env} {args:Array Operand} {ats:Array TypeId} (ho:o.op=.call { callee:=.builtin .append,args:=args,argTypes:=ats }) {x y t t' d ex kx c:Nat} {xs:List AV} {b v:AV} {env1:Env}
    (hax:args.toList=[.tmp x,.tmp y]) (hat:ats.toList=[t,t']) (hd:o.dst=some d) (hw:awanted all o e=some true) (hx:aop e (.tmp x)=some (.lst ex kx (some c) xs)) (hy:aop e (.tmp y)=some b) (hcx:c=x) (hxd:x≠d) (hyd:y≠d)
    (hap:aappend P t t' d (.lst ex kx (some c) xs) b e=some (v,env1)) (he:eput n o.dst v env1=some e1):StepB P n all o e e1:=by
  obtain⟨⟨va,vb,vl,rfl⟩,rfl,hE⟩:=qbW hap;obtain⟨h1,h2,_⟩:=JE he;rw[hd]at h1 h2;refine⟨d,.lst va vb (some d) vl,[c,d],hd,rfl,fun b' hb=>?_,fun c' hc=>?_,h1,fun E hk=>?_⟩
  · exact (A1 hb).symm
  · unfold killsB
    rw[ho];simp only[hax,hd];rw[← hcx];exact hc
  intro bs M O a w h K Q hK;rw[jg h (jP hk hw)];simp only[if_true];have hkn:=JU hk
  have hops:∀ z v,z∈[Operand.tmp x,Operand.tmp y]→aop e z=some v→aop E z=some v:=fun z v hz hv=>hkn z (by
    have hm:z∈args.toList:=by rw[hax];exact hz
    rw[ho];simp[Op.operands,Call.operands]
    simpa using hm) v hv
  have hxE:=hops _ _ (by simp) hx;have hyE:=hops _ _ (by simp) hy
  have low:∀ z v,z≠d→aop E (.tmp z)=some v→aop (E.filter fun p=>!A0 p.1 d) (.tmp z)=some v:=by
    intro z v hz hv;simp only[aop]at hv ⊢;rw[Xw hz];exact hv
  have h1':Inv bs n M O (E.filter fun p=>!A0 p.1 d) a w:=h.sub fun s z hz=>.inl (JH hz).2
  have hst:astep P n o (E.filter fun p=>!A0 p.1 d)=some (ins d (.lst va vb (some d) vl) (relabE d none (relabE c none (E.filter fun p=>!A0 p.1 d)))):=by
    unfold astep;rw[ho];simp only[hax,hat,hd,low x _ hxd hxE,low y _ hyd hyE,hE];unfold eput
    have hnone:look (relabE d none (relabE c none (E.filter fun p=>!A0 p.1 d))) d=none:=by
      have:=QA [c,d] (E.filter fun p=>!A0 p.1 d) d;simp only[unlab]at this;rw[this]
      cases hl:look (E.filter fun p=>!A0 p.1 d) d with
      | none=>rfl
      | some z=>exact absurd hl (NS E)
    have hlt:Nat.blt d n=true:=B5 (h2 d rfl);simp only[hnone,hlt];rfl
  refine Xb (Nb h1' hst) fun a' w' M' O' h'=>hK a' w' M' O' (h'.looks fun s=>?_)
  rw[qR,qR];split
  · rfl
  · rename_i hs
    have e1:=QA [c,d] E s;have e2:=QA [c,d] (E.filter fun p=>!A0 p.1 d) s;rw[e1,← Xw hs E];exact e2.symm
theorem qdW {all:List Oper} {o:Oper} {e e1:Env} (hw:awanted all o e=some true) (he:astepB P n o e=some e1):StepB P n all o e e1:=by
  unfold astepB at he;split at he
  · rename_i args ats ho
    split at he
    case h_2=>cases he
    rename_i x y t t' d hax hat hd;split at he
    case h_2=>cases he
    rename_i ex kx c xs b hx hy;split at he
    case h_2=>cases he
    rename_i hb;simp only[A2,A4]at hb;obtain⟨⟨b1,b2⟩,b3⟩:=hb;split at he
    case h_2=>cases he
    rename_i v env1 hap;exact qfB ho hax hat hd hw hx hy (A1 b1) (fun h=>by rw[h]at b2;simp at b2) (fun h=>by rw[h]at b3;simp at b3) hap he
  · rename_i t m ps ho
    split at he
    case h_2=>cases he
    rename_i d el k xs hd hx;exact mk_B ho hd hw hx he
  · split at he
    case h_2=>cases he
    rename_i d v hd hx;split at he
    case h_2=>cases he
    rename_i hb;simp only[A2]at hb;exact qfe hd hw hb.1 hx (by simpa[notBox] using hb.2) he
theorem QT {c:Nat} {l:List Nat} (h:notIn c l=true):c ∉ l:=by
  unfold notIn at h;simp only[A4,B7]at h
  exact fun hm=>h c hm (by simp)
theorem NV {o:Oper} {c:Nat} (h:isDst o c=true):o.dst=some c:=by
  unfold isDst at h;split at h
  · rename_i d hd
    rw[hd,A1 h]
  · cases h
theorem NP:∀ {l:List Nat},nodupB l=true→l.Nodup
  | [],_=>List.nodup_nil
  | x::r,h=>by
    simp only[nodupB,A2]at h;exact List.nodup_cons.2 ⟨QT h.1,NP h.2⟩
theorem ZT:∀ {all:List Oper},(all.filterMap (·.dst)).Nodup→∀ {i j:Nat} {x y:Oper} {d:Nat},all[i]? = some x→all[j]? = some y→x.dst=some d→y.dst=some d→i=j
  | [],_,i,j,x,y,d,hx,_,_,_=>by simp at hx
  | o::r,h,i,j,x,y,d,hx,hy,dx,dy=>by
    have hr:(r.filterMap (·.dst)).Nodup:=by
      rw[List.filterMap_cons]at h;split at h
      · exact h
      · exact (List.nodup_cons.1 h).2
    have hno:∀ (q:Nat) (z:Oper),r[q]? = some z→z.dst=some d→o.dst=some d→False:=by
      intro q z hz dz do'
      rw[List.filterMap_cons,do']at h;exact (List.nodup_cons.1 h).1 (List.mem_filterMap.2 ⟨z,A7 hz,dz⟩)
    cases i with
    | zero =>
      simp at hx;subst hx
      cases j with
      | zero=>rfl
      | succ j=>exact (hno j y (by simpa using hy) dy dx).elim
    | succ i =>
      cases j with
      | zero =>
        simp at hy;subst hy;exact (hno i x (by simpa using hx) dx dy).elim
      | succ j=>exact congrArg Nat.succ (ZT (i:=i) (j:=j) (x:=x) (y:=y) (d:=d) hr (by simpa using hx) (by simpa using hy) dx dy)
theorem qbu {all:List Oper} (h:orderB all.toArray=true):(all.filterMap (·.dst)).Nodup∧∀ {i j:Nat} {x y:Oper},i<j→all[i]? = some x→all[j]? = some y→(∀ c,c∈killsB x→x.dst≠some c→c ∉ namesOf all.toArray y) ∧
    (((C7 all.toArray).getD j 0).testBit i=true∨((∀ d,x.dst=some d→d ∉ namesOf all.toArray y)∧(∀ d,y.dst=some d→d ∉ namesOf all.toArray x)∧(∀ c,c∈killsB x→c ∉ namesOf all.toArray y)∧(∀ c,c∈killsB y→c ∉ namesOf all.toArray x))):=by
  unfold orderB at h;simp only[A2]at h;refine⟨NP h.1,fun {i j x y} hij hx hy=>?_⟩;have h:=h.2;simp only[A3,List.mem_range]at h;have hj:=(List.getElem?_eq_some_iff.1 hy).1;have:=h j (by simpa using hj) i hij
  have hx':all.toArray[i]? = some x:=by simpa using hx
  have hy':all.toArray[j]? = some y:=by simpa using hy
  rw[hx',hy']at this;simp only[pairB,A2,B9,A3]at this;obtain⟨k1,k2⟩:=this;refine⟨fun c hc hne=>?_,?_⟩
  · rcases k1 c hc with k | k
    · exact absurd (NV k) hne
    · exact QT k
  · rcases k2 with k | ⟨⟨⟨k3,k4⟩,k5⟩,k6⟩
    · exact .inl k
    · refine .inr ⟨fun d hd=>?_,fun d hd=>?_,fun c hc=>QT (k5 c hc),fun c hc=>QT (k6 c hc)⟩
      · rw[hd]at k3;exact QT k3
      · rw[hd]at k4;exact QT k4
variable {all:List Oper} {es:Nat→Env}
def Marks (all:List Oper) (e:Env):Prop:=∀ t x b,look e t=some x→x.hasLabB b=true→b∈all.flatMap killsB→t=b
theorem qdF (hes:∀ i o,all[i]? = some o→StepB P n all o (es i) (es (i+1))) (h0:banOk all (es 0)=true):∀ j,j≤all.length→Marks all (es j):=by
  intro j
  induction j with
  | zero =>
    intro _ t x b hx hb hk;exfalso;unfold banOk at h0;rw[A3]at h0;have:=h0 b hk;simp only[A4]at this;rw[Vm this hx]at hb;cases hb
  | succ j ih =>
    intro hj t x b hx hb hk
    have hlt:j<all.length:=by omega
    obtain⟨d,v,cl,hd,hv,hvl,hcl,e1,_⟩:=hes j _ (A9 hlt);rw[e1,qR]at hx;split at hx
    · rename_i htd
      cases hx;rw[htd,hvl b hb]
    · rw[QA]at hx
      cases hl:look (es j) t with
      | none=>rw[hl]at hx;cases hx
      | some z =>
        rw[hl]at hx;cases hx;exact ih (by omega) t z b hl (VR hb) hk
theorem qcw (hes:∀ i o,all[i]? = some o→StepB P n all o (es i) (es (i+1))) (hm:∀ j,j≤all.length→Marks all (es j)) {t m:Nat} {o:Oper} (ho:all[m]? = some o) (hd:o.dst≠some t) (hk:t ∉ killsB o):look (es (m+1)) t=look (es m) t:=by
  obtain⟨d,v,cl,hd',hv,hvl,hcl,e1,_⟩:=hes m o ho;have hlt:=(List.getElem?_eq_some_iff.1 ho).1;rw[e1,qR,if_neg (fun e=>hd (by rw[hd',e])),QA]
  cases hl:look (es m) t with
  | none=>rfl
  | some z =>
    simp only[C0];rw[Nm fun c hc=>?_]
    cases hb:z.hasLabB c with
    | false=>rfl
    | true =>
      exfalso;have hck:=hcl c hc;have:=hm m (by omega) t z c hl hb (List.mem_flatMap.2 ⟨o,A7 ho,hck⟩);exact hk (this ▸ hck)
theorem stableB (hes:∀ i o,all[i]? = some o→StepB P n all o (es i) (es (i+1))) (hm:∀ j,j≤all.length→Marks all (es j)) {t i:Nat}:∀ j,i≤j→j≤all.length→(∀ m o,i≤m→m<j→all[m]? = some o→o.dst≠some t∧t ∉ killsB o)→look (es j) t=look (es i) t:=by
  intro j
  induction j with
  | zero =>
   intro h _ _;have:i=0:=by omega
   subst this;rfl
  | succ j ih =>
    intro h hl hw;by_cases hij:i=j+1
    · subst hij;rfl
    · have hlt:j<all.length:=by omega
      have ho:all[j]? = some all[j]:=A9 hlt;obtain⟨k1,k2⟩:=hw j _ (by omega) (by omega) ho;rw[qcw hes hm ho k1 k2]
      exact ih (by omega) (by omega) fun m o h1 h2=>hw m o h1 (by omega)
def Kn (all:List Oper) (es:Nat→Env) (S:Nat→Prop) (t:Nat) (x:AV):Prop :=
  (∃ i o,all[i]? = some o∧S i∧o.dst=some t∧(∀ k ok,all[k]? = some ok→S k→k≠i→t ∉ killsB ok)∧look (es (i+1)) t=some x) ∨
  ((∀ i o,all[i]? = some o→o.dst=some t→¬ S i)∧look (es 0) t=some x)
theorem qcL {bs:Base} {Q:Exit→Act→World→Prop} (hes:∀ i o,all[i]? = some o→StepB P n all o (es i) (es (i+1))) (hord:orderB all.toArray=true) (hback:jA all.toArray=true) (hban:banOk all (es 0)=true)
    (hQ:∀ a' w' M' O',Inv bs n M' O' (dropB all (es all.length)) a' w'→Q .normal a' w') :
    ∀ (fuel:Nat) (listed:Array Bool) (a:Act) (w:World) (M:Mem) (O:Gh) (E:Env),listed.size=all.length→Closed all (fun i=>listed.getD i false=true)→(∀ t x,Kn all es (fun i=>listed.getD i false=true) t x→look E t=some x) →
      Jk all.length listed≤fuel→Inv bs n M O E a w→wpAny P .any all.toArray Q fuel listed a w:=by
  have hm:=qdF hes hban;obtain⟨hnd,hpair⟩:=qbu hord
  have dstOf:∀ {i:Nat} {o:Oper},all[i]? = some o→∃ d,o.dst=some d:=fun ho=>by
    obtain⟨d,_,_,hd,_⟩:=hes _ _ ho;exact⟨d,hd⟩
  have done:∀ (listed:Array Bool) (a:Act) (w:World) (M:Mem) (O:Gh) (E:Env),listed.size=all.length→(∀ t x,Kn all es (fun i=>listed.getD i false=true) t x→look E t=some x)→Inv bs n M O E a w →
      B0 .any all.toArray listed=[]→Q .normal a w:=by
    intro listed a w M O E hsz hkn h hr
    have hall:∀ i,i<all.length→listed.getD i false=true:=by
      intro i
      induction i using Nat.strongRecOn with
      | _ i ih =>
        intro hi
        cases hv:listed.getD i false with
        | true=>rfl
        | false =>
          exfalso;have ho:all[i]? = some all[i]:=A9 hi
          have:i∈B0 .any all.toArray listed:=by
            rw[mem_ready];refine⟨by rw[XV (by omega)];exact hv,all[i],by simp,fun e he hb=>?_⟩
            have hlt:e.on<i:=by
              unfold jA at hback;rw[A3]at hback
              have hmem:(all[i],i)∈all.toArray.toList.zipIdx:=by
                rw[D1];exact⟨i,by simp[D2,ho]⟩
              have:=hback _ hmem;rw[Array.all_eq_true_iff_forall_mem]at this;have:=this e he;simp only[B9,A4]at this
              rcases this with h1 | h1
              · rw[hb]at h1;cases h1
              · exact A5 h1
            exact ih e.on hlt (by omega)
          rw[hr]at this;cases this
    refine hQ a w M O (h.sub fun t y hy=>.inl (hkn t y ?_))
    have hdead:t ∉ deadB all∧look (es all.length) t=some y:=by
      unfold dropB at hy;obtain⟨q,hq,h1,h2⟩:=YE hy;rw[List.mem_filter]at hq;refine⟨QT (by rw[← h1];exact hq.2),?_⟩
      have key:∀ (E:Env),look (E.filter fun p=>notIn p.1 (deadB all)) t=some y→notIn t (deadB all)=true→look E t=some y:=by
        intro E
        induction E with
        | nil=>intro h _;exact h
        | cons p r ih =>
          obtain⟨s,z⟩:=p;intro h hn;simp only[C6]at h;simp only[look];split at h
          · simp only[look]at h
            split
            · rename_i hb;rw[hb]at h;exact h
            · rename_i hb;rw[hb]at h;exact ih h hn
          · rename_i hs
            split
            · rename_i hb
              rw[A1 hb]at hs;exact absurd hn hs
            · exact ih h hn
      exact key _ hy (by rw[← h1];exact hq.2)
    obtain⟨hdead,hlk⟩:=hdead
    have hnk:∀ (k:Nat) (ok:Oper),all[k]? = some ok→ok.dst≠some t→t ∉ killsB ok:=by
      intro k ok hok hne hmem;refine hdead (List.mem_flatMap.2 ⟨ok,A7 hok,List.mem_filter.2 ⟨hmem,?_⟩⟩)
      cases hi:isDst ok t with
      | false=>rfl
      | true=>exact absurd (NV hi) hne
    by_cases hw:∃ (i:Nat) (o:Oper),all[i]? = some o∧o.dst=some t
    · obtain⟨i,o,ho,hd⟩:=hw
      have hil:=(List.getElem?_eq_some_iff.1 ho).1;refine .inl ⟨i,o,ho,hall i hil,hd,fun k ok hok _ hki=>hnk k ok hok fun e=>hki (ZT hnd hok ho e hd),?_⟩;rw[← stableB hes hm (i:=i+1) all.length hil (A8 _) fun m o' h1 h2 ho'=>?_]
      · exact hlk
      · have hne:o'.dst≠some t:=fun e=>by
          have:=ZT hnd ho' ho e hd;omega
        exact⟨hne,hnk m o' ho' hne⟩
    · refine .inr ⟨fun i o ho hd=>absurd ⟨i,o,ho,hd⟩ hw,?_⟩
      rw[← stableB hes hm (i:=0) all.length (Nat.zero_le _) (A8 _) fun m o' h1 h2 ho'=>?_]
      · exact hlk
      · have hne:o'.dst≠some t:=fun e=>hw ⟨m,o',ho',e⟩
        exact⟨hne,hnk m o' ho' hne⟩
  intro fuel
  induction fuel with
  | zero =>
    intro listed a w M O E hsz hc hkn hu h
    have hr:B0 .any all.toArray listed=[]:=by
      cases hr:B0 .any all.toArray listed with
      | nil=>rfl
      | cons i rs =>
        exfalso
        have hi:i∈B0 .any all.toArray listed:=by rw[hr];exact List.mem_cons_self ..
        rw[mem_ready]at hi;obtain⟨h0,o,ho,_⟩:=hi
        have hil:i<all.length:=by
          have:=(Array.getElem?_eq_some_iff.1 ho).1
          simpa using this
        have:0<Jk all.length listed:=by
          unfold Jk;rw[List.countP_pos_iff];exact⟨i,List.mem_range.2 hil,by rw[h0];rfl⟩
        omega
    exact⟨hr,done listed a w M O E hsz hkn h hr⟩
  | succ fuel ih =>
    intro listed a w M O E hsz hc hkn hu h;refine⟨fun hr=>done listed a w M O E hsz hkn h hr,fun k hk=>?_⟩;rw[mem_ready]at hk;obtain⟨hk0,ok,hok,hkall⟩:=hk
    have hok':all[k]? = some ok:=by simpa using hok
    have hkl:k<all.length:=(List.getElem?_eq_some_iff.1 hok').1
    have hkf:listed.getD k false=false:=by rw[← XV (by omega)];exact hk0
    have hkf':¬ listed.getD k false=true:=by rw[hkf];exact Bool.false_ne_true
    have hdeps:∀ i,((C7 all.toArray).getD k 0).testBit i=true→listed.getD i false=true :=
      Xx hc k ok hok' (fun e he hb=>hkall e (by simpa using he) hb)
    have hnot:∀ i,listed.getD i false=true→i<all.length→¬ ((C7 all.toArray).getD i 0).testBit k=true:=by
      intro i hi hil hb;exact hkf' (Xx hc i _ (A9 hil) (fun e he hb=>hc i _ (A9 hil) hi e he hb) k hb)
    have hsz':(listed.setIfInBounds k true).size=all.length:=by simp[hsz]
    have hset:∀ i,(listed.setIfInBounds k true).getD i false=true↔(i=k∨listed.getD i false=true):=by
      intro i;by_cases hik:i=k
      · subst hik
        have hkk:i<listed.size:=by omega
        simp[hkk]
      · rw[getD_set_ne false (fun e=>hik e.symm)]
        simp[hik]
    have hc':Closed all (fun i=>(listed.setIfInBounds k true).getD i false=true):=by
      intro j o ho hj e he hb;rw[hset]at hj ⊢
      rcases hj with rfl | hj
      · rw[hok']at ho
        cases ho;exact .inr (hkall e (by simpa using he) hb)
      · exact .inr (hc j o ho hj e he hb)
    have hu':Jk all.length (listed.setIfInBounds k true)≤fuel:=by
      have:Jk all.length (listed.setIfInBounds k true)<Jk all.length listed:=by
        unfold Jk;refine Uy (x:=k) (fun i hi hq=>?_) (List.mem_range.2 hkl) (by rw[hk0];rfl) ?_
        · have hil:=List.mem_range.1 hi
          simp only[A4]at hq ⊢;rw[XV (by omega)]at hq ⊢
          cases hv:listed.getD i false with
          | false=>rfl
          | true =>
            have:=(hset i).2 (.inr hv);rw[this]at hq;cases hq
        · have hkk:k<listed.size:=by omega
          simp[hkk]
      omega
    have hwp:∀ (K:Act→World→Prop),(if Region.wanted ok (yielded all.toArray a.tmps) then ok.wp P a w K Q else K (a.put ok.dst undef) w)→wpOp P all.toArray Q k K a w:=by
      intro K hK;unfold wpOp;rw[hok];simp only;split
      · rename_i hw;rw[if_pos hw]at hK;exact .inl hK
      · rename_i hw;rw[if_neg hw]at hK;exact hK
    refine hwp _ ?_
    have hname:∀ t,t∈namesOf all.toArray ok→∀ x,look (es k) t=some x→look E t=some x:=by
      intro t ht x hx;refine hkn t x ?_;by_cases hw:∃ (i:Nat) (o:Oper),i<k∧all[i]? = some o∧o.dst=some t
      · obtain⟨i,o,hik,ho,hd⟩:=hw
        have hS:listed.getD i false=true:=by
          rcases (hpair hik ho hok').2 with h1 | h1
          · exact hdeps i h1
          · exact absurd ht (h1.1 t hd)
        have nok:∀ (m:Nat) (om:Oper),all[m]? = some om→m<k→m≠i→t ∉ killsB om:=by
          intro m om hom hmk hmi hmem;exact (hpair hmk hom hok').1 t hmem (fun e=>hmi (ZT hnd hom ho e hd)) ht
        refine .inl ⟨i,o,ho,hS,hd,fun m om hom hSm hmi hmem=>?_,?_⟩
        · rcases Nat.lt_or_ge m k with hmk | hmk
          · exact nok m om hom hmk hmi hmem
          · rcases Nat.eq_or_lt_of_le hmk with e | hkm
            · exact hkf' (e ▸ hSm)
            · rcases (hpair hkm hok' hom).2 with h1 | h1
              · exact hnot m hSm (List.getElem?_eq_some_iff.1 hom).1 h1
              · exact h1.2.2.2 t hmem ht
        · rw[← stableB hes hm (i:=i+1) k hik (by omega) fun m om h1 h2 hom=>?_]
          · exact hx
          · exact⟨fun e=>by have:=ZT hnd hom ho e hd;omega,nok m om hom h2 (by omega)⟩
      · refine .inr ⟨fun i o ho hd hSi=>?_,?_⟩
        · rcases Nat.lt_or_ge i k with hik | hik
          · exact hw ⟨i,o,hik,ho,hd⟩
          · rcases Nat.eq_or_lt_of_le hik with e | hki
            · exact hkf' (e ▸ hSi)
            · rcases (hpair hki hok' ho).2 with h1 | h1
              · exact hnot i hSi (List.getElem?_eq_some_iff.1 ho).1 h1
              · exact h1.2.1 t hd ht
        · rw[← stableB hes hm (i:=0) k (Nat.zero_le _) (by omega) fun m om h1 h2 hom=>?_]
          · exact hx
          · have hne:om.dst≠some t:=fun e=>hw ⟨m,om,h2,hom,e⟩
            exact⟨hne,fun hmem=>(hpair h2 hom hok').1 t hmem hne ht⟩
    obtain⟨d,v,cl,hd,hv,hvl,hcl,e1,hsem⟩:=hes k ok hok'
    have hNA:NA all ok (es k) E:=by
      intro t ht y hy;unfold lookS at hy ⊢
      cases hl:look (es k) t with
      | none=>rw[hl]at hy;cases hy
      | some z =>
        rw[hl]at hy;rw[hname t ht z hl];exact hy
    have noK:∀ {t:Nat} {j:Nat} {x:AV},j≤all.length→look (es j) t=some x→t ∉ killsB ok→unlV cl x=x:=by
      intro t j x hj hx hnk
      refine Nm fun c hc=>?_
      cases hb:x.hasLabB c with
      | false=>rfl
      | true =>
        exfalso;have hck:=hcl c hc;have:=hm j hj t x c hx hb (List.mem_flatMap.2 ⟨ok,A7 hok',hck⟩);exact hnk (this ▸ hck)
    refine hsem E hNA bs M O a w h _ Q fun a' w' M' O' h'=>ih _ a' w' M' O' _ hsz' hc' (fun t x hx=>?_) hu' h'
    rw[qR]
    rcases hx with ⟨i,o,ho,hS,hdi,hnk,hlk⟩ | ⟨hno,hlk⟩
    · split
      · rename_i htd
        subst htd;have hik:=ZT hnd ho hok' hdi hd;subst hik;rw[e1,qR,if_pos rfl]at hlk;exact hlk
      · rename_i htd
        have hik:i≠k:=fun e=>by
          subst e;rw[hok']at ho;cases ho;rw[hd]at hdi;exact htd (Option.some.inj hdi).symm
        have hSi:=((hset i).1 hS).resolve_left hik;have hE:=hkn t x (.inl ⟨i,o,ho,hSi,hdi,fun m om hom hSm hmi=>hnk m om hom ((hset m).2 (.inr hSm)) hmi,hlk⟩);rw[QA,hE];simp only[C0];rw[noK (List.getElem?_eq_some_iff.1 ho).1 hlk (hnk k ok hok' ((hset k).2 (.inl rfl)) (fun e=>hik e.symm))]
    · split
      · rename_i htd
        subst htd;exact absurd ((hset k).2 (.inl rfl)) (hno k ok hok' hd)
      · have hE:=hkn t x (.inr ⟨fun i o ho hdi hSi=>hno i o ho hdi ((hset i).2 (.inr hSi)),hlk⟩)
        rw[QA,hE];simp only[C0]
        congr 1
        refine Nm fun c hc=>?_
        unfold banOk at hban;rw[A3]at hban;have:=hban c (List.mem_flatMap.2 ⟨ok,A7 hok',hcl c hc⟩);simp only[A4]at this;exact Vm this hlk
theorem qan {bs:Base} {M:Mem} {O:Gh} {a:Act} {w:World} {id:Nat} {ops:Array Oper} {e e':Env} (hmix:P.follows .mixedOrders=true) (hord:orderB ops=true) (hback:jA ops=true) (hban:banOk ops.toList e=true)
    (hc:ChainB P n ops.toList ops.toList e e') (h:Inv bs n M O e a w) {Q:Exit→Act→World→Prop} (hQ:∀ a' w' M' O',Inv bs n M' O' (dropB ops.toList e') a' w'→Q .normal a' w'):(Code.region id ops true).wp P Q a w:=by
  obtain⟨es,h1,h2,h3⟩:=qbM hc;have ea:ops.toList.toArray=ops:=Array.toArray_toList;refine wp_region_any hmix ?_;have hdr:Inv bs n M O e a { w with drawn:=w.drawn+1 }:=h.grown (row:=none) (fun g e=>by cases e) ⟨rfl,rfl,rfl,A8 _,fun _ _ _=>rfl⟩ (Sub.refl M) (fun b o u hu=>h.cons b o u hu) (fun _ _ _ _=>rfl)
  have hnone:∀ i,¬ (C8 ops.size false).getD i false=true:=by
    intro i hi;simp[Array.getElem?_replicate]at hi;split at hi <;> simp at hi
  have:=qcL (P:=P) (n:=n) (all:=ops.toList) (es:=es) (bs:=bs) (Q:=Q) h3 (by rw[ea];exact hord) (by rw[ea];exact hback) (by rw[h1];exact hban) (fun a' w' M' O' h'=>hQ a' w' M' O' (by rw[← h2];exact h')) ops.size (C8 ops.size false) a { w with drawn:=w.drawn+1 } M O e (by simp)
    (fun j o ho hj=>absurd hj (hnone j))
    (fun t x hx=>by
      rcases hx with ⟨i,o,ho,hS,_⟩ | ⟨_,hlk⟩
      · exact absurd hS (hnone i)
      · rw[h1]at hlk;exact hlk)
    (by
      unfold Jk;have:=List.countP_le_length (p:=fun i=>!(C8 ops.size false).getD i true) (l:=List.range ops.toList.length)
      simpa using this) hdr
  rw[ea]at this;exact this
end
end Go.AM
namespace Go.AM
open Go.RowKit
section
variable {n:Nat} {P:Program} {all:List Oper}
theorem LE.refl (E:Env):LE E E:=fun _=>rfl
theorem LE.symm {E F:Env} (h:LE E F):LE F E:=fun t=>(h t).symm
theorem LE.trans {E F G:Env} (h:LE E F) (k:LE F G):LE E G:=fun t=>(h t).trans (k t)
theorem LE.ins {E F:Env} (h:LE E F) (d:Nat) (x:AV):LE (ins d x E) (ins d x F):=fun t=>by rw[qR,qR,h t]
theorem LE.insO {E F:Env} (h:LE E F) (d:Option Nat) (x:AV):LE (insO d x E) (insO d x F):=by
 cases d with
 | none=>exact h
 | some d=>exact h.ins d x
theorem LE.map {E F:Env} (h:LE E F) (g:AV→AV):LE (E.map fun p=>(p.1,g p.2)) (F.map fun p=>(p.1,g p.2)):=fun t=>by rw[QZ g,QZ g,h t]
theorem LE.inv {bs:Base} {M:Mem} {O:Gh} {E F:Env} {a:Act} {w:World} (h:LE E F) (hi:Inv bs n M O E a w):Inv bs n M O F a w:=hi.looks fun s=>(h s).symm
theorem Nz {o:Oper} {E F E1 F1:Env} (h:StepSem P n all o E E1) (h1:LE E F) (h2:LE E1 F1):StepSem P n all o F F1:=fun bs M O a w hi K Q hK =>
 h bs M O a w (h1.symm.inv hi) K Q fun a' w' M' O' h'=>hK a' w' M' O' (h2.inv h')
theorem Xa {s t:Nat} (h:t≠s):∀ (E:Env),look (E.filter fun q=>!A0 q.1 s) t=look E t
 | []=>rfl
 | (r,x)::E=>by
  simp only[C6];split
  ·simp only[look];split
   ·rfl
   ·exact Xa h E
  ·rename_i hr;rw[Xa h E];simp only[look];split
   ·rename_i ht;have:=A1 ht;subst this;exfalso;apply hr;simp only[A4]
    exact Bool.eq_false_iff.2 fun e=>h (A1 e)
   ·rfl
def ded:Env→Env
 | []=>[]
 | p::r=>p::(ded r).filter fun q=>!A0 q.1 p.1
theorem VK:∀ (E:Env) (t:Nat),look (ded E) t=look E t
 | [],t=>rfl
 | (s,x)::r,t=>by
  simp only[ded,look];split
  ·rfl
  ·rename_i hs
   have hne:t≠s:=fun e=>by subst e;simp at hs
   rw[Xa hne];exact VK r t
theorem qcW:∀ {E:Env} {p:Nat×AV},p∈ded E→look E p.1=some p.2
 | (s,x)::r,p,h=>by
  simp only[ded,List.mem_cons,List.mem_filter]at h
  rcases h with rfl | ⟨h,hne⟩
  ·simp[look]
  ·have h1:=qcW h;simp only[look];split
   ·rename_i hs;have:=A1 hs;rw[this]at hne;simp at hne
   ·exact h1
theorem qdR {id:Nat} {E:Env} (h:ClearL id E):clearOf id (ded E)=true:=by
 unfold clearOf;rw[A3];intro p hp;have h1:=qcW hp;simp only[A2,A4];refine⟨Bool.eq_false_iff.2 fun e=>?_,h.2 _ _ h1⟩;have:=A1 e;rw[this,h.1]at h1;cases h1
def Fr (o:Oper) (E:Env):Prop:=∀ d,o.dst=some d→look E d=none∧d<1000000
def IsP (P:Program) (n:Nat) (all:List Oper) (o:Oper) (E E1:Env):Prop :=
 isEff o.op=false∧∃ x,x.ent=false∧LE (insO o.dst x E) E1∧∀ F,NA all o E F→(memFree o.op=true∨EA E F)→StepSem P n all o F (insO o.dst x F)
def Stp (P:Program) (n:Nat) (all:List Oper) (o:Oper) (E E1:Env):Prop :=
 StepSem P n all o E E1∧Fr o E∧(isEff o.op=false→IsP P n all o E E1)∧(o.guard=none→isMk o.op=true→IsA P n all o E E1)∧(o.guard=none→isApp o.op=true→IsB P n all o E E1)
theorem qet {o:Oper} {E F G:Env} (h:LE E F) (k:NA all o F G):NA all o E G:=fun t ht y hy=>k t ht y (by unfold lookS at hy ⊢;rw[← h t];exact hy)
theorem qfz {E F G:Env} (h:LE E F) (k:EA F G):EA E G:=fun s x hx hl=>k s x hx (by rw[← h s];exact hl)
theorem qeM {id:Nat} {E F:Env} (h:LE E F) (k:ClearL id E):ClearL id F:=⟨by rw[← h id];exact k.1,fun s x hx=>k.2 s x (by rw[h s];exact hx)⟩
theorem Stp.le {o:Oper} {E F E1:Env} (h:Stp P n all o E E1) (hl:LE E F):Stp P n all o F E1:=by
 obtain⟨h1,h2,h3,h4,h5⟩:=h;refine⟨Nz h1 hl (LE.refl _),fun d hd=>⟨by rw[← hl d];exact (h2 d hd).1,(h2 d hd).2⟩,fun he=>?_,fun hg he=>?_,fun hg he=>?_⟩
 ·obtain⟨k0,x,k1,k2,k3⟩:=h3 he;exact⟨k0,x,k1,(hl.symm.insO _ _).trans k2,fun G hG hm=>k3 G (qet hl hG) (hm.imp id fun hm=>qfz hl hm)⟩
 ·obtain⟨k0,d,x,y,k1,k2,k3,k4,k5⟩:=h4 hg he;exact⟨k0,d,x,y,k1,k2,qeM hl k3,((hl.symm.ins _ _).ins _ _).trans k4,fun G hG=>k5 G (qet hl hG)⟩
 ·obtain⟨k0,k⟩:=h5 hg he;refine⟨k0,k.imp id ?_⟩
  rintro⟨d,v,g,k1,k2,k3,k4,k5⟩
  exact⟨d,v,g,k1,((hl.symm.map g).ins _ _).trans k2,k3,fun x hx t ht=>by rw[← hl t];exact k4 x hx t ht,fun G hG=>k5 G (qet hl hG)⟩
inductive Ch (P:Program) (n:Nat) (all:List Oper):List Nat→Env→Env→Prop where
 | nil {E E'}:LE E E'→Ch P n all [] E E'
 | cons {i o R E E1 E'}:all[i]? = some o→Stp P n all o E E1→Ch P n all R E1 E'→Ch P n all (i::R) E E'
theorem Ch.le {R:List Nat} {E F E':Env} (h:Ch P n all R E E') (hl:LE E F):Ch P n all R F E':=by
 cases h with
 | nil h=>exact .nil (hl.symm.trans h)
 | cons h1 h2 h3=>exact .cons h1 (h2.le hl) h3
theorem HA {g:AV→AV} {e:Env} {t:Nat} (h:look e t=none):look (e.map fun p=>(p.1,g p.2)) t=none:=by
 rw[QZ g,h];rfl
theorem Yt {l:Nat} {x:AV} (h:plainV (some x)=true):x.relabB l none=x:=by
 cases x with
 | box cs=>cases h
 | agr cs=>cases h
 | lst e k lab xs=>cases lab with
  | none=>rfl
  | some c=>cases h
 | _=>rfl
theorem Nd {t t' d:Nat} {a b v:AV} {e e':Env} (h:aappend P t t' d a b e=some (v,e')) :
  ∃ g:AV→AV,(∀ x,plainV (some x)=true→g x=x)∧e'=e.map (fun p=>(p.1,g p.2))∧∀ F:Env,aappend P t t' d a b F=some (v,F.map fun p=>(p.1,g p.2)):=by
 unfold aappend at h ⊢;split at h
 case h_2=>cases h
 rename_i el s hse;split at h
 ·cases h
 rename_i hc;split at h
 ·cases h
 case h_3=>cases h
 rename_i ey ky l ys;split at h
 ·cases h
 rename_i hky;split at h
 ·split at h
  ·rename_i hb;cases h;refine⟨fun x=>x.relabB d none,fun x hx=>Yt hx,rfl,fun F=>?_⟩;simp only[hse,hky];rw[if_pos hb];rfl
  ·cases h
 ·rename_i ex kx c xs;split at h
  ·cases h
  rename_i hx;split at h
  ·rename_i hb;cases h;refine⟨fun x=>(x.relabB c none).relabB d none,fun x hx=>by show (x.relabB c none).relabB d none=x;rw[Yt hx,Yt hx],by simp[relabE,List.map_map,Function.comp],fun F=>?_⟩;simp only[hse,hky,hx];rw[if_pos hb];simp[relabE,List.map_map,Function.comp]
  ·cases h
 ·cases h
theorem Xn {e:Env} {d t:Nat} {x:AV} (h:t≠d) (hl:look e t=none):look (ins d x e) t=none:=by rw[qR,if_neg h];exact hl
theorem Je {o:Option Nat} {v:AV} {e e1:Env} (h:eput n o v e=some e1) {t:Nat} (ht:o≠some t) (hl:look e t=none):look e1 t=none:=by
 obtain⟨rfl,_,_⟩:=JE h;rw[XU ht];exact hl
theorem qaA {s t:Nat} {e:Env} (hl:look e t=none):look (forget s e) t=none:=by
 cases h:look (forget s e) t with
 | none=>rfl
 | some y =>
  obtain⟨_,z,hz,_⟩:=QV h;rw[hl]at hz;cases hz
theorem qfh {o:Oper} {e e1:Env} (hw:awanted all o e=some true) (hl:lfOk all o e=true) (he:astep P n o e=some e1) (heff:isEff o.op=true) (hst:isStore o.op=false):Hard P n all o e e1:=by
 refine⟨⟨heff,hst⟩,fun t ht hd hn=>?_,fun _ hm=>?_,fun _ ha=>?_⟩
 ·
  have ge:∀ d:Nat,t≠1000000+d:=fun d e=>absurd ht (Nat.not_lt_of_le (by rw[e];exact Nat.le_add_right _ _))
  unfold astep at he;split at he
  ·split at he
   ·rename_i d hd';split at he
    ·split at he
     ·exact Je he hd hn
     ·cases he
    ·cases he
   ·cases he
  ·split at he
   ·split at he
    ·exact Je he hd hn
    ·split at he
     ·exact Je he hd hn
     ·cases he
   ·split at he
    ·exact Je he hd hn
    ·cases he
   ·cases he
  ·rename_i ho;rw[ho]at hst;cases hst
  ·split at he
   ·split at he
    ·split at he
     ·split at he
      ·rw[C2]at he;obtain⟨e2,h1,rfl⟩:=he;exact Xn (ge _) (Je h1 hd hn)
      ·cases he
     ·cases he
    ·cases he
   ·cases he
  ·split at he
   ·rename_i x y t1 t2 d _ _ hdst
    have htd:t≠d:=fun e=>by subst e;exact hd hdst
    split at he
    ·
     unfold Yk at he;split at he
     case h_2=>cases he
     split at he
     ·cases he
     simp only at he;split at he
     case h_2=>cases he
     split at he
     case h_2=>cases he
     split at he
     case h_2=>cases he
     split at he
     ·cases he;exact Xn (ge _) (Xn htd (qaA hn))
     ·cases he
    ·split at he
     ·rename_i v env1 hap;obtain⟨g,_,rfl,_⟩:=Nd hap;exact Je he hd (HA hn)
     ·cases he
    ·cases he
   ·cases he
  ·split at he
   ·exact Je he hd hn
   ·cases he
  ·split at he
   ·split at he
    ·rw[C2]at he;obtain⟨e2,h1,rfl⟩:=he;exact Xn (ge _) (Je h1 hd hn)
    ·cases he
   ·cases he
  ·split at he
   ·split at he
    ·rename_i hlk;split at he
     ·split at he
      ·cases he;exact Xn (fun e=>by rw[e]at hn;rw[hn]at hlk;cases hlk) hn
      ·cases he;exact Xn (fun e=>by rw[e]at hn;rw[hn]at hlk;cases hlk) hn
     ·cases he
    ·cases he
   ·cases he
  ·split at he
   ·split at he
    ·rw[C2]at he;obtain⟨e2,h1,rfl⟩:=he;exact Xn (ge _) (Je h1 hd hn)
    ·cases he
   ·cases he
  ·split at he
   ·exact Je he hd hn
   ·cases he
 ·
  refine⟨hm,?_⟩
  cases hop:o.op with
  | makeSlice t l c =>
   have he0:=he;unfold astep at he;rw[hop]at he;simp only at he;split at he
   case h_2=>cases he
   rename_i d k m k' m' el s hd hl1 hc1 hse;split at he
   case h_2=>cases he
   rename_i z hz hcl;split at he
   case h_2=>cases he
   rename_i hzz;split at he
   case isFalse=>cases he
   rename_i hb;rw[C2]at he;obtain⟨e2,h1,rfl⟩:=he;rw[hd]at h1;obtain⟨hdn,rfl,_⟩:=Yg h1;simp only[A2]at hcl;obtain⟨c1,c2⟩:=jU hcl.1;refine⟨d,.sb (1000000+d) el s 0 m.toNat,.obj el s (List.replicate m.toNat (elemOf z s)),hd,rfl,⟨by cases hh:look e (1000000+d) with | none=>rfl | some y=>exact absurd hh (c1 y),c2⟩,LE.refl _,fun F hF hcF hFd=>?_⟩;have hlF:LE (ded F) F:=VK F
   have hN:NA all o e (ded F):=fun t ht y hy=>by
    have:=hF t ht y hy;unfold lookS at this ⊢;rw[VK];exact this
   have hk:=JU hN
   have hst2:astep P n o (ded F)=some (ins (1000000+d) (.obj el s (List.replicate m.toNat (elemOf z s))) (ins d (.sb (1000000+d) el s 0 m.toNat) (ded F))):=by
    unfold astep;rw[hop];have k1:=hk l (by rw[hop];simp[Op.operands]) _ hl1;have k2:=hk c (by rw[hop];simp[Op.operands]) _ hc1;simp only[hd,k1,k2,hse,hz,qdR hcF,hcl.2,C9,hzz];rw[if_pos hb];unfold eput;simp only[VK,hFd];have:Nat.blt d n=true:=B5 hdn;simp only[this,C9,C0]
   exact Nz (VC (jP hN hw) hst2) hlF ((hlF.ins _ _).ins _ _)
  | _=>rw[hop]at hm;cases hm
 ·
  refine⟨ha,?_⟩;unfold isApp at ha;split at ha
  case h_2=>cases ha
  rename_i args ats hop;have he0:=he;unfold astep at he;rw[hop]at he;simp only at he;split at he
  case h_2=>cases he
  rename_i x y t t' d hax hat hd;unfold lfOk at hl;rw[hop]at hl;simp only[hax]at hl;rw[A3]at hl
  have hlf:∀ xo,Unord all o xo→isMv xo.op=true∧(match aop e x with | some (.sb ..)=>false | _=>true)=true∧∀ t,t∈namesOf all.toArray xo→plainV (look e t)=true:=by
   rintro xo ⟨k,i,hk,hi,hne,h1,h2⟩
   have hmem:∀ {k:Nat} {o:Oper},all[k]? = some o→(o,k)∈all.zipIdx:=fun {k o} h=>by
    rw[D1];exact⟨k,by simp[D2,h]⟩
   have q:=hl (o,k) (hmem hk);simp only[B9]at q
   rcases q with q | q
   ·rw[hd]at q;simp at q
   ·rw[A3]at q;have q:=q (xo,i) (hmem hi);simp only[h1,h2,Bool.false_or,B9,A2,A3]at q
    rcases q with q | q
    ·exact absurd (A1 q) hne
    ·exact q
  split at he
  ·
   rename_i id ex kx off m q hpx hqx
   refine .inl fun xo hxo=>?_
   have:=(hlf xo hxo).2.1;rw[hpx]at this;cases this
  ·rename_i p q hns hpx hqx;split at he
   case h_2=>cases he
   rename_i v env1 hap;obtain⟨g,g1,rfl,g2⟩:=Nd hap;rw[hd]at he;obtain⟨hdn,rfl,_⟩:=Yg he;refine .inr ⟨d,v,g,hd,LE.refl _,g1,fun xo hxo=>(hlf xo hxo).2.2,fun F hF hFd=>?_⟩;have hk:=JU hF
   have hst2:astep P n o F=some (ins d v (F.map fun p=>(p.1,g p.2))):=by
    unfold astep;rw[hop]
    have ea:args=#[x,y]:=by apply Array.ext';simpa using hax
    have k1:=hk x (by rw[hop,ea];simp[Op.operands,Call.operands]) _ hpx;have k2:=hk y (by rw[hop,ea];simp[Op.operands,Call.operands]) _ hqx;simp only[hax,hat,hd,k1,k2]
    have hgo:(match aappend P t t' d p q F with | some (v,env1)=>eput n (some d) v env1 | none=>none)=some (ins d v (F.map fun p=>(p.1,g p.2))):=by
     rw[g2 F];simp only;unfold eput;simp only[QZ g,hFd,Option.map_none];have:Nat.blt d n=true:=B5 hdn;simp only[this,C9]
    cases p with
    | sb id ex kx off m=>exact absurd rfl (hns id ex kx off m)
    | _=>exact hgo
   exact VC (jP hF hw) hst2
  ·cases he
theorem DD {o:Oper} {e e1:Env} (hx:∃ f args ats,o.op=.call { callee:=.value f,args:=args,argTypes:=ats }) (heff:isEff o.op=true) (hst:isStore o.op=false) (hf:∀ t,t<1000000→o.dst≠some t→look e t=none→look e1 t=none):Hard P n all o e e1:=by
 obtain⟨f,args,ats,ho⟩:=hx;refine⟨⟨heff,hst⟩,hf,?_,?_⟩
 ·intro _ hm;rw[ho]at hm;cases hm
 ·intro _ hm;rw[ho]at hm;cases hm
theorem qeB {o:Oper} {e e1:Env} (hw:awanted all o e=some false) (he:eput n o.dst .und e=some e1) (heff:isEff o.op=true) (hst:isStore o.op=false):Hard P n all o e e1:=by
 have hg:o.guard≠none:=fun hg=>by
  unfold awanted at hw;rw[hg]at hw;cases hw
 exact⟨⟨heff,hst⟩,fun t _ hd hn=>Je he hd hn,fun h=>absurd h hg,fun h=>absurd h hg⟩
end
end Go.AM
namespace Go.AM
open Go.RowKit
variable {P:Program} {n:Nat} {all:List Oper}
def AnyOk (P:Program) (n:Nat) (all:List Oper) (R:List Nat) (e e':Env):Prop :=
 ∀ (bs:Base) (Q:Exit→Act→World→Prop),jA all.toArray=true→(∀ a' w' M' O',Inv bs n M' O' e' a' w'→Q .normal a' w') →
  ∀ (fuel:Nat) (listed:Array Bool) (a:Act) (w:World) (M:Mem) (O:Gh),listed.size=all.length→Closed all (fun i=>listed.getD i false=true)→R.Nodup→(∀ i,i∈R→i<all.length)→(∀ i,i<all.length→(i∈R↔listed.getD i false=false)) →
   Jk all.length listed≤fuel→Inv bs n M O e a w→wpAny P .any all.toArray Q fuel listed a w
end Go.AM
