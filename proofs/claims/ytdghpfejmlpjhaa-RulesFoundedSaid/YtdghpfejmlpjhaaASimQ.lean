/- s -/
import Derived.Test.YtdghpfejmlpjhaaASimT
import Derived.Test.YtdghpfejmlpjhaaARun
set_option linter.unusedVariables false
set_option linter.unusedSimpArgs false
set_option maxRecDepth 100000
namespace Go.AM
open Go.RowKit
section
variable {n:Nat} {P:Program} {all:List Oper}
theorem LE.refl (E:Env):LE E E:=fun _=>rfl
theorem LE.symm {E F:Env} (h:LE E F):LE F E:=fun t=>(h t).symm
theorem LE.trans {E F G:Env} (h:LE E F) (k:LE F G):LE E G:=fun t=>(h t).trans (k t)
theorem LE.ins {E F:Env} (h:LE E F) (d:Nat) (x:AV):LE (ins d x E) (ins d x F):=fun t=>by rw[qW,qW,h t]
theorem LE.insO {E F:Env} (h:LE E F) (d:Option Nat) (x:AV):LE (insO d x E) (insO d x F):=by
 cases d with
 | none=>exact h
 | some d=>exact h.ins d x
theorem LE.map {E F:Env} (h:LE E F) (g:AV→AV):LE (E.map fun p=>(p.1,g p.2)) (F.map fun p=>(p.1,g p.2)):=fun t=>by rw[Yk g,Yk g,h t]
theorem LE.inv {bs:Base} {M:Mem} {O:Gh} {E F:Env} {a:Act} {w:World} (h:LE E F) (hi:Inv bs n M O E a w):Inv bs n M O F a w:=hi.looks fun s=>(h s).symm
theorem Dr {o:Oper} {E F E1 F1:Env} (h:StepSem P n all o E E1) (h1:LE E F) (h2:LE E1 F1):StepSem P n all o F F1:=fun bs M O a w hi K Q hK =>
 h bs M O a w (h1.symm.inv hi) K Q fun a' w' M' O' h'=>hK a' w' M' O' (h2.inv h')
theorem Yl {s t:Nat} (h:t≠s):∀ (E:Env),look (E.filter fun q=>!Nat.beq q.1 s) t=look E t
 | []=>rfl
 | (r,x)::E=>by
  simp only[List.filter_cons]
  split
  ·simp only[look]
   split
   ·rfl
   ·exact Yl h E
  ·rename_i hr;rw[Yl h E];simp only[look]
   split
   ·rename_i ht;have:=Nat.eq_of_beq_eq_true ht;subst this;exfalso;apply hr;simp only[Bool.not_eq_true']
    exact Bool.eq_false_iff.2 fun e=>h (Nat.eq_of_beq_eq_true e)
   ·rfl
def ded:Env→Env
 | []=>[]
 | p::r=>p::(ded r).filter fun q=>!Nat.beq q.1 p.1
theorem Ns:∀ (E:Env) (t:Nat),look (ded E) t=look E t
 | [],t=>rfl
 | (s,x)::r,t=>by
  simp only[ded,look]
  split
  ·rfl
  ·rename_i hs
   have hne:t≠s:=fun e=>by subst e;simp at hs
   rw[Yl hne];exact Ns r t
theorem qfh:∀ {E:Env} {p:Nat×AV},p∈ded E→look E p.1=some p.2
 | (s,x)::r,p,h=>by
  simp only[ded,List.mem_cons,List.mem_filter]at h
  rcases h with rfl | ⟨h,hne⟩
  ·simp[look]
  ·have h1:=qfh h;simp only[look]
   split
   ·rename_i hs;have:=Nat.eq_of_beq_eq_true hs;rw[this]at hne
    simp at hne
   ·exact h1
theorem qgh {id:Nat} {E:Env} (h:ClearL id E):clearOf id (ded E)=true:=by
 unfold clearOf;rw[List.all_eq_true];intro p hp;have h1:=qfh hp;simp only[Bool.and_eq_true,Bool.not_eq_true'];refine⟨Bool.eq_false_iff.2 fun e=>?_,h.2 _ _ h1⟩;have:=Nat.eq_of_beq_eq_true e;rw[this,h.1]at h1;cases h1
def Fr (o:Oper) (E:Env):Prop:=∀ d,o.dst=some d→look E d=none∧d<1000000
def IsP (P:Program) (n:Nat) (all:List Oper) (o:Oper) (E E1:Env):Prop :=
 isEff o.op=false∧∃ x,x.ent=false∧LE (insO o.dst x E) E1∧∀ F,NA all o E F→(memFree o.op=true∨EA E F)→StepSem P n all o F (insO o.dst x F)
def Stp (P:Program) (n:Nat) (all:List Oper) (o:Oper) (E E1:Env):Prop :=
 StepSem P n all o E E1∧Fr o E∧(isEff o.op=false→IsP P n all o E E1)∧(o.guard=none→isMk o.op=true→IsA P n all o E E1)∧(o.guard=none→isApp o.op=true→IsB P n all o E E1)
theorem qgL {o:Oper} {E F G:Env} (h:LE E F) (k:NA all o F G):NA all o E G:=fun t ht y hy=>k t ht y (by unfold lookS at hy ⊢;rw[← h t];exact hy)
theorem qhY {E F G:Env} (h:LE E F) (k:EA F G):EA E G:=fun s x hx hl=>k s x hx (by rw[← h s];exact hl)
theorem qhj {id:Nat} {E F:Env} (h:LE E F) (k:ClearL id E):ClearL id F:=⟨by rw[← h id];exact k.1,fun s x hx=>k.2 s x (by rw[h s];exact hx)⟩
theorem Stp.le {o:Oper} {E F E1:Env} (h:Stp P n all o E E1) (hl:LE E F):Stp P n all o F E1:=by
 obtain⟨h1,h2,h3,h4,h5⟩:=h;refine⟨Dr h1 hl (LE.refl _),fun d hd=>⟨by rw[← hl d];exact (h2 d hd).1,(h2 d hd).2⟩,fun he=>?_,fun hg he=>?_,fun hg he=>?_⟩
 ·obtain⟨k0,x,k1,k2,k3⟩:=h3 he;exact⟨k0,x,k1,(hl.symm.insO _ _).trans k2,fun G hG hm=>k3 G (qgL hl hG) (hm.imp id fun hm=>qhY hl hm)⟩
 ·obtain⟨k0,d,x,y,k1,k2,k3,k4,k5⟩:=h4 hg he;exact⟨k0,d,x,y,k1,k2,qhj hl k3,((hl.symm.ins _ _).ins _ _).trans k4,fun G hG=>k5 G (qgL hl hG)⟩
 ·obtain⟨k0,k⟩:=h5 hg he;refine⟨k0,k.imp id ?_⟩
  rintro⟨d,v,g,k1,k2,k3,k4,k5⟩
  exact⟨d,v,g,k1,((hl.symm.map g).ins _ _).trans k2,k3,fun x hx t ht=>by rw[← hl t];exact k4 x hx t ht,fun G hG=>k5 G (qgL hl hG)⟩
inductive Ch (P:Program) (n:Nat) (all:List Oper):List Nat→Env→Env→Prop where
 | nil {E E'}:LE E E'→Ch P n all [] E E'
 | cons {i o R E E1 E'}:all[i]? = some o→Stp P n all o E E1→Ch P n all R E1 E'→Ch P n all (i::R) E E'
theorem Ch.le {R:List Nat} {E F E':Env} (h:Ch P n all R E E') (hl:LE E F):Ch P n all R F E':=by
 cases h with
 | nil h=>exact .nil (hl.symm.trans h)
 | cons h1 h2 h3=>exact .cons h1 (h2.le hl) h3
theorem qaD {g:AV→AV} {e:Env} {t:Nat} (h:look e t=none):look (e.map fun p=>(p.1,g p.2)) t=none:=by
 rw[Yk g,h];rfl
theorem ZH {l:Nat} {x:AV} (h:plainV (some x)=true):x.relabB l none=x:=by
 cases x with
 | box cs=>cases h
 | agr cs=>cases h
 | lst e k lab xs=>cases lab with
  | none=>rfl
  | some c=>cases h
 | _=>rfl
theorem HX {t t' d:Nat} {a b v:AV} {e e':Env} (h:aappend P t t' d a b e=some (v,e')) :
  ∃ g:AV→AV,(∀ x,plainV (some x)=true→g x=x)∧e'=e.map (fun p=>(p.1,g p.2))∧∀ F:Env,aappend P t t' d a b F=some (v,F.map fun p=>(p.1,g p.2)):=by
 unfold aappend at h ⊢
 split at h
 case h_2=>cases h
 rename_i el s hse
 split at h
 ·cases h
 rename_i hc
 split at h
 ·cases h
 case h_3=>cases h
 rename_i ey ky l ys
 split at h
 ·cases h
 rename_i hky
 split at h
 ·split at h
  ·rename_i hb;cases h;refine⟨fun x=>x.relabB d none,fun x hx=>ZH hx,rfl,fun F=>?_⟩;simp only[hse,hky];rw[if_pos hb];rfl
  ·cases h
 ·rename_i ex kx c xs
  split at h
  ·cases h
  rename_i hx
  split at h
  ·rename_i hb;cases h;refine⟨fun x=>(x.relabB c none).relabB d none,fun x hx=>by show (x.relabB c none).relabB d none=x;rw[ZH hx,ZH hx],by simp[relabE,List.map_map,Function.comp],fun F=>?_⟩;simp only[hse,hky,hx];rw[if_pos hb];simp[relabE,List.map_map,Function.comp]
  ·cases h
 ·cases h
theorem Yw {e:Env} {d t:Nat} {x:AV} (h:t≠d) (hl:look e t=none):look (ins d x e) t=none:=by rw[qW,if_neg h];exact hl
theorem JF {o:Option Nat} {v:AV} {e e1:Env} (h:eput n o v e=some e1) {t:Nat} (ht:o≠some t) (hl:look e t=none):look e1 t=none:=by
 obtain⟨rfl,_,_⟩:=Qo h;rw[Zc ht];exact hl
theorem qcr {s t:Nat} {e:Env} (hl:look e t=none):look (forget s e) t=none:=by
 cases h:look (forget s e) t with
 | none=>rfl
 | some y =>
  obtain⟨_,z,hz,_⟩:=Ya h;rw[hl]at hz;cases hz
theorem qhH {o:Oper} {e e1:Env} (hw:awanted all o e=some true) (hl:lfOk all o e=true) (he:astep P n o e=some e1) (heff:isEff o.op=true) (hst:isStore o.op=false):Hard P n all o e e1:=by
 refine⟨⟨heff,hst⟩,fun t ht hd hn=>?_,fun _ hm=>?_,fun _ ha=>?_⟩
 ·
  have ge:∀ d:Nat,t≠1000000+d:=fun d e=>absurd ht (Nat.not_lt_of_le (by rw[e];exact Nat.le_add_right _ _))
  unfold astep at he
  split at he
  ·split at he
   ·rename_i d hd'
    split at he
    ·split at he
     ·exact JF he hd hn
     ·cases he
    ·cases he
   ·cases he
  ·split at he
   ·split at he
    ·exact JF he hd hn
    ·split at he
     ·exact JF he hd hn
     ·cases he
   ·split at he
    ·exact JF he hd hn
    ·cases he
   ·cases he
  ·rename_i ho;rw[ho]at hst;cases hst
  ·split at he
   ·split at he
    ·split at he
     ·split at he
      ·rw[Option.map_eq_some_iff]at he;obtain⟨e2,h1,rfl⟩:=he;exact Yw (ge _) (JF h1 hd hn)
      ·cases he
     ·cases he
    ·cases he
   ·cases he
  ·split at he
   ·rename_i x y t1 t2 d _ _ hdst
    have htd:t≠d:=fun e=>by subst e;exact hd hdst
    split at he
    ·
     unfold Zv at he
     split at he
     case h_2=>cases he
     split at he
     ·cases he
     simp only at he
     split at he
     case h_2=>cases he
     split at he
     case h_2=>cases he
     split at he
     case h_2=>cases he
     split at he
     ·cases he;exact Yw (ge _) (Yw htd (qcr hn))
     ·cases he
    ·split at he
     ·rename_i v env1 hap;obtain⟨g,_,rfl,_⟩:=HX hap;exact JF he hd (qaD hn)
     ·cases he
    ·cases he
   ·cases he
  ·split at he
   ·exact JF he hd hn
   ·cases he
  ·split at he
   ·split at he
    ·rw[Option.map_eq_some_iff]at he;obtain⟨e2,h1,rfl⟩:=he;exact Yw (ge _) (JF h1 hd hn)
    ·cases he
   ·cases he
  ·split at he
   ·split at he
    ·rename_i hlk
     split at he
     ·split at he
      ·cases he;exact Yw (fun e=>by rw[e]at hn;rw[hn]at hlk;cases hlk) hn
      ·cases he;exact Yw (fun e=>by rw[e]at hn;rw[hn]at hlk;cases hlk) hn
     ·cases he
    ·cases he
   ·cases he
  ·split at he
   ·split at he
    ·rw[Option.map_eq_some_iff]at he;obtain⟨e2,h1,rfl⟩:=he;exact Yw (ge _) (JF h1 hd hn)
    ·cases he
   ·cases he
  ·split at he
   ·exact JF he hd hn
   ·cases he
 ·
  refine⟨hm,?_⟩
  cases hop:o.op with
  | makeSlice t l c =>
   have he0:=he;unfold astep at he;rw[hop]at he;simp only at he
   split at he
   case h_2=>cases he
   rename_i d k m k' m' el s hd hl1 hc1 hse
   split at he
   case h_2=>cases he
   rename_i z hz hcl
   split at he
   case h_2=>cases he
   rename_i hzz
   split at he
   case isFalse=>cases he
   rename_i hb;rw[Option.map_eq_some_iff]at he;obtain⟨e2,h1,rfl⟩:=he;rw[hd]at h1;obtain⟨hdn,rfl,_⟩:=Zq h1;simp only[Bool.and_eq_true]at hcl;obtain⟨c1,c2⟩:=Jg hcl.1;refine⟨d,.sb (1000000+d) el s 0 m.toNat,.obj el s (List.replicate m.toNat (elemOf z s)),hd,rfl,⟨by cases hh:look e (1000000+d) with | none=>rfl | some y=>exact absurd hh (c1 y),c2⟩,LE.refl _,fun F hF hcF hFd=>?_⟩;have hlF:LE (ded F) F:=Ns F
   have hN:NA all o e (ded F):=fun t ht y hy=>by
    have:=hF t ht y hy;unfold lookS at this ⊢;rw[Ns];exact this
   have hk:=Qz hN
   have hst2:astep P n o (ded F)=some (ins (1000000+d) (.obj el s (List.replicate m.toNat (elemOf z s))) (ins d (.sb (1000000+d) el s 0 m.toNat) (ded F))):=by
    unfold astep;rw[hop];have k1:=hk l (by rw[hop];simp[Op.operands]) _ hl1;have k2:=hk c (by rw[hop];simp[Op.operands]) _ hc1;simp only[hd,k1,k2,hse,hz,qgh hcF,hcl.2,Bool.and_self,hzz];rw[if_pos hb];unfold eput;simp only[Ns,hFd];have:Nat.blt d n=true:=Nat.ble_eq_true_of_le hdn;simp only[this,Bool.and_self,Option.map_some]
   exact Dr (UW (Jt hN hw) hst2) hlF ((hlF.ins _ _).ins _ _)
  | _=>rw[hop]at hm;cases hm
 ·
  refine⟨ha,?_⟩;unfold isApp at ha
  split at ha
  case h_2=>cases ha
  rename_i args ats hop;have he0:=he;unfold astep at he;rw[hop]at he;simp only at he
  split at he
  case h_2=>cases he
  rename_i x y t t' d hax hat hd;unfold lfOk at hl;rw[hop]at hl;simp only[hax]at hl;rw[List.all_eq_true]at hl
  have hlf:∀ xo,Unord all o xo→isMv xo.op=true∧(match aop e x with | some (.sb ..)=>false | _=>true)=true∧∀ t,t∈namesOf all.toArray xo→plainV (look e t)=true:=by
   rintro xo ⟨k,i,hk,hi,hne,h1,h2⟩
   have hmem:∀ {k:Nat} {o:Oper},all[k]? = some o→(o,k)∈all.zipIdx:=fun {k o} h=>by
    rw[List.mem_iff_getElem?];exact⟨k,by simp[List.getElem?_zipIdx,h]⟩
   have q:=hl (o,k) (hmem hk);simp only[Bool.or_eq_true]at q
   rcases q with q | q
   ·rw[hd]at q
    simp at q
   ·rw[List.all_eq_true]at q;have q:=q (xo,i) (hmem hi);simp only[h1,h2,Bool.false_or,Bool.or_eq_true,Bool.and_eq_true,List.all_eq_true]at q
    rcases q with q | q
    ·exact absurd (Nat.eq_of_beq_eq_true q) hne
    ·exact q
  split at he
  ·
   rename_i id ex kx off m q hpx hqx
   refine .inl fun xo hxo=>?_
   have:=(hlf xo hxo).2.1;rw[hpx]at this;cases this
  ·rename_i p q hns hpx hqx
   split at he
   case h_2=>cases he
   rename_i v env1 hap;obtain⟨g,g1,rfl,g2⟩:=HX hap;rw[hd]at he;obtain⟨hdn,rfl,_⟩:=Zq he;refine .inr ⟨d,v,g,hd,LE.refl _,g1,fun xo hxo=>(hlf xo hxo).2.2,fun F hF hFd=>?_⟩;have hk:=Qz hF
   have hst2:astep P n o F=some (ins d v (F.map fun p=>(p.1,g p.2))):=by
    unfold astep;rw[hop]
    have ea:args=#[x,y]:=by apply Array.ext';simpa using hax
    have k1:=hk x (by rw[hop,ea];simp[Op.operands,Call.operands]) _ hpx;have k2:=hk y (by rw[hop,ea];simp[Op.operands,Call.operands]) _ hqx;simp only[hax,hat,hd,k1,k2]
    have hgo:(match aappend P t t' d p q F with | some (v,env1)=>eput n (some d) v env1 | none=>none)=some (ins d v (F.map fun p=>(p.1,g p.2))):=by
     rw[g2 F]
     simp only
     unfold eput;simp only[Yk g,hFd,Option.map_none];have:Nat.blt d n=true:=Nat.ble_eq_true_of_le hdn;simp only[this,Bool.and_self]
    cases p with
    | sb id ex kx off m=>exact absurd rfl (hns id ex kx off m)
    | _=>exact hgo
   exact UW (Jt hF hw) hst2
  ·cases he
theorem qbl {o:Oper} {e e1:Env} (hx:∃ f args ats,o.op=.call { callee:=.value f,args:=args,argTypes:=ats }) (heff:isEff o.op=true) (hst:isStore o.op=false) (hf:∀ t,t<1000000→o.dst≠some t→look e t=none→look e1 t=none):Hard P n all o e e1:=by
 obtain⟨f,args,ats,ho⟩:=hx;refine⟨⟨heff,hst⟩,hf,?_,?_⟩
 ·intro _ hm;rw[ho]at hm;cases hm
 ·intro _ hm;rw[ho]at hm;cases hm
theorem qgV {o:Oper} {e e1:Env} (hw:awanted all o e=some false) (he:eput n o.dst .und e=some e1) (heff:isEff o.op=true) (hst:isStore o.op=false):Hard P n all o e e1:=by
 have hg:o.guard≠none:=fun hg=>by
  unfold awanted at hw;rw[hg]at hw;cases hw
 exact⟨⟨heff,hst⟩,fun t _ hd hn=>JF he hd hn,fun h=>absurd h hg,fun h=>absurd h hg⟩
end
end Go.AM
namespace Go.AM
open Go.RowKit
variable {P:Program} {n:Nat} {all:List Oper}
theorem qeJ {draw:Bool} {e e1:Env} (hc:Chain P n draw all [] e e1):∀ (bs:Base) (M:Mem) (O:Gh) (a:Act) (w:World),Inv bs n M O e a w→∃ M' O',Inv bs n M' O' e1 a w:=by
 generalize hl:([]:List Oper)=l at hc
 induction hc with
 | nil=>intro bs M O a w h;exact⟨M,O,h⟩
 | drop e0 _ hw _ ih =>
  intro bs M O a w h;obtain⟨M',O',h'⟩:=hw bs M O a w h;exact ih hl bs M' O' a w h'
 | step=>cases hl
theorem qgi {draw:Bool} {o:Oper} {e e1:Env} (hc:Chain P n draw all [o] e e1):StepSem P n all o e e1:=by
 generalize hl:[o]=l at hc
 induction hc with
 | nil=>cases hl
 | drop e0 _ hw _ ih =>
  intro bs M O a w h K Q hK;obtain⟨M',O',h'⟩:=hw bs M O a w h;exact ih hl bs M' O' a w h' K Q hK
 | step h hr _ =>
  cases hl;intro bs M O a w hi K Q hK
  refine h.1 bs M O a w hi K Q fun a' w' M' O' h'=>?_
  obtain⟨M2,O2,h2⟩:=qeJ hr bs M' O' a' w' h';exact hK a' w' M2 O2 h2
def AnyOk (P:Program) (n:Nat) (all:List Oper) (R:List Nat) (e e':Env):Prop :=
 ∀ (bs:Base) (Q:Exit→Act→World→Prop),jI all.toArray=true→(∀ a' w' M' O',Inv bs n M' O' e' a' w'→Q .normal a' w') →
  ∀ (fuel:Nat) (listed:Array Bool) (a:Act) (w:World) (M:Mem) (O:Gh),listed.size=all.length→Closed all (fun i=>listed.getD i false=true)→R.Nodup→(∀ i,i∈R→i<all.length)→(∀ i,i<all.length→(i∈R↔listed.getD i false=false)) →
   jJ all.length listed≤fuel→Inv bs n M O e a w→wpAny P .any all.toArray Q fuel listed a w
theorem qfR {listed:Array Bool} {R:List Nat} (hback:jI all.toArray=true) (hsz:listed.size=all.length) (hlt:∀ i,i∈R→i<all.length) (hR:∀ i,i<all.length→(i∈R↔listed.getD i false=false)) (hr:Region.ready .any all.toArray listed=[]):R=[]:=by
 have hall:∀ i,i<all.length→listed.getD i false=true:=by
  intro i
  induction i using Nat.strongRecOn with
  | _ i ih =>
   intro hi
   cases hv:listed.getD i false with
   | true=>rfl
   | false =>
    exfalso;have ho:all[i]? = some all[i]:=List.getElem?_eq_getElem hi
    have:i∈Region.ready .any all.toArray listed:=by
     rw[mem_ready];refine⟨by rw[Xf (by omega)];exact hv,all[i],by simp,fun e he hb=>?_⟩
     have hlt:e.on<i:=by
      unfold jI at hback;rw[List.all_eq_true]at hback
      have hmem:(all[i],i)∈all.toArray.toList.zipIdx:=by
       rw[List.mem_iff_getElem?];exact⟨i,by simp[List.getElem?_zipIdx,ho]⟩
      have:=hback _ hmem;rw[Array.all_eq_true_iff_forall_mem]at this;have:=this e he;simp only[Bool.or_eq_true,Bool.not_eq_true']at this
      rcases this with h1 | h1
      ·rw[hb]at h1;cases h1
      ·exact Nat.le_of_ble_eq_true h1
     exact ih e.on hlt (by omega)
    rw[hr]at this;cases this
 cases R with
 | nil=>rfl
 | cons i R =>
  have hi:=hlt i (List.mem_cons_self ..);have:=(hR i hi).1 (List.mem_cons_self ..);rw[hall i hi]at this;cases this
theorem qgr {e:Env}:AnyOk P n all [] e e:=by
 intro bs Q hback hQ fuel listed a w M O hsz hc hnd hlt hR hu h
 have hr:Region.ready .any all.toArray listed=[]:=by
  cases hr:Region.ready .any all.toArray listed with
  | nil=>rfl
  | cons i rs =>
   exfalso
   have hi:i∈Region.ready .any all.toArray listed:=by rw[hr];exact List.mem_cons_self ..
   rw[mem_ready]at hi;obtain⟨h0,o,ho,_⟩:=hi
   have hil:i<all.length:=by
    have:=(Array.getElem?_eq_some_iff.1 ho).1
    simpa using this
   have:=(hR i hil).2 (by rw[← Xf (by omega)];exact h0);cases this
 cases fuel with
 | zero=>exact⟨hr,hQ a w M O h⟩
 | succ fuel=>exact⟨fun _=>hQ a w M O h,fun k hk=>by rw[hr]at hk;cases hk⟩
theorem qeT {R:List Nat} {e e':Env} (F:Nat→Env) (hne:R≠[]) (hF:∀ k o,k∈R→all[k]? = some o→readyR all R k=true→StepSem P n all o e (F k)) (hrec:∀ k,k∈R→readyR all R k=true→AnyOk P n all (R.erase k) (F k) e'):AnyOk P n all R e e':=by
 intro bs Q hback hQ fuel listed a w M O hsz hc hnd hlt hR hu h
 have hno:Region.ready .any all.toArray listed≠[]:=fun hr=>hne (qfR hback hsz hlt hR hr)
 cases fuel with
 | zero =>
  exfalso
  cases hr:Region.ready .any all.toArray listed with
  | nil=>exact hno hr
  | cons i rs =>
   have hi:i∈Region.ready .any all.toArray listed:=by rw[hr];exact List.mem_cons_self ..
   rw[mem_ready]at hi;obtain⟨h0,o,ho,_⟩:=hi
   have hil:i<all.length:=by
    have:=(Array.getElem?_eq_some_iff.1 ho).1
    simpa using this
   have:0<jJ all.length listed:=by
    unfold jJ;rw[List.countP_pos_iff];exact⟨i,List.mem_range.2 hil,by rw[h0];rfl⟩
   omega
 | succ fuel =>
  refine⟨fun hr=>absurd hr hno,fun k hk=>?_⟩;rw[mem_ready]at hk;obtain⟨hk0,ok,hok,hkall⟩:=hk
  have hok':all[k]? = some ok:=by simpa using hok
  have hkl:k<all.length:=(List.getElem?_eq_some_iff.1 hok').1
  have hkf:listed.getD k false=false:=by rw[← Xf (by omega)];exact hk0
  have hdeps:∀ i,((Region.before all.toArray).getD k 0).testBit i=true→listed.getD i false=true :=
   XG hc k ok hok' (fun e he hb=>hkall e (by simpa using he) hb)
  have hsz':(listed.setIfInBounds k true).size=all.length:=by simp[hsz]
  have hset:∀ i,(listed.setIfInBounds k true).getD i false=true↔(i=k∨listed.getD i false=true):=by
   intro i
   by_cases hik:i=k
   ·subst hik
    have hkk:i<listed.size:=by omega
    simp[hkk]
   ·rw[getD_set_ne false (fun e=>hik e.symm)]
    simp[hik]
  have hc':Closed all (fun i=>(listed.setIfInBounds k true).getD i false=true):=by
   intro j o ho hj e he hb;rw[hset]at hj ⊢
   rcases hj with rfl | hj
   ·rw[hok']at ho;cases ho;exact .inr (hkall e (by simpa using he) hb)
   ·exact .inr (hc j o ho hj e he hb)
  have hu':jJ all.length (listed.setIfInBounds k true)≤fuel:=by
   have:jJ all.length (listed.setIfInBounds k true)<jJ all.length listed:=by
    unfold jJ;refine Up (x:=k) (fun i hi hq=>?_) (List.mem_range.2 hkl) (by rw[hk0];rfl) ?_
    ·have hil:=List.mem_range.1 hi;simp only[Bool.not_eq_true']at hq ⊢;rw[Xf (by omega)]at hq ⊢
     cases hv:listed.getD i false with
     | false=>rfl
     | true =>
      have:=(hset i).2 (.inr hv);rw[this]at hq;cases hq
    ·have hkk:k<listed.size:=by omega
     simp[hkk]
   omega
  have hwp:∀ (K:Act→World→Prop),(if Region.wanted ok (yielded all.toArray a.tmps) then ok.wp P a w K Q else K (a.put ok.dst undef) w)→wpOp P all.toArray Q k K a w:=by
   intro K hK;unfold wpOp;rw[hok]
   simp only
   split
   ·rename_i hw;rw[if_pos hw]at hK;exact .inl hK
   ·rename_i hw;rw[if_neg hw]at hK;exact hK
  refine hwp _ ?_;have hkR:k∈R:=(hR k hkl).2 hkf
  have hrd:readyR all R k=true:=by
   unfold readyR;rw[List.all_eq_true];intro i hi
   cases hb:((Region.before all.toArray).getD k 0).testBit i with
   | false=>rfl
   | true =>
    have:=(hR i (hlt i hi)).1 hi;rw[hdeps i hb]at this;cases this
  refine hF k ok hkR hok' hrd bs M O a w h _ Q fun a' w' M' O' h'=>hrec k hkR hrd bs Q hback hQ fuel _ a' w' M' O' hsz' hc' (hnd.erase k) (fun i hi=>hlt i (List.mem_of_mem_erase hi)) (fun i hi=>?_) hu' h'
  have h1:=hR i hi;rw[hnd.mem_erase_iff]
  constructor
  ·rintro⟨hik,hm⟩
   cases hv:(listed.setIfInBounds k true).getD i false with
   | false=>rfl
   | true =>
    rcases (hset i).1 hv with e | e
    ·exact absurd e hik
    ·rw[h1.1 hm]at e;cases e
  ·intro hv
   have hik:i≠k:=fun e=>by rw[(hset i).2 (.inl e)]at hv;cases hv
   refine⟨hik,h1.2 ?_⟩
   cases hw:listed.getD i false with
   | false=>rfl
   | true=>rw[(hset i).2 (.inr hw)]at hv;cases hv
theorem qcg {bs:Base} {M:Mem} {O:Gh} {a:Act} {w:World} {id:Nat} {ops:Array Oper} {e e':Env} (hmix:P.follows .mixedOrders=true) (hback:jI ops=true)
  (hc:AnyOk P n ops.toList (List.range ops.size) e e') (h:Inv bs n M O e a w) {Q:Exit→Act→World→Prop} (hQ:∀ a' w' M' O',Inv bs n M' O' e' a' w'→Q .normal a' w'):(Code.region id ops true).wp P Q a w:=by
 have ea:ops.toList.toArray=ops:=Array.toArray_toList;refine wp_region_any hmix ?_;have hdr:Inv bs n M O e a { w with drawn:=w.drawn+1 }:=h.grown (row:=none) (fun g e=>by cases e) ⟨rfl,rfl,rfl,Nat.le_refl _,fun _ _ _=>rfl⟩ (Sub.refl M) (fun b o u hu=>h.cons b o u hu) (fun _ _ _ _=>rfl);have:=hc bs Q (by rw[ea];exact hback) hQ ops.size (Array.replicate ops.size false) a { w with drawn:=w.drawn+1 } M O (by simp)
  (fun j o ho hj=>by simp[Array.getElem?_replicate]at hj;split at hj <;> simp at hj) List.nodup_range (fun i hi=>by simpa using List.mem_range.1 hi)
  (fun i hi=>⟨fun _=>by simp[Array.getElem?_replicate];split <;> simp,fun _=>List.mem_range.2 (by simpa using hi)⟩)
  (by
   unfold jJ;have:=List.countP_le_length (p:=fun i=>!(Array.replicate ops.size false).getD i true) (l:=List.range ops.toList.length)
   simpa using this) hdr
 rw[ea]at this;exact this
end Go.AM
