/- s -/
import Derived.Test.YtdghpfejmlpjhaaASimT
set_option linter.unusedVariables false
set_option linter.unusedSimpArgs false
namespace Go.AM
open Go.RowKit
section
variable {n:Nat} {P:Program} {all:List Oper}
theorem LE.refl (E:Env):LE E E:=fun _=>rfl
theorem LE.symm {E F:Env} (h:LE E F):LE F E:=fun t=>(h t).symm
theorem LE.trans {E F G:Env} (h:LE E F) (k:LE F G):LE E G:=fun t=>(h t).trans (k t)
theorem LE.ins {E F:Env} (h:LE E F) (d:Nat) (x:AV):LE (ins d x E) (ins d x F):=fun t=>by rw[qJ,qJ,h t]
theorem LE.insO {E F:Env} (h:LE E F) (d:Option Nat) (x:AV):LE (insO d x E) (insO d x F):=by
 cases d with
 | none=>exact h
 | some d=>exact h.ins d x
theorem LE.map {E F:Env} (h:LE E F) (g:AV→AV):LE (E.map fun p=>(p.1,g p.2)) (F.map fun p=>(p.1,g p.2)):=fun t=>by rw[XC g,XC g,h t]
theorem LE.inv {bs:Base} {M:Mem} {O:Gh} {E F:Env} {a:Act} {w:World} (h:LE E F) (hi:Inv bs n M O E a w):Inv bs n M O F a w:=hi.looks fun s=>(h s).symm
theorem stepSem_le {o:Oper} {E F E1 F1:Env} (h:StepSem P n all o E E1) (h1:LE E F) (h2:LE E1 F1):StepSem P n all o F F1:=fun bs M O a w hi K Q hK =>
 h bs M O a w (h1.symm.inv hi) K Q fun a' w' M' O' h'=>hK a' w' M' O' (h2.inv h')
theorem XD {s t:Nat} (h:t≠s):∀ (E:Env),look (E.filter fun q=>!Nat.beq q.1 s) t=look E t
 | []=>rfl
 | (r,x)::E=>by
  simp only[List.filter_cons]
  split
  ·simp only[look]
   split
   ·rfl
   ·exact XD h E
  ·rename_i hr;rw[XD h E];simp only[look]
   split
   ·rename_i ht;have:=Nat.eq_of_beq_eq_true ht;subst this;exfalso;apply hr;simp only[Bool.not_eq_true']
    exact Bool.eq_false_iff.2 fun e=>h (Nat.eq_of_beq_eq_true e)
   ·rfl
def ded:Env→Env
 | []=>[]
 | p::r=>p::(ded r).filter fun q=>!Nat.beq q.1 p.1
theorem look_ded:∀ (E:Env) (t:Nat),look (ded E) t=look E t
 | [],t=>rfl
 | (s,x)::r,t=>by
  simp only[ded,look]
  split
  ·rfl
  ·rename_i hs
   have hne:t≠s:=fun e=>by subst e;simp at hs
   rw[XD hne];exact look_ded r t
theorem mem_ded:∀ {E:Env} {p:Nat×AV},p∈ded E→look E p.1=some p.2
 | (s,x)::r,p,h=>by
  simp only[ded,List.mem_cons,List.mem_filter]at h
  rcases h with rfl | ⟨h,hne⟩
  ·simp[look]
  ·have h1:=mem_ded h;simp only[look]
   split
   ·rename_i hs;have:=Nat.eq_of_beq_eq_true hs;rw[this]at hne
    simp at hne
   ·exact h1
theorem clear_ded {id:Nat} {E:Env} (h:ClearL id E):clearOf id (ded E)=true:=by
 unfold clearOf;rw[List.all_eq_true];intro p hp;have h1:=mem_ded hp;simp only[Bool.and_eq_true,Bool.not_eq_true'];refine⟨Bool.eq_false_iff.2 fun e=>?_,h.2 _ _ h1⟩;have:=Nat.eq_of_beq_eq_true e;rw[this,h.1]at h1;cases h1
def Fr (o:Oper) (E:Env):Prop:=∀ d,o.dst=some d→look E d=none∧d<1000000
def IsP (P:Program) (n:Nat) (all:List Oper) (o:Oper) (E E1:Env):Prop :=
 isEff o.op=false∧∃ x,x.ent=false∧LE (insO o.dst x E) E1∧∀ F,NA all o E F→(memFree o.op=true∨EA E F)→StepSem P n all o F (insO o.dst x F)
def Stp (P:Program) (n:Nat) (all:List Oper) (o:Oper) (E E1:Env):Prop :=
 StepSem P n all o E E1∧Fr o E∧(isEff o.op=false→IsP P n all o E E1)∧(o.guard=none→isMk o.op=true→IsA P n all o E E1)∧(o.guard=none→isApp o.op=true→IsB P n all o E E1)
theorem na_le {o:Oper} {E F G:Env} (h:LE E F) (k:NA all o F G):NA all o E G:=fun t ht y hy=>k t ht y (by unfold lookS at hy ⊢;rw[← h t];exact hy)
theorem ea_le {E F G:Env} (h:LE E F) (k:EA F G):EA E G:=fun s x hx hl=>k s x hx (by rw[← h s];exact hl)
theorem clear_le {id:Nat} {E F:Env} (h:LE E F) (k:ClearL id E):ClearL id F:=⟨by rw[← h id];exact k.1,fun s x hx=>k.2 s x (by rw[h s];exact hx)⟩
theorem Stp.le {o:Oper} {E F E1:Env} (h:Stp P n all o E E1) (hl:LE E F):Stp P n all o F E1:=by
 obtain⟨h1,h2,h3,h4,h5⟩:=h;refine⟨stepSem_le h1 hl (LE.refl _),fun d hd=>⟨by rw[← hl d];exact (h2 d hd).1,(h2 d hd).2⟩,fun he=>?_,fun hg he=>?_,fun hg he=>?_⟩
 ·obtain⟨k0,x,k1,k2,k3⟩:=h3 he;exact⟨k0,x,k1,(hl.symm.insO _ _).trans k2,fun G hG hm=>k3 G (na_le hl hG) (hm.imp id fun hm=>ea_le hl hm)⟩
 ·obtain⟨k0,d,x,y,k1,k2,k3,k4,k5⟩:=h4 hg he;exact⟨k0,d,x,y,k1,k2,clear_le hl k3,((hl.symm.ins _ _).ins _ _).trans k4,fun G hG=>k5 G (na_le hl hG)⟩
 ·obtain⟨k0,k⟩:=h5 hg he;refine⟨k0,k.imp id ?_⟩
  rintro⟨d,v,g,k1,k2,k3,k4,k5⟩
  exact⟨d,v,g,k1,((hl.symm.map g).ins _ _).trans k2,k3,fun x hx t ht=>by rw[← hl t];exact k4 x hx t ht,fun G hG=>k5 G (na_le hl hG)⟩
inductive Ch (P:Program) (n:Nat) (all:List Oper):List Nat→Env→Env→Prop where
 | nil {E E'}:LE E E'→Ch P n all [] E E'
 | cons {i o R E E1 E'}:all[i]? = some o→Stp P n all o E E1→Ch P n all R E1 E'→Ch P n all (i::R) E E'
theorem Ch.le {R:List Nat} {E F E':Env} (h:Ch P n all R E E') (hl:LE E F):Ch P n all R F E':=by
 cases h with
 | nil h=>exact .nil (hl.symm.trans h)
 | cons h1 h2 h3=>exact .cons h1 (h2.le hl) h3
theorem look_map_none {g:AV→AV} {e:Env} {t:Nat} (h:look e t=none):look (e.map fun p=>(p.1,g p.2)) t=none:=by
 rw[XC g,h];rfl
theorem YV {l:Nat} {x:AV} (h:plainV (some x)=true):x.relabB l none=x:=by
 cases x with
 | box cs=>cases h
 | agr cs=>cases h
 | lst e k lab xs=>cases lab with
  | none=>rfl
  | some c=>cases h
 | _=>rfl
theorem aappend_map {t t' d:Nat} {a b v:AV} {e e':Env} (h:aappend P t t' d a b e=some (v,e')) :
  ∃ g:AV→AV,(∀ x,plainV (some x)=true→g x=x)∧e'=e.map (fun p=>(p.1,g p.2))∧∀ F:Env,aappend P t t' d a b F=some (v,F.map fun p=>(p.1,g p.2)):=by
 unfold aappend at h ⊢
 split at h
 case h_2=>cases h
 rename_i el s hse
 split at h
 ·cases h
 rename_i hc
 split at h
 ·cases h
 case h_3=>cases h
 rename_i ey ky l ys
 split at h
 ·cases h
 rename_i hky
 split at h
 ·split at h
  ·rename_i hb;cases h;refine⟨fun x=>x.relabB d none,fun x hx=>YV hx,rfl,fun F=>?_⟩;simp only[hse,hky];rw[if_pos hb];rfl
  ·cases h
 ·rename_i ex kx c xs
  split at h
  ·cases h
  rename_i hx
  split at h
  ·rename_i hb;cases h;refine⟨fun x=>(x.relabB c none).relabB d none,fun x hx=>by show (x.relabB c none).relabB d none=x;rw[YV hx,YV hx],by simp[relabE,List.map_map,Function.comp],fun F=>?_⟩;simp only[hse,hky,hx];rw[if_pos hb];simp[relabE,List.map_map,Function.comp]
  ·cases h
 ·cases h
theorem XH {e:Env} {d t:Nat} {x:AV} (h:t≠d) (hl:look e t=none):look (ins d x e) t=none:=by rw[qJ,if_neg h];exact hl
theorem Je {o:Option Nat} {v:AV} {e e1:Env} (h:eput n o v e=some e1) {t:Nat} (ht:o≠some t) (hl:look e t=none):look e1 t=none:=by
 obtain⟨rfl,_,_⟩:=JC h;rw[Yl ht];exact hl
theorem forget_frame {s t:Nat} {e:Env} (hl:look e t=none):look (forget s e) t=none:=by
 cases h:look (forget s e) t with
 | none=>rfl
 | some y =>
  obtain⟨_,z,hz,_⟩:=Xs h;rw[hl]at hz;cases hz
theorem hard_op {o:Oper} {e e1:Env} (hw:awanted all o e=some true) (hl:lfOk all o e=true) (he:astep P n o e=some e1) (heff:isEff o.op=true) (hst:isStore o.op=false):Hard P n all o e e1:=by
 refine⟨⟨heff,hst⟩,fun t ht hd hn=>?_,fun _ hm=>?_,fun _ ha=>?_⟩
 ·
  have ge:∀ d:Nat,t≠1000000+d:=fun d e=>absurd ht (Nat.not_lt_of_le (by rw[e];exact Nat.le_add_right _ _))
  unfold astep at he
  split at he
  ·split at he
   ·rename_i d hd'
    split at he
    ·split at he
     ·exact Je he hd hn
     ·cases he
    ·cases he
   ·cases he
  ·split at he
   ·split at he
    ·exact Je he hd hn
    ·split at he
     ·exact Je he hd hn
     ·cases he
   ·split at he
    ·exact Je he hd hn
    ·cases he
   ·cases he
  ·rename_i ho;rw[ho]at hst;cases hst
  ·split at he
   ·split at he
    ·split at he
     ·split at he
      ·rw[Option.map_eq_some_iff]at he;obtain⟨e2,h1,rfl⟩:=he;exact XH (ge _) (Je h1 hd hn)
      ·cases he
     ·cases he
    ·cases he
   ·cases he
  ·split at he
   ·rename_i x y t1 t2 d _ _ hdst
    have htd:t≠d:=fun e=>by subst e;exact hd hdst
    split at he
    ·
     unfold YH at he
     split at he
     case h_2=>cases he
     split at he
     ·cases he
     simp only at he
     split at he
     case h_2=>cases he
     split at he
     case h_2=>cases he
     split at he
     case h_2=>cases he
     split at he
     ·cases he;exact XH (ge _) (XH htd (forget_frame hn))
     ·cases he
    ·split at he
     ·rename_i v env1 hap;obtain⟨g,_,rfl,_⟩:=aappend_map hap;exact Je he hd (look_map_none hn)
     ·cases he
    ·cases he
   ·cases he
  ·split at he
   ·exact Je he hd hn
   ·cases he
  ·split at he
   ·split at he
    ·rw[Option.map_eq_some_iff]at he;obtain⟨e2,h1,rfl⟩:=he;exact XH (ge _) (Je h1 hd hn)
    ·cases he
   ·cases he
  ·split at he
   ·split at he
    ·rename_i hlk
     split at he
     ·split at he
      ·cases he;exact XH (fun e=>by rw[e]at hn;rw[hn]at hlk;cases hlk) hn
      ·cases he;exact XH (fun e=>by rw[e]at hn;rw[hn]at hlk;cases hlk) hn
     ·cases he
    ·cases he
   ·cases he
  ·split at he
   ·split at he
    ·rw[Option.map_eq_some_iff]at he;obtain⟨e2,h1,rfl⟩:=he;exact XH (ge _) (Je h1 hd hn)
    ·cases he
   ·cases he
  ·split at he
   ·exact Je he hd hn
   ·cases he
 ·
  refine⟨hm,?_⟩
  cases hop:o.op with
  | makeSlice t l c =>
   have he0:=he;unfold astep at he;rw[hop]at he;simp only at he
   split at he
   case h_2=>cases he
   rename_i d k m k' m' el s hd hl1 hc1 hse
   split at he
   case h_2=>cases he
   rename_i z hz hcl
   split at he
   case h_2=>cases he
   rename_i hzz
   split at he
   case isFalse=>cases he
   rename_i hb;rw[Option.map_eq_some_iff]at he;obtain⟨e2,h1,rfl⟩:=he;rw[hd]at h1;obtain⟨hdn,rfl,_⟩:=YC h1;simp only[Bool.and_eq_true]at hcl;obtain⟨c1,c2⟩:=jA hcl.1;refine⟨d,.sb (1000000+d) el s 0 m.toNat,.obj el s (List.replicate m.toNat (elemOf z s)),hd,rfl,⟨by cases hh:look e (1000000+d) with | none=>rfl | some y=>exact absurd hh (c1 y),c2⟩,LE.refl _,fun F hF hcF hFd=>?_⟩;have hlF:LE (ded F) F:=look_ded F
   have hN:NA all o e (ded F):=fun t ht y hy=>by
    have:=hF t ht y hy;unfold lookS at this ⊢;rw[look_ded];exact this
   have hk:=JP hN
   have hst2:astep P n o (ded F)=some (ins (1000000+d) (.obj el s (List.replicate m.toNat (elemOf z s))) (ins d (.sb (1000000+d) el s 0 m.toNat) (ded F))):=by
    unfold astep;rw[hop];have k1:=hk l (by rw[hop];simp[Op.operands]) _ hl1;have k2:=hk c (by rw[hop];simp[Op.operands]) _ hc1;simp only[hd,k1,k2,hse,hz,clear_ded hcF,hcl.2,Bool.and_self,hzz];rw[if_pos hb];unfold eput;simp only[look_ded,hFd];have:Nat.blt d n=true:=Nat.ble_eq_true_of_le hdn;simp only[this,Bool.and_self,Option.map_some]
   exact stepSem_le (step_op (jG hN hw) hst2) hlF ((hlF.ins _ _).ins _ _)
  | _=>rw[hop]at hm;cases hm
 ·
  refine⟨ha,?_⟩;unfold isApp at ha
  split at ha
  case h_2=>cases ha
  rename_i args ats hop;have he0:=he;unfold astep at he;rw[hop]at he;simp only at he
  split at he
  case h_2=>cases he
  rename_i x y t t' d hax hat hd;unfold lfOk at hl;rw[hop]at hl;simp only[hax]at hl;rw[List.all_eq_true]at hl
  have hlf:∀ xo,Unord all o xo→isMv xo.op=true∧(match aop e x with | some (.sb ..)=>false | _=>true)=true∧∀ t,t∈namesOf all.toArray xo→plainV (look e t)=true:=by
   rintro xo ⟨k,i,hk,hi,hne,h1,h2⟩
   have hmem:∀ {k:Nat} {o:Oper},all[k]? = some o→(o,k)∈all.zipIdx:=fun {k o} h=>by
    rw[List.mem_iff_getElem?];exact⟨k,by simp[List.getElem?_zipIdx,h]⟩
   have q:=hl (o,k) (hmem hk);simp only[Bool.or_eq_true]at q
   rcases q with q | q
   ·rw[hd]at q
    simp at q
   ·rw[List.all_eq_true]at q;have q:=q (xo,i) (hmem hi);simp only[h1,h2,Bool.false_or,Bool.or_eq_true,Bool.and_eq_true,List.all_eq_true]at q
    rcases q with q | q
    ·exact absurd (Nat.eq_of_beq_eq_true q) hne
    ·exact q
  split at he
  ·
   rename_i id ex kx off m q hpx hqx
   refine .inl fun xo hxo=>?_
   have:=(hlf xo hxo).2.1;rw[hpx]at this;cases this
  ·rename_i p q hns hpx hqx
   split at he
   case h_2=>cases he
   rename_i v env1 hap;obtain⟨g,g1,rfl,g2⟩:=aappend_map hap;rw[hd]at he;obtain⟨hdn,rfl,_⟩:=YC he;refine .inr ⟨d,v,g,hd,LE.refl _,g1,fun xo hxo=>(hlf xo hxo).2.2,fun F hF hFd=>?_⟩;have hk:=JP hF
   have hst2:astep P n o F=some (ins d v (F.map fun p=>(p.1,g p.2))):=by
    unfold astep;rw[hop]
    have ea:args=#[x,y]:=by apply Array.ext';simpa using hax
    have k1:=hk x (by rw[hop,ea];simp[Op.operands,Call.operands]) _ hpx;have k2:=hk y (by rw[hop,ea];simp[Op.operands,Call.operands]) _ hqx;simp only[hax,hat,hd,k1,k2]
    have hgo:(match aappend P t t' d p q F with | some (v,env1)=>eput n (some d) v env1 | none=>none)=some (ins d v (F.map fun p=>(p.1,g p.2))):=by
     rw[g2 F]
     simp only
     unfold eput;simp only[XC g,hFd,Option.map_none];have:Nat.blt d n=true:=Nat.ble_eq_true_of_le hdn;simp only[this,Bool.and_self]
    cases p with
    | sb id ex kx off m=>exact absurd rfl (hns id ex kx off m)
    | _=>exact hgo
   exact step_op (jG hF hw) hst2
  ·cases he
theorem hard_call {o:Oper} {e e1:Env} (hx:∃ f args ats,o.op=.call { callee:=.value f,args:=args,argTypes:=ats }) (heff:isEff o.op=true) (hst:isStore o.op=false) (hf:∀ t,t<1000000→o.dst≠some t→look e t=none→look e1 t=none):Hard P n all o e e1:=by
 obtain⟨f,args,ats,ho⟩:=hx;refine⟨⟨heff,hst⟩,hf,?_,?_⟩
 ·intro _ hm;rw[ho]at hm;cases hm
 ·intro _ hm;rw[ho]at hm;cases hm
theorem hard_not {o:Oper} {e e1:Env} (hw:awanted all o e=some false) (he:eput n o.dst .und e=some e1) (heff:isEff o.op=true) (hst:isStore o.op=false):Hard P n all o e e1:=by
 have hg:o.guard≠none:=fun hg=>by
  unfold awanted at hw;rw[hg]at hw;cases hw
 exact⟨⟨heff,hst⟩,fun t _ hd hn=>Je he hd hn,fun h=>absurd h hg,fun h=>absurd h hg⟩
end
end Go.AM
