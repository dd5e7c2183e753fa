/- s -/
import Derived.Test.YtdghpfejmlpjhaaASimM
import Derived.Test.YtdghpfejmlpjhaaASimT
set_option linter.unusedVariables false
set_option linter.unusedSimpArgs false
namespace Go.AM
open Go.RowKit
section
variable {n:Nat} {P:Program}
def unlab:List Nat→Env→Env
  | [],e=>e
  | c::r,e=>unlab r (relabE c none e)
def unlV:List Nat→AV→AV
  | [],x=>x
  | c::r,x=>unlV r (x.relabB c none)
theorem ZB:∀ (cl:List Nat) (e:Env) (t:Nat),look (unlab cl e) t=(look e t).map (unlV cl)
  | [],e,t=>by cases h:look e t <;> simp[unlab,unlV,h]
  | c::r,e,t=>by
    simp only[unlab];rw[ZB r];unfold relabE;rw[XC (AV.relabB c none)];cases look e t <;> rfl
def StepB (P:Program) (n:Nat) (all:List Oper) (o:Oper) (e e1:Env):Prop :=
  ∃ (d:Nat) (v:AV) (cl:List Nat),o.dst=some d∧v.ent=false∧(∀ b,v.hasLabB b=true→b=d)∧(∀ c,c∈cl→c∈killsB o)∧e1=ins d v (unlab cl e) ∧
    ∀ E,NA all o e E→StepSem P n all o E (ins d v (unlab cl E))
inductive ChainB (P:Program) (n:Nat) (all:List Oper):List Oper→Env→Env→Prop where
  | nil {e}:ChainB P n all [] e e
  | step {o rest e e1 e'}:StepB P n all o e e1→ChainB P n all rest e1 e'→ChainB P n all (o::rest) e e'
theorem qaJ (x:AV) (b:Nat) (hx:x.ent=false):x.strip.hasLabB b=false:=by
  cases x with
  | agr cs =>
    simp only[AV.strip,AV.hasLabB,List.any_map,List.any_eq_false];intro c _
    cases c <;> exact fun e=>by cases e
  | box cs=>cases hx
  | _=>rfl
theorem qgH {all:List Oper} {o:Oper} {e e1:Env} {d:Nat} {x:AV} (hd:o.dst=some d) (hw:awanted all o e=some true) (hm:memFree o.op=true) (hx:apure P o e=some x) (hnb:x.ent=false) (he:eput n o.dst x.strip e=some e1):StepB P n all o e e1:=by
  obtain⟨h1,h2,_⟩:=JN he;rw[hd]at h1 h2;refine⟨d,x.strip,[],hd,(by cases x <;> first | rfl | cases hnb),fun b hb=>?_,fun c hc=>(by cases hc),h1,fun E hk=>?_⟩
  · rw[qaJ x b hnb]at hb;cases hb
  intro bs M O a w h K Q hK;rw[qZ h (jY hk hw)];simp only[if_true];obtain⟨v,w',M',k1,k2,k3,k4,k5,k6⟩:=Ue h (Vv (JX hk) (.inl hm) hx);have h':=h.grown (row:=none) (fun g e=>by cases e) k2 k3 k4 (fun b o hb _=>k5 b o hb);have h2':=Vn h' (d:=some d) (NH k6) h2;exact Xe (env':=ins d x.strip E) ⟨v,w',M',O,.inl k1,by rw[hd];exact h2'⟩ hK
theorem mk_B {all:List Oper} {o:Oper} {e e1:Env} {t m:Nat} {ps:Array (Nat×Operand)} (ho:o.op=.buildSlice t m ps) {d:Nat} {el k:Nat} {xs:List AV} (hd:o.dst=some d) (hw:awanted all o e=some true) (hx:apure P o e=some (.lst el k none xs)) (he:eput n o.dst (.lst el k (some d) xs) (relabE d none e)=some e1):StepB P n all o e e1:=by
  obtain⟨h1,h2,_⟩:=JN he;rw[hd]at h1 h2;refine⟨d,.lst el k (some d) xs,[d],hd,rfl,fun b hb=>?_,fun c hc=>?_,h1,fun E hk=>?_⟩
  · exact (Nat.eq_of_beq_eq_true hb).symm
  · unfold killsB
    rw[ho,hd]
    simpa using hc
  intro bs M O a w h K Q hK;rw[qZ h (jY hk hw)];simp only[if_true];have hxE:=Vv (JX hk) (.inl (by rw[ho];rfl)) hx;unfold apure at hxE;rw[ho]at hxE;simp only at hxE
  split at hxE
  case h_2=>cases hxE
  rename_i l hl;obtain⟨e1',k1,xs1,us,e2,g1,g2,g3,g4⟩:=QT (P:=P) h ho hl hxE;cases e2;have h':=h.grown (row:=none) (fun g e=>by cases e) (World.grownBy_alloc w (.cells us el) none) (Yr h.cons us) (Vr h.cons us el) (fun b o hb _=>ZH us b o hb);have hBle:¬ bs.D w.heap.size:=h.fresh (Nat.le_refl _);have h'':=h'.relab d none (fun c hc=>by cases hc)
  obtain⟨O',hfin⟩:=h''.putFresh (d:=d) (g:=w.heap.size) (off:=0) (cap:=xs.length) (cur:=us) (h2 d rfl) (XE d E) g3 (.inr ⟨rfl,hBle,fun i c hc=>by
    have hcO:O i c=some w.heap.size:=by
      simp only[relO,jL]at hc
      split at hc
      · cases hc
      · exact hc
    have:=(h.own i c _ hcO).2
    omega,heap_alloc_new w _,by rw[Nat.zero_add];exact g2,Nat.le_refl _,by unfold maxLen;omega,fun o ho=>by
      unfold addRow;rw[if_pos rfl];rw[Nat.zero_add]at ho;unfold cellsAt
      simp[g2,ho]⟩)
  exact Xe ⟨_,_,_,O',.inl g1,by rw[hd];exact hfin⟩ hK
theorem qcG {t t' d:Nat} {ex kx c:Nat} {xs:List AV} {y v:AV} {e e1:Env} (h:aappend P t t' d (.lst ex kx (some c) xs) y e=some (v,e1)) :
    (∃ a b l,v=.lst a b (some d) l)∧e1=relabE d none (relabE c none e)∧∀ E,aappend P t t' d (.lst ex kx (some c) xs) y E=some (v,relabE d none (relabE c none E)):=by
  unfold aappend at h ⊢
  split at h
  case h_2=>cases h
  rename_i e' s hse
  split at h
  · cases h
  rename_i hc
  split at h
  · cases h
  · rename_i ey ky l ys
    split at h
    · cases h
    rename_i hky;simp only at h
    split at h
    · cases h
    rename_i hb
    split at h
    case isFalse=>cases h
    rename_i hcap;cases h;refine⟨⟨_,_,_,rfl⟩,rfl,fun E=>?_⟩;simp only[hse,hc,hky,hb];rw[if_pos hcap]
  · cases h
theorem XV {d t:Nat} (h:t≠d):∀ (E:Env),look (E.filter fun p=>!Nat.beq p.1 d) t=look E t
  | []=>rfl
  | (k,y)::r=>by
    simp only[List.filter_cons]
    split
    · simp only[look]
      split
      · rfl
      · exact XV h r
    · rename_i hk
      have hk:k=d:=by
        simp at hk
        exact hk
      rw[XV h r];simp only[look]
      split
      · rename_i hb
        have:=Nat.eq_of_beq_eq_true hb;omega
      · rfl
theorem HI {d:Nat} {x:AV} (E:Env):look (E.filter fun p=>!Nat.beq p.1 d) d≠some x:=by
  intro h;exact (JP h).1 rfl
theorem qhl {all:List Oper} {o:Oper} {e e1:Env} {args:Array Operand} {ats:Array TypeId} (ho:o.op=.call { callee:=.builtin .append,args:=args,argTypes:=ats }) {x y t t' d ex kx c:Nat} {xs:List AV} {b v:AV} {env1:Env}
    (hax:args.toList=[.tmp x,.tmp y]) (hat:ats.toList=[t,t']) (hd:o.dst=some d) (hw:awanted all o e=some true) (hx:aop e (.tmp x)=some (.lst ex kx (some c) xs)) (hy:aop e (.tmp y)=some b) (hcx:c=x) (hxd:x≠d) (hyd:y≠d)
    (hap:aappend P t t' d (.lst ex kx (some c) xs) b e=some (v,env1)) (he:eput n o.dst v env1=some e1):StepB P n all o e e1:=by
  obtain⟨⟨va,vb,vl,rfl⟩,rfl,hE⟩:=qcG hap;obtain⟨h1,h2,_⟩:=JN he;rw[hd]at h1 h2;refine⟨d,.lst va vb (some d) vl,[c,d],hd,rfl,fun b' hb=>?_,fun c' hc=>?_,h1,fun E hk=>?_⟩
  · exact (Nat.eq_of_beq_eq_true hb).symm
  · unfold killsB
    rw[ho];simp only[hax,hd];rw[← hcx];exact hc
  intro bs M O a w h K Q hK;rw[qZ h (jY hk hw)];simp only[if_true];have hkn:=JX hk
  have hops:∀ z v,z∈[Operand.tmp x,Operand.tmp y]→aop e z=some v→aop E z=some v:=fun z v hz hv=>hkn z (by
    have hm:z∈args.toList:=by rw[hax];exact hz
    rw[ho]
    simp[Op.operands,Call.operands]
    simpa using hm) v hv
  have hxE:=hops _ _ (by simp) hx;have hyE:=hops _ _ (by simp) hy
  have low:∀ z v,z≠d→aop E (.tmp z)=some v→aop (E.filter fun p=>!Nat.beq p.1 d) (.tmp z)=some v:=by
    intro z v hz hv;simp only[aop]at hv ⊢;rw[XV hz];exact hv
  have h1':Inv bs n M O (E.filter fun p=>!Nat.beq p.1 d) a w:=h.sub fun s z hz=>.inl (JP hz).2
  have hst:astep P n o (E.filter fun p=>!Nat.beq p.1 d)=some (ins d (.lst va vb (some d) vl) (relabE d none (relabE c none (E.filter fun p=>!Nat.beq p.1 d)))):=by
    unfold astep;rw[ho];simp only[hax,hat,hd,low x _ hxd hxE,low y _ hyd hyE,hE];unfold eput
    have hnone:look (relabE d none (relabE c none (E.filter fun p=>!Nat.beq p.1 d))) d=none:=by
      have:=ZB [c,d] (E.filter fun p=>!Nat.beq p.1 d) d;simp only[unlab]at this;rw[this]
      cases hl:look (E.filter fun p=>!Nat.beq p.1 d) d with
      | none=>rfl
      | some z=>exact absurd hl (HI E)
    have hlt:Nat.blt d n=true:=Nat.ble_eq_true_of_le (h2 d rfl);simp only[hnone,hlt];rfl
  refine Xe (NX h1' hst) fun a' w' M' O' h'=>hK a' w' M' O' (h'.looks fun s=>?_)
  rw[qS,qS]
  split
  · rfl
  · rename_i hs
    have e1:=ZB [c,d] E s;have e2:=ZB [c,d] (E.filter fun p=>!Nat.beq p.1 d) s;rw[e1,← XV hs E];exact e2.symm
theorem qfg {all:List Oper} {o:Oper} {e e1:Env} (hw:awanted all o e=some true) (he:astepB P n o e=some e1):StepB P n all o e e1:=by
  unfold astepB at he
  split at he
  · rename_i args ats ho
    split at he
    case h_2=>cases he
    rename_i x y t t' d hax hat hd
    split at he
    case h_2=>cases he
    rename_i ex kx c xs b hx hy
    split at he
    case h_2=>cases he
    rename_i hb;simp only[Bool.and_eq_true,Bool.not_eq_true']at hb;obtain⟨⟨b1,b2⟩,b3⟩:=hb
    split at he
    case h_2=>cases he
    rename_i v env1 hap;exact qhl ho hax hat hd hw hx hy (Nat.eq_of_beq_eq_true b1) (fun h=>by rw[h]at b2;simp at b2) (fun h=>by rw[h]at b3;simp at b3) hap he
  · rename_i t m ps ho
    split at he
    case h_2=>cases he
    rename_i d el k xs hd hx;exact mk_B ho hd hw hx he
  · split at he
    case h_2=>cases he
    rename_i d v hd hx
    split at he
    case h_2=>cases he
    rename_i hb;simp only[Bool.and_eq_true]at hb;exact qgH hd hw hb.1 hx (by simpa[notBox] using hb.2) he
variable {all:List Oper} {es:Nat→Env}
end
end Go.AM
namespace Go.AM
open Go.RowKit
section
variable {n:Nat} {P:Program} {all:List Oper}
theorem LE.refl (E:Env):LE E E:=fun _=>rfl
theorem LE.symm {E F:Env} (h:LE E F):LE F E:=fun t=>(h t).symm
theorem LE.trans {E F G:Env} (h:LE E F) (k:LE F G):LE E G:=fun t=>(h t).trans (k t)
theorem LE.ins {E F:Env} (h:LE E F) (d:Nat) (x:AV):LE (ins d x E) (ins d x F):=fun t=>by rw[qS,qS,h t]
theorem LE.insO {E F:Env} (h:LE E F) (d:Option Nat) (x:AV):LE (insO d x E) (insO d x F):=by
 cases d with
 | none=>exact h
 | some d=>exact h.ins d x
theorem LE.map {E F:Env} (h:LE E F) (g:AV→AV):LE (E.map fun p=>(p.1,g p.2)) (F.map fun p=>(p.1,g p.2)):=fun t=>by rw[XC g,XC g,h t]
theorem LE.inv {bs:Base} {M:Mem} {O:Gh} {E F:Env} {a:Act} {w:World} (h:LE E F) (hi:Inv bs n M O E a w):Inv bs n M O F a w:=hi.looks fun s=>(h s).symm
theorem Ho {o:Oper} {E F E1 F1:Env} (h:StepSem P n all o E E1) (h1:LE E F) (h2:LE E1 F1):StepSem P n all o F F1:=fun bs M O a w hi K Q hK =>
 h bs M O a w (h1.symm.inv hi) K Q fun a' w' M' O' h'=>hK a' w' M' O' (h2.inv h')
theorem XD {s t:Nat} (h:t≠s):∀ (E:Env),look (E.filter fun q=>!Nat.beq q.1 s) t=look E t
 | []=>rfl
 | (r,x)::E=>by
  simp only[List.filter_cons]
  split
  ·simp only[look]
   split
   ·rfl
   ·exact XD h E
  ·rename_i hr;rw[XD h E];simp only[look]
   split
   ·rename_i ht;have:=Nat.eq_of_beq_eq_true ht;subst this;exfalso;apply hr;simp only[Bool.not_eq_true']
    exact Bool.eq_false_iff.2 fun e=>h (Nat.eq_of_beq_eq_true e)
   ·rfl
def ded:Env→Env
 | []=>[]
 | p::r=>p::(ded r).filter fun q=>!Nat.beq q.1 p.1
theorem UI:∀ (E:Env) (t:Nat),look (ded E) t=look E t
 | [],t=>rfl
 | (s,x)::r,t=>by
  simp only[ded,look]
  split
  ·rfl
  ·rename_i hs
   have hne:t≠s:=fun e=>by subst e;simp at hs
   rw[XD hne];exact UI r t
theorem qeh:∀ {E:Env} {p:Nat×AV},p∈ded E→look E p.1=some p.2
 | (s,x)::r,p,h=>by
  simp only[ded,List.mem_cons,List.mem_filter]at h
  rcases h with rfl | ⟨h,hne⟩
  ·simp[look]
  ·have h1:=qeh h;simp only[look]
   split
   ·rename_i hs;have:=Nat.eq_of_beq_eq_true hs;rw[this]at hne
    simp at hne
   ·exact h1
theorem qfa {id:Nat} {E:Env} (h:ClearL id E):clearOf id (ded E)=true:=by
 unfold clearOf;rw[List.all_eq_true];intro p hp;have h1:=qeh hp;simp only[Bool.and_eq_true,Bool.not_eq_true'];refine⟨Bool.eq_false_iff.2 fun e=>?_,h.2 _ _ h1⟩;have:=Nat.eq_of_beq_eq_true e;rw[this,h.1]at h1;cases h1
def Fr (o:Oper) (E:Env):Prop:=∀ d,o.dst=some d→look E d=none∧d<1000000
def IsP (P:Program) (n:Nat) (all:List Oper) (o:Oper) (E E1:Env):Prop :=
 isEff o.op=false∧∃ x,x.ent=false∧LE (insO o.dst x E) E1∧∀ F,NA all o E F→(memFree o.op=true∨EA E F)→StepSem P n all o F (insO o.dst x F)
def Stp (P:Program) (n:Nat) (all:List Oper) (o:Oper) (E E1:Env):Prop :=
 StepSem P n all o E E1∧Fr o E∧(isEff o.op=false→IsP P n all o E E1)∧(o.guard=none→isMk o.op=true→IsA P n all o E E1)∧(o.guard=none→isApp o.op=true→IsB P n all o E E1)
theorem qfN {o:Oper} {E F G:Env} (h:LE E F) (k:NA all o F G):NA all o E G:=fun t ht y hy=>k t ht y (by unfold lookS at hy ⊢;rw[← h t];exact hy)
theorem qhk {E F G:Env} (h:LE E F) (k:EA F G):EA E G:=fun s x hx hl=>k s x hx (by rw[← h s];exact hl)
theorem qgl {id:Nat} {E F:Env} (h:LE E F) (k:ClearL id E):ClearL id F:=⟨by rw[← h id];exact k.1,fun s x hx=>k.2 s x (by rw[h s];exact hx)⟩
theorem Stp.le {o:Oper} {E F E1:Env} (h:Stp P n all o E E1) (hl:LE E F):Stp P n all o F E1:=by
 obtain⟨h1,h2,h3,h4,h5⟩:=h;refine⟨Ho h1 hl (LE.refl _),fun d hd=>⟨by rw[← hl d];exact (h2 d hd).1,(h2 d hd).2⟩,fun he=>?_,fun hg he=>?_,fun hg he=>?_⟩
 ·obtain⟨k0,x,k1,k2,k3⟩:=h3 he;exact⟨k0,x,k1,(hl.symm.insO _ _).trans k2,fun G hG hm=>k3 G (qfN hl hG) (hm.imp id fun hm=>qhk hl hm)⟩
 ·obtain⟨k0,d,x,y,k1,k2,k3,k4,k5⟩:=h4 hg he;exact⟨k0,d,x,y,k1,k2,qgl hl k3,((hl.symm.ins _ _).ins _ _).trans k4,fun G hG=>k5 G (qfN hl hG)⟩
 ·obtain⟨k0,k⟩:=h5 hg he;refine⟨k0,k.imp id ?_⟩
  rintro⟨d,v,g,k1,k2,k3,k4,k5⟩
  exact⟨d,v,g,k1,((hl.symm.map g).ins _ _).trans k2,k3,fun x hx t ht=>by rw[← hl t];exact k4 x hx t ht,fun G hG=>k5 G (qfN hl hG)⟩
inductive Ch (P:Program) (n:Nat) (all:List Oper):List Nat→Env→Env→Prop where
 | nil {E E'}:LE E E'→Ch P n all [] E E'
 | cons {i o R E E1 E'}:all[i]? = some o→Stp P n all o E E1→Ch P n all R E1 E'→Ch P n all (i::R) E E'
theorem Ch.le {R:List Nat} {E F E':Env} (h:Ch P n all R E E') (hl:LE E F):Ch P n all R F E':=by
 cases h with
 | nil h=>exact .nil (hl.symm.trans h)
 | cons h1 h2 h3=>exact .cons h1 (h2.le hl) h3
theorem Dy {g:AV→AV} {e:Env} {t:Nat} (h:look e t=none):look (e.map fun p=>(p.1,g p.2)) t=none:=by
 rw[XC g,h];rfl
theorem YV {l:Nat} {x:AV} (h:plainV (some x)=true):x.relabB l none=x:=by
 cases x with
 | box cs=>cases h
 | agr cs=>cases h
 | lst e k lab xs=>cases lab with
  | none=>rfl
  | some c=>cases h
 | _=>rfl
theorem NZ {t t' d:Nat} {a b v:AV} {e e':Env} (h:aappend P t t' d a b e=some (v,e')) :
  ∃ g:AV→AV,(∀ x,plainV (some x)=true→g x=x)∧e'=e.map (fun p=>(p.1,g p.2))∧∀ F:Env,aappend P t t' d a b F=some (v,F.map fun p=>(p.1,g p.2)):=by
 unfold aappend at h ⊢
 split at h
 case h_2=>cases h
 rename_i el s hse
 split at h
 ·cases h
 rename_i hc
 split at h
 ·cases h
 case h_3=>cases h
 rename_i ey ky l ys
 split at h
 ·cases h
 rename_i hky
 split at h
 ·split at h
  ·rename_i hb;cases h;refine⟨fun x=>x.relabB d none,fun x hx=>YV hx,rfl,fun F=>?_⟩;simp only[hse,hky];rw[if_pos hb];rfl
  ·cases h
 ·rename_i ex kx c xs
  split at h
  ·cases h
  rename_i hx
  split at h
  ·rename_i hb;cases h;refine⟨fun x=>(x.relabB c none).relabB d none,fun x hx=>by show (x.relabB c none).relabB d none=x;rw[YV hx,YV hx],by simp[relabE,List.map_map,Function.comp],fun F=>?_⟩;simp only[hse,hky,hx];rw[if_pos hb];simp[relabE,List.map_map,Function.comp]
  ·cases h
 ·cases h
theorem XO {e:Env} {d t:Nat} {x:AV} (h:t≠d) (hl:look e t=none):look (ins d x e) t=none:=by rw[qS,if_neg h];exact hl
theorem Jm {o:Option Nat} {v:AV} {e e1:Env} (h:eput n o v e=some e1) {t:Nat} (ht:o≠some t) (hl:look e t=none):look e1 t=none:=by
 obtain⟨rfl,_,_⟩:=JN h;rw[Ym ht];exact hl
theorem qbh {s t:Nat} {e:Env} (hl:look e t=none):look (forget s e) t=none:=by
 cases h:look (forget s e) t with
 | none=>rfl
 | some y =>
  obtain⟨_,z,hz,_⟩:=Xt h;rw[hl]at hz;cases hz
theorem qgM {o:Oper} {e e1:Env} (hw:awanted all o e=some true) (hl:lfOk all o e=true) (he:astep P n o e=some e1) (heff:isEff o.op=true) (hst:isStore o.op=false):Hard P n all o e e1:=by
 refine⟨⟨heff,hst⟩,fun t ht hd hn=>?_,fun _ hm=>?_,fun _ ha=>?_⟩
 ·
  have ge:∀ d:Nat,t≠1000000+d:=fun d e=>absurd ht (Nat.not_lt_of_le (by rw[e];exact Nat.le_add_right _ _))
  unfold astep at he
  split at he
  ·split at he
   ·rename_i d hd'
    split at he
    ·split at he
     ·exact Jm he hd hn
     ·cases he
    ·cases he
   ·cases he
  ·split at he
   ·split at he
    ·exact Jm he hd hn
    ·split at he
     ·exact Jm he hd hn
     ·cases he
   ·split at he
    ·exact Jm he hd hn
    ·cases he
   ·cases he
  ·rename_i ho;rw[ho]at hst;cases hst
  ·split at he
   ·split at he
    ·split at he
     ·split at he
      ·rw[Option.map_eq_some_iff]at he;obtain⟨e2,h1,rfl⟩:=he;exact XO (ge _) (Jm h1 hd hn)
      ·cases he
     ·cases he
    ·cases he
   ·cases he
  ·split at he
   ·rename_i x y t1 t2 d _ _ hdst
    have htd:t≠d:=fun e=>by subst e;exact hd hdst
    split at he
    ·
     unfold YH at he
     split at he
     case h_2=>cases he
     split at he
     ·cases he
     simp only at he
     split at he
     case h_2=>cases he
     split at he
     case h_2=>cases he
     split at he
     case h_2=>cases he
     split at he
     ·cases he;exact XO (ge _) (XO htd (qbh hn))
     ·cases he
    ·split at he
     ·rename_i v env1 hap;obtain⟨g,_,rfl,_⟩:=NZ hap;exact Jm he hd (Dy hn)
     ·cases he
    ·cases he
   ·cases he
  ·split at he
   ·exact Jm he hd hn
   ·cases he
  ·split at he
   ·split at he
    ·rw[Option.map_eq_some_iff]at he;obtain⟨e2,h1,rfl⟩:=he;exact XO (ge _) (Jm h1 hd hn)
    ·cases he
   ·cases he
  ·split at he
   ·split at he
    ·rename_i hlk
     split at he
     ·split at he
      ·cases he;exact XO (fun e=>by rw[e]at hn;rw[hn]at hlk;cases hlk) hn
      ·cases he;exact XO (fun e=>by rw[e]at hn;rw[hn]at hlk;cases hlk) hn
     ·cases he
    ·cases he
   ·cases he
  ·split at he
   ·split at he
    ·rw[Option.map_eq_some_iff]at he;obtain⟨e2,h1,rfl⟩:=he;exact XO (ge _) (Jm h1 hd hn)
    ·cases he
   ·cases he
  ·split at he
   ·exact Jm he hd hn
   ·cases he
 ·
  refine⟨hm,?_⟩
  cases hop:o.op with
  | makeSlice t l c =>
   have he0:=he;unfold astep at he;rw[hop]at he;simp only at he
   split at he
   case h_2=>cases he
   rename_i d k m k' m' el s hd hl1 hc1 hse
   split at he
   case h_2=>cases he
   rename_i z hz hcl
   split at he
   case h_2=>cases he
   rename_i hzz
   split at he
   case isFalse=>cases he
   rename_i hb;rw[Option.map_eq_some_iff]at he;obtain⟨e2,h1,rfl⟩:=he;rw[hd]at h1;obtain⟨hdn,rfl,_⟩:=YC h1;simp only[Bool.and_eq_true]at hcl;obtain⟨c1,c2⟩:=jO hcl.1;refine⟨d,.sb (1000000+d) el s 0 m.toNat,.obj el s (List.replicate m.toNat (elemOf z s)),hd,rfl,⟨by cases hh:look e (1000000+d) with | none=>rfl | some y=>exact absurd hh (c1 y),c2⟩,LE.refl _,fun F hF hcF hFd=>?_⟩;have hlF:LE (ded F) F:=UI F
   have hN:NA all o e (ded F):=fun t ht y hy=>by
    have:=hF t ht y hy;unfold lookS at this ⊢;rw[UI];exact this
   have hk:=JX hN
   have hst2:astep P n o (ded F)=some (ins (1000000+d) (.obj el s (List.replicate m.toNat (elemOf z s))) (ins d (.sb (1000000+d) el s 0 m.toNat) (ded F))):=by
    unfold astep;rw[hop];have k1:=hk l (by rw[hop];simp[Op.operands]) _ hl1;have k2:=hk c (by rw[hop];simp[Op.operands]) _ hc1;simp only[hd,k1,k2,hse,hz,qfa hcF,hcl.2,Bool.and_self,hzz];rw[if_pos hb];unfold eput;simp only[UI,hFd];have:Nat.blt d n=true:=Nat.ble_eq_true_of_le hdn;simp only[this,Bool.and_self,Option.map_some]
   exact Ho (Uv (jY hN hw) hst2) hlF ((hlF.ins _ _).ins _ _)
  | _=>rw[hop]at hm;cases hm
 ·
  refine⟨ha,?_⟩;unfold isApp at ha
  split at ha
  case h_2=>cases ha
  rename_i args ats hop;have he0:=he;unfold astep at he;rw[hop]at he;simp only at he
  split at he
  case h_2=>cases he
  rename_i x y t t' d hax hat hd;unfold lfOk at hl;rw[hop]at hl;simp only[hax]at hl;rw[List.all_eq_true]at hl
  have hlf:∀ xo,Unord all o xo→isMv xo.op=true∧(match aop e x with | some (.sb ..)=>false | _=>true)=true∧∀ t,t∈namesOf all.toArray xo→plainV (look e t)=true:=by
   rintro xo ⟨k,i,hk,hi,hne,h1,h2⟩
   have hmem:∀ {k:Nat} {o:Oper},all[k]? = some o→(o,k)∈all.zipIdx:=fun {k o} h=>by
    rw[List.mem_iff_getElem?];exact⟨k,by simp[List.getElem?_zipIdx,h]⟩
   have q:=hl (o,k) (hmem hk);simp only[Bool.or_eq_true]at q
   rcases q with q | q
   ·rw[hd]at q
    simp at q
   ·rw[List.all_eq_true]at q;have q:=q (xo,i) (hmem hi);simp only[h1,h2,Bool.false_or,Bool.or_eq_true,Bool.and_eq_true,List.all_eq_true]at q
    rcases q with q | q
    ·exact absurd (Nat.eq_of_beq_eq_true q) hne
    ·exact q
  split at he
  ·
   rename_i id ex kx off m q hpx hqx
   refine .inl fun xo hxo=>?_
   have:=(hlf xo hxo).2.1;rw[hpx]at this;cases this
  ·rename_i p q hns hpx hqx
   split at he
   case h_2=>cases he
   rename_i v env1 hap;obtain⟨g,g1,rfl,g2⟩:=NZ hap;rw[hd]at he;obtain⟨hdn,rfl,_⟩:=YC he;refine .inr ⟨d,v,g,hd,LE.refl _,g1,fun xo hxo=>(hlf xo hxo).2.2,fun F hF hFd=>?_⟩;have hk:=JX hF
   have hst2:astep P n o F=some (ins d v (F.map fun p=>(p.1,g p.2))):=by
    unfold astep;rw[hop]
    have ea:args=#[x,y]:=by apply Array.ext';simpa using hax
    have k1:=hk x (by rw[hop,ea];simp[Op.operands,Call.operands]) _ hpx;have k2:=hk y (by rw[hop,ea];simp[Op.operands,Call.operands]) _ hqx;simp only[hax,hat,hd,k1,k2]
    have hgo:(match aappend P t t' d p q F with | some (v,env1)=>eput n (some d) v env1 | none=>none)=some (ins d v (F.map fun p=>(p.1,g p.2))):=by
     rw[g2 F]
     simp only
     unfold eput;simp only[XC g,hFd,Option.map_none];have:Nat.blt d n=true:=Nat.ble_eq_true_of_le hdn;simp only[this,Bool.and_self]
    cases p with
    | sb id ex kx off m=>exact absurd rfl (hns id ex kx off m)
    | _=>exact hgo
   exact Uv (jY hF hw) hst2
  ·cases he
theorem qai {o:Oper} {e e1:Env} (hx:∃ f args ats,o.op=.call { callee:=.value f,args:=args,argTypes:=ats }) (heff:isEff o.op=true) (hst:isStore o.op=false) (hf:∀ t,t<1000000→o.dst≠some t→look e t=none→look e1 t=none):Hard P n all o e e1:=by
 obtain⟨f,args,ats,ho⟩:=hx;refine⟨⟨heff,hst⟩,hf,?_,?_⟩
 ·intro _ hm;rw[ho]at hm;cases hm
 ·intro _ hm;rw[ho]at hm;cases hm
theorem qfW {o:Oper} {e e1:Env} (hw:awanted all o e=some false) (he:eput n o.dst .und e=some e1) (heff:isEff o.op=true) (hst:isStore o.op=false):Hard P n all o e e1:=by
 have hg:o.guard≠none:=fun hg=>by
  unfold awanted at hw;rw[hg]at hw;cases hw
 exact⟨⟨heff,hst⟩,fun t _ hd hn=>Jm he hd hn,fun h=>absurd h hg,fun h=>absurd h hg⟩
end
end Go.AM
