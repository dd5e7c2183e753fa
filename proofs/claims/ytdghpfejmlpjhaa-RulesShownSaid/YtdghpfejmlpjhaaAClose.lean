import Derived.Test.YtdghpfejmlpjhaaASimU
import Derived.LoopN
import Derived.Carry
import Derived.DataReads
import Derived.ProofKit
import Derived.OpenShut
set_option linter.all false
set_option maxRecDepth 100000
open Nat renaming eq_of_beq_eq_true→A0, beq→A1, le_of_ble_eq_true→A4, le_refl→C7, zero_add→D0, ble_eq_true_of_le→D6, le_of_succ_le_succ→G0
open Bool renaming and_eq_true→A2, not_eq_true'→D1, and_self→D7, or_eq_true→D8
open List renaming getElem?_eq_getElem→A3, all_eq_true→A7, getElem?_map→C0, mem_cons_self→D3, map_cons→D4, getElem?_append_left→E0, getElem?_append_right→E7, mem_iff_getElem?→E8, getElem?_zipIdx→E9
open Go.Region renaming ready→A5
open Array renaming replicate→A6, getD_eq_getD_getElem?→D5, mapM_eq_mapM_toList→D9, getElem?_replicate→F6, getElem?_append_left→F7, getElem?_eq_none→F8
open Go.Sem renaming run_bind→A8, run_pure→A9
open Go.Result renaming andThen_ok→B1
open Option renaming map_eq_some_iff→D2, bind_eq_some_iff→F9
namespace Go.AM
open Go.RowKit
variable {c d ex kx t t':Nat} {v x:AV} {xs:LJ}
section
variable {n:Nat} {P:Program}
def unlab:LP->Env->Env
  | [],e=>e
  | c::r,e=>unlab r (relabE c none e)
def unlV:LP->AV->AV
  | [],x=>x
  | c::r,x=>unlV r (x.relabB c none)
theorem Nt:∀ (cl:LP) (e:Env) (t:Nat),look (unlab cl e) t=(look e t).map (unlV cl)
  | [],e,t=>by cases h:look e t <;> simp[unlab,unlV,h]
  | c::r,e,t=>by
    simp only[unlab];rw[Nt r];unfold relabE;rw[Ze (AV.relabB c none)];cases look e t <;> rfl
def StepB (P:Program) (n:Nat) (all:LF) (o:Oper) (e e1:Env):Prop :=
  ∃ (d:Nat) (v:AV) (cl:LP),o.dst=some d/\v.ent=false/\(∀ b,v.hasLabB b=true->b=d)/\(∀ c,c∈cl->c∈killsB o)/\e1=ins d v (unlab cl e) /\
    ∀ E,NA all o e E->StepSem P n all o E (ins d v (unlab cl E))
inductive ChainB (P:Program) (n:Nat) (all:LF):LF->Env->Env->Prop where
  | nil {e}:ChainB P n all [] e e
  | step {o rest e e1 e'}:StepB P n all o e e1->ChainB P n all rest e1 e'->ChainB P n all (o::rest) e e'
theorem qfg (x:AV) (b:Nat) (hx:x.ent=false):x.strip.hasLabB b=false:=by
  cases x with
  | agr cs =>
    simp only[AV.strip,AV.hasLabB,List.any_map,List.any_eq_false];intro c _
    cases c <;> exact fun e=>by cases e
  | box cs=>cases hx
  | _=>rfl
theorem qlT {all:LF} {o:Oper} {e e1:Env} (hd:o.dst=some d) (hw:awanted all o e=some true) (hm:memFree o.op=true) (hx:apure P o e=some x) (hnb:x.ent=false) (he:eput n o.dst x.strip e=some e1):StepB P n all o e e1:=by
  obtain⟨h1,h2,_⟩:=Qq he;rw[hd]at h1 h2;refine⟨d,x.strip,[],hd,(by cases x <;> first | rfl | cases hnb),fun b hb=>?_,fun c hc=>(by cases hc),h1,fun E hk=>?_⟩
  . rw[qfg x b hnb]at hb;cases hb
  intro bs M O a w h K Q hK;rw[qU h (Jo hk hw)];simp only[if_true];obtain⟨v,w',M',k1,k2,k3,k4,k5,k6⟩:=DY h (HA (QK hk) (.inl hm) hx);have h':=h.grown (row:=none) (fun g e=>by cases e) k2 k3 k4 (fun b o hb _=>k5 b o hb);have h2':=Hp h' (d:=some d) (qbD k6) h2;exact Zg (env':=ins d x.strip E) ⟨v,w',M',O,.inl k1,by rw[hd];exact h2'⟩ hK
theorem mk_B {all:LF} {o:Oper} {e e1:Env} {m:Nat} {ps:Array (Nat×Operand)} (ho:o.op=.buildSlice t m ps) {el k:Nat} (hd:o.dst=some d) (hw:awanted all o e=some true) (hx:apure P o e=some (.lst el k none xs)) (he:eput n o.dst (.lst el k (some d) xs) (relabE d none e)=some e1):StepB P n all o e e1:=by
  obtain⟨h1,h2,_⟩:=Qq he;rw[hd]at h1 h2;refine⟨d,.lst el k (some d) xs,[d],hd,rfl,fun b hb=>?_,fun c hc=>?_,h1,fun E hk=>?_⟩
  . exact (A0 hb).symm
  . unfold killsB
    rw[ho,hd]
    simpa using hc
  intro bs M O a w h K Q hK;rw[qU h (Jo hk hw)];simp only[if_true];have hxE:=HA (QK hk) (.inl (by rw[ho];rfl)) hx;unfold apure at hxE;rw[ho]at hxE;simp only at hxE;split at hxE
  case h_2=>cases hxE
  rename_i l hl;obtain⟨e1',k1,xs1,us,e2,g1,g2,g3,g4⟩:=Yj (P:=P) h ho hl hxE;cases e2;have h':=h.grown (row:=none) (fun g e=>by cases e) (World.grownBy_alloc w (.cells us el) none) (VB h.cons us) (Hu h.cons us el) (fun b o hb _=>NF us b o hb);have hBle:¬ bs.D w.heap.size:=h.fresh (C7 _);have h'':=h'.relab d none (fun c hc=>by cases hc)
  obtain⟨O',hfin⟩:=h''.putFresh (d:=d) (g:=w.heap.size) (off:=0) (cap:=xs.length) (cur:=us) (h2 d rfl) (Zh d E) g3 (.inr ⟨rfl,hBle,fun i c hc=>by
    have hcO:O i c=some w.heap.size:=by
      simp only[relO,jU]at hc;split at hc
      . cases hc
      . exact hc
    have:=(h.own i c _ hcO).2
    omega,heap_alloc_new w _,by rw[D0];exact g2,C7 _,by unfold maxLen;omega,fun o ho=>by
      unfold addRow;rw[if_pos rfl];rw[D0]at ho;unfold cellsAt
      simp[g2,ho]⟩)
  exact Zg ⟨_,_,_,O',.inl g1,by rw[hd];exact hfin⟩ hK
theorem qht {y:AV} {e e1:Env} (h:aappend P t t' d (.lst ex kx (some c) xs) y e=some (v,e1)) :
    (∃ a b l,v=.lst a b (some d) l)/\e1=relabE d none (relabE c none e)/\∀ E,aappend P t t' d (.lst ex kx (some c) xs) y E=some (v,relabE d none (relabE c none E)):=by
  unfold aappend at h ⊢;split at h
  case h_2=>cases h
  rename_i e' s hse;split at h
  . cases h
  rename_i hc;split at h
  . cases h
  . rename_i ey ky l ys
    split at h
    . cases h
    rename_i hky;simp only at h;split at h
    . cases h
    rename_i hb;split at h
    case isFalse=>cases h
    rename_i hcap;cases h;refine⟨⟨_,_,_,rfl⟩,rfl,fun E=>?_⟩;simp only[hse,hc,hky,hb];rw[if_pos hcap]
  . cases h
theorem ZI {d t:Nat} (h:t≠d):∀ (E:Env),look (E.filter fun p=>!A1 p.1 d) t=look E t
  | []=>rfl
  | (k,y)::r=>by
    simp only[List.filter_cons];split
    . simp only[look]
      split
      . rfl
      . exact ZI h r
    . rename_i hk
      have hk:k=d:=by
        simp at hk;exact hk
      rw[ZI h r];simp only[look];split
      . rename_i hb
        have:=A0 hb;omega
      . rfl
theorem qcU (E:Env):look (E.filter fun p=>!A1 p.1 d) d≠some x:=by
  intro h;exact (Qv h).1 rfl
theorem qmu {all:LF} {o:Oper} {e e1:Env} {args:Array Operand} {ats:Array TypeId} (ho:o.op=.call { callee:=.builtin .append,args:=args,argTypes:=ats }) {x y:Nat} {b:AV} {env1:Env}
    (hax:args.toList=[.tmp x,.tmp y]) (hat:ats.toList=[t,t']) (hd:o.dst=some d) (hw:awanted all o e=some true) (hx:aop e (.tmp x)=some (.lst ex kx (some c) xs)) (hy:aop e (.tmp y)=some b) (hcx:c=x) (hxd:x≠d) (hyd:y≠d)
    (hap:aappend P t t' d (.lst ex kx (some c) xs) b e=some (v,env1)) (he:eput n o.dst v env1=some e1):StepB P n all o e e1:=by
  obtain⟨⟨va,vb,vl,rfl⟩,rfl,hE⟩:=qht hap;obtain⟨h1,h2,_⟩:=Qq he;rw[hd]at h1 h2;refine⟨d,.lst va vb (some d) vl,[c,d],hd,rfl,fun b' hb=>?_,fun c' hc=>?_,h1,fun E hk=>?_⟩
  . exact (A0 hb).symm
  . unfold killsB
    rw[ho];simp only[hax,hd];rw[<- hcx];exact hc
  intro bs M O a w h K Q hK;rw[qU h (Jo hk hw)];simp only[if_true];have hkn:=QK hk
  have hops:∀ z v,z∈[Operand.tmp x,Operand.tmp y]->aop e z=some v->aop E z=some v:=fun z v hz hv=>hkn z (by
    have hm:z∈args.toList:=by rw[hax];exact hz
    rw[ho];simp[Op.operands,Call.operands]
    simpa using hm) v hv
  have hxE:=hops _ _ (by simp) hx;have hyE:=hops _ _ (by simp) hy
  have low:∀ z v,z≠d->aop E (.tmp z)=some v->aop (E.filter fun p=>!A1 p.1 d) (.tmp z)=some v:=by
    intro z v hz hv;simp only[aop]at hv ⊢;rw[ZI hz];exact hv
  have h1':Inv bs n M O (E.filter fun p=>!A1 p.1 d) a w:=h.sub fun s z hz=>.inl (Qv hz).2
  have hst:astep P n o (E.filter fun p=>!A1 p.1 d)=some (ins d (.lst va vb (some d) vl) (relabE d none (relabE c none (E.filter fun p=>!A1 p.1 d)))):=by
    unfold astep;rw[ho];simp only[hax,hat,hd,low x _ hxd hxE,low y _ hyd hyE,hE];unfold eput
    have hnone:look (relabE d none (relabE c none (E.filter fun p=>!A1 p.1 d))) d=none:=by
      have:=Nt [c,d] (E.filter fun p=>!A1 p.1 d) d;simp only[unlab]at this;rw[this]
      cases hl:look (E.filter fun p=>!A1 p.1 d) d with
      | none=>rfl
      | some z=>exact absurd hl (qcU E)
    have hlt:Nat.blt d n=true:=D6 (h2 d rfl);simp only[hnone,hlt];rfl
  refine Zg (qbZ h1' hst) fun a' w' M' O' h'=>hK a' w' M' O' (h'.looks fun s=>?_)
  rw[je,je];split
  . rfl
  . rename_i hs
    have e1:=Nt [c,d] E s;have e2:=Nt [c,d] (E.filter fun p=>!A1 p.1 d) s;rw[e1,<- ZI hs E];exact e2.symm
theorem qkk {all:LF} {o:Oper} {e e1:Env} (hw:awanted all o e=some true) (he:astepB P n o e=some e1):StepB P n all o e e1:=by
  unfold astepB at he;split at he
  . rename_i args ats ho
    split at he
    case h_2=>cases he
    rename_i x y t t' d hax hat hd;split at he
    case h_2=>cases he
    rename_i ex kx c xs b hx hy;split at he
    case h_2=>cases he
    rename_i hb;simp only[A2,D1]at hb;obtain⟨⟨b1,b2⟩,b3⟩:=hb;split at he
    case h_2=>cases he
    rename_i v env1 hap;exact qmu ho hax hat hd hw hx hy (A0 b1) (fun h=>by rw[h]at b2;simp at b2) (fun h=>by rw[h]at b3;simp at b3) hap he
  . rename_i t m ps ho
    split at he
    case h_2=>cases he
    rename_i d el k xs hd hx;exact mk_B ho hd hw hx he
  . split at he
    case h_2=>cases he
    rename_i d v hd hx;split at he
    case h_2=>cases he
    rename_i hb;simp only[A2]at hb;exact qlT hd hw hb.1 hx (by simpa[notBox] using hb.2) he
variable {all:LF} {es:Nat->Env}
end
end Go.AM
namespace Go.AM
open Go.RowKit
variable {F G e e1:Env} {d id t:Nat} {v x:AV}
section
variable {n:Nat} {P:Program} {all:LF}
theorem LE.refl (E:Env):LE E E:=fun _=>rfl
theorem LE.symm {E F:Env} (h:LE E F):LE F E:=fun t=>(h t).symm
theorem LE.trans {E F G:Env} (h:LE E F) (k:LE F G):LE E G:=fun t=>(h t).trans (k t)
theorem LE.ins {E F:Env} (h:LE E F) (d:Nat) (x:AV):LE (ins d x E) (ins d x F):=fun t=>by rw[je,je,h t]
theorem LE.insO {E F:Env} (h:LE E F) (d:LR) (x:AV):LE (insO d x E) (insO d x F):=by
 cases d with
 | none=>exact h
 | some d=>exact h.ins d x
theorem LE.map {E F:Env} (h:LE E F) (g:AV->AV):LE (E.map fun p=>(p.1,g p.2)) (F.map fun p=>(p.1,g p.2)):=fun t=>by rw[Ze g,Ze g,h t]
theorem LE.inv {bs:Base} {M:Mem} {O:Gh} {E:Env} {a:Act} {w:World} (h:LE E F) (hi:Inv bs n M O E a w):Inv bs n M O F a w:=hi.looks fun s=>(h s).symm
theorem qcy {o:Oper} {E E1 F1:Env} (h:StepSem P n all o E E1) (h1:LE E F) (h2:LE E1 F1):StepSem P n all o F F1:=fun bs M O a w hi K Q hK =>
 h bs M O a w (h1.symm.inv hi) K Q fun a' w' M' O' h'=>hK a' w' M' O' (h2.inv h')
theorem Zf {s t:Nat} (h:t≠s):∀ (E:Env),look (E.filter fun q=>!A1 q.1 s) t=look E t
 | []=>rfl
 | (r,x)::E=>by
  simp only[List.filter_cons];split
  .simp only[look];split
   .rfl
   exact Zf h E
  rename_i hr;rw[Zf h E];simp only[look];split
  .rename_i ht;have:=A0 ht;subst this;exfalso;apply hr;simp only[D1]
   exact Bool.eq_false_iff.2 fun e=>h (A0 e)
  rfl
def ded:Env->Env
 | []=>[]
 | p::r=>p::(ded r).filter fun q=>!A1 q.1 p.1
theorem qaG:∀ (E:Env) (t:Nat),look (ded E) t=look E t
 | [],t=>rfl
 | (s,x)::r,t=>by
  simp only[ded,look];split
  .rfl
  rename_i hs
  have hne:t≠s:=fun e=>by subst e;simp at hs
  rw[Zf hne];exact qaG r t
theorem qiT:∀ {E:Env} {p:Nat×AV},p∈ded E->look E p.1=some p.2
 | (s,x)::r,p,h=>by
  simp only[ded,List.mem_cons,List.mem_filter]at h
  rcases h with rfl | ⟨h,hne⟩
  .simp[look]
  have h1:=qiT h;simp only[look];split
  .rename_i hs;have:=A0 hs;rw[this]at hne;simp at hne
  exact h1
theorem qkf {E:Env} (h:ClearL id E):clearOf id (ded E)=true:=by
 unfold clearOf;rw[A7];intro p hp;have h1:=qiT hp;simp only[A2,D1];refine⟨Bool.eq_false_iff.2 fun e=>?_,h.2 _ _ h1⟩;have:=A0 e;rw[this,h.1]at h1;cases h1
def Fr (o:Oper) (E:Env):Prop:=∀ d,o.dst=some d->look E d=none/\d<1000000
def IsP (P:Program) (n:Nat) (all:LF) (o:Oper) (E E1:Env):Prop :=
 isEff o.op=false/\∃ x,x.ent=false/\LE (insO o.dst x E) E1/\∀ F,NA all o E F->(memFree o.op=true\/EA E F)->StepSem P n all o F (insO o.dst x F)
def Stp (P:Program) (n:Nat) (all:LF) (o:Oper) (E E1:Env):Prop :=
 StepSem P n all o E E1/\Fr o E/\(isEff o.op=false->IsP P n all o E E1)/\(o.guard=none->isMk o.op=true->IsA P n all o E E1)/\(o.guard=none->isApp o.op=true->IsB P n all o E E1)
theorem qkV {o:Oper} {E:Env} (h:LE E F) (k:NA all o F G):NA all o E G:=fun t ht y hy=>k t ht y (by unfold lookS at hy ⊢;rw[<- h t];exact hy)
theorem qmt {E:Env} (h:LE E F) (k:EA F G):EA E G:=fun s x hx hl=>k s x hx (by rw[<- h s];exact hl)
theorem qlu {E:Env} (h:LE E F) (k:ClearL id E):ClearL id F:=⟨by rw[<- h id];exact k.1,fun s x hx=>k.2 s x (by rw[h s];exact hx)⟩
theorem Stp.le {o:Oper} {E E1:Env} (h:Stp P n all o E E1) (hl:LE E F):Stp P n all o F E1:=by
 obtain⟨h1,h2,h3,h4,h5⟩:=h;refine⟨qcy h1 hl (LE.refl _),fun d hd=>⟨by rw[<- hl d];exact (h2 d hd).1,(h2 d hd).2⟩,fun he=>?_,fun hg he=>?_,fun hg he=>?_⟩
 .obtain⟨k0,x,k1,k2,k3⟩:=h3 he;exact⟨k0,x,k1,(hl.symm.insO _ _).trans k2,fun G hG hm=>k3 G (qkV hl hG) (hm.imp id fun hm=>qmt hl hm)⟩
 .obtain⟨k0,d,x,y,k1,k2,k3,k4,k5⟩:=h4 hg he;exact⟨k0,d,x,y,k1,k2,qlu hl k3,((hl.symm.ins _ _).ins _ _).trans k4,fun G hG=>k5 G (qkV hl hG)⟩
 obtain⟨k0,k⟩:=h5 hg he;refine⟨k0,k.imp id ?_⟩
 rintro⟨d,v,g,k1,k2,k3,k4,k5⟩
 exact⟨d,v,g,k1,((hl.symm.map g).ins _ _).trans k2,k3,fun x hx t ht=>by rw[<- hl t];exact k4 x hx t ht,fun G hG=>k5 G (qkV hl hG)⟩
inductive Ch (P:Program) (n:Nat) (all:LF):LP->Env->Env->Prop where
 | nil {E E'}:LE E E'->Ch P n all [] E E'
 | cons {i o R E E1 E'}:all[i]? = some o->Stp P n all o E E1->Ch P n all R E1 E'->Ch P n all (i::R) E E'
theorem Ch.le {R:LP} {E F E':Env} (h:Ch P n all R E E') (hl:LE E F):Ch P n all R F E':=by
 cases h with
 | nil h=>exact .nil (hl.symm.trans h)
 | cons h1 h2 h3=>exact .cons h1 (h2.le hl) h3
theorem qdM {g:AV->AV} (h:look e t=none):look (e.map fun p=>(p.1,g p.2)) t=none:=by
 rw[Ze g,h];rfl
theorem Uy {l:Nat} (h:plainV (some x)=true):x.relabB l none=x:=by
 cases x with
 | box cs=>cases h
 | agr cs=>cases h
 | lst e k lab xs=>cases lab with
  | none=>rfl
  | some c=>cases h
 | _=>rfl
theorem qcc {t':Nat} {a b:AV} {e':Env} (h:aappend P t t' d a b e=some (v,e')) :
  ∃ g:AV->AV,(∀ x,plainV (some x)=true->g x=x)/\e'=e.map (fun p=>(p.1,g p.2))/\∀ F:Env,aappend P t t' d a b F=some (v,F.map fun p=>(p.1,g p.2)):=by
 unfold aappend at h ⊢;split at h
 case h_2=>cases h
 rename_i el s hse;split at h
 .cases h
 rename_i hc;split at h
 .cases h
 case h_3=>cases h
 rename_i ey ky l ys;split at h
 .cases h
 rename_i hky;split at h
 .split at h
  .rename_i hb;cases h;refine⟨fun x=>x.relabB d none,fun x hx=>Uy hx,rfl,fun F=>?_⟩;simp only[hse,hky];rw[if_pos hb];rfl
  cases h
 .rename_i ex kx c xs;split at h
  .cases h
  rename_i hx;split at h
  .rename_i hb;cases h;refine⟨fun x=>(x.relabB c none).relabB d none,fun x hx=>by show (x.relabB c none).relabB d none=x;rw[Uy hx,Uy hx],by simp[relabE,List.map_map,Function.comp],fun F=>?_⟩;simp only[hse,hky,hx];rw[if_pos hb];simp[relabE,List.map_map,Function.comp]
  cases h
 cases h
theorem Zt (h:t≠d) (hl:look e t=none):look (ins d x e) t=none:=by rw[je,if_neg h];exact hl
theorem JM {o:LR} (h:eput n o v e=some e1) (ht:o≠some t) (hl:look e t=none):look e1 t=none:=by
 obtain⟨rfl,_,_⟩:=Qq h;rw[Vt ht];exact hl
theorem qfD {s:Nat} (hl:look e t=none):look (forget s e) t=none:=by
 cases h:look (forget s e) t with
 | none=>rfl
 | some y =>
  obtain⟨_,z,hz,_⟩:=ZQ h;rw[hl]at hz;cases hz
theorem qlX {o:Oper} (hw:awanted all o e=some true) (hl:lfOk all o e=true) (he:astep P n o e=some e1) (heff:isEff o.op=true) (hst:isStore o.op=false):Hard P n all o e e1:=by
 refine⟨⟨heff,hst⟩,fun t ht hd hn=>?_,fun _ hm=>?_,fun _ ha=>?_⟩
 .
  have ge:∀ d:Nat,t≠1000000+d:=fun d e=>absurd ht (Nat.not_lt_of_le (by rw[e];exact Nat.le_add_right _ _))
  unfold astep at he;split at he
  .split at he
   .rename_i d hd';split at he
    .split at he
     .exact JM he hd hn
     cases he
    cases he
   cases he
  .split at he
   .split at he
    .exact JM he hd hn
    split at he
    .exact JM he hd hn
    cases he
   .split at he
    .exact JM he hd hn
    cases he
   cases he
  .rename_i ho;rw[ho]at hst;cases hst
  .split at he
   .split at he
    .split at he
     .split at he
      .rw[D2]at he;obtain⟨e2,h1,rfl⟩:=he;exact Zt (ge _) (JM h1 hd hn)
      cases he
     cases he
    cases he
   cases he
  .split at he
   .rename_i x y t1 t2 d _ _ hdst
    have htd:t≠d:=fun e=>by subst e;exact hd hdst
    split at he
    .
     unfold VZ at he;split at he
     case h_2=>cases he
     split at he
     .cases he
     simp only at he;split at he
     case h_2=>cases he
     split at he
     case h_2=>cases he
     split at he
     case h_2=>cases he
     split at he
     .cases he;exact Zt (ge _) (Zt htd (qfD hn))
     cases he
    .split at he
     .rename_i v env1 hap;obtain⟨g,_,rfl,_⟩:=qcc hap;exact JM he hd (qdM hn)
     cases he
    cases he
   cases he
  .split at he
   .exact JM he hd hn
   cases he
  .split at he
   .split at he
    .rw[D2]at he;obtain⟨e2,h1,rfl⟩:=he;exact Zt (ge _) (JM h1 hd hn)
    cases he
   cases he
  .split at he
   .split at he
    .rename_i hlk;split at he
     .split at he
      .cases he;exact Zt (fun e=>by rw[e]at hn;rw[hn]at hlk;cases hlk) hn
      cases he;exact Zt (fun e=>by rw[e]at hn;rw[hn]at hlk;cases hlk) hn
     cases he
    cases he
   cases he
  .split at he
   .split at he
    .rw[D2]at he;obtain⟨e2,h1,rfl⟩:=he;exact Zt (ge _) (JM h1 hd hn)
    cases he
   cases he
  split at he
  .exact JM he hd hn
  cases he
 
 refine⟨hm,?_⟩
 cases hop:o.op with
 | makeSlice t l c =>
  have he0:=he;unfold astep at he;rw[hop]at he;simp only at he;split at he
  case h_2=>cases he
  rename_i d k m k' m' el s hd hl1 hc1 hse;split at he
  case h_2=>cases he
  rename_i z hz hcl;split at he
  case h_2=>cases he
  rename_i hzz;split at he
  case isFalse=>cases he
  rename_i hb;rw[D2]at he;obtain⟨e2,h1,rfl⟩:=he;rw[hd]at h1;obtain⟨hdn,rfl,_⟩:=VV h1;simp only[A2]at hcl;obtain⟨c1,c2⟩:=Jx hcl.1;refine⟨d,.sb (1000000+d) el s 0 m.toNat,.obj el s (List.replicate m.toNat (elemOf z s)),hd,rfl,⟨by cases hh:look e (1000000+d) with | none=>rfl | some y=>exact absurd hh (c1 y),c2⟩,LE.refl _,fun F hF hcF hFd=>?_⟩;have hlF:LE (ded F) F:=qaG F
  have hN:NA all o e (ded F):=fun t ht y hy=>by
   have:=hF t ht y hy;unfold lookS at this ⊢;rw[qaG];exact this
  have hk:=QK hN
  have hst2:astep P n o (ded F)=some (ins (1000000+d) (.obj el s (List.replicate m.toNat (elemOf z s))) (ins d (.sb (1000000+d) el s 0 m.toNat) (ded F))):=by
   unfold astep;rw[hop];have k1:=hk l (by rw[hop];simp[Op.operands]) _ hl1;have k2:=hk c (by rw[hop];simp[Op.operands]) _ hc1;simp only[hd,k1,k2,hse,hz,qkf hcF,hcl.2,D7,hzz];rw[if_pos hb];unfold eput;simp only[qaG,hFd];have:Nat.blt d n=true:=D6 hdn;simp only[this,D7,Option.map_some]
  exact qcy (qat (Jo hN hw) hst2) hlF ((hlF.ins _ _).ins _ _)
 | _=>rw[hop]at hm;cases hm
 
 refine⟨ha,?_⟩;unfold isApp at ha;split at ha
 case h_2=>cases ha
 rename_i args ats hop;have he0:=he;unfold astep at he;rw[hop]at he;simp only at he;split at he
 case h_2=>cases he
 rename_i x y t t' d hax hat hd;unfold lfOk at hl;rw[hop]at hl;simp only[hax]at hl;rw[A7]at hl
 have hlf:∀ xo,Unord all o xo->isMv xo.op=true/\(match aop e x with | some (.sb ..)=>false | _=>true)=true/\∀ t,t∈namesOf all.toArray xo->plainV (look e t)=true:=by
  rintro xo ⟨k,i,hk,hi,hne,h1,h2⟩
  have hmem:∀ {k:Nat} {o:Oper},all[k]? = some o->(o,k)∈all.zipIdx:=fun {k o} h=>by
   rw[E8];exact⟨k,by simp[E9,h]⟩
  have q:=hl (o,k) (hmem hk);simp only[D8]at q
  rcases q with q | q
  .rw[hd]at q;simp at q
  rw[A7]at q;have q:=q (xo,i) (hmem hi);simp only[h1,h2,Bool.false_or,D8,A2,A7]at q
  rcases q with q | q
  .exact absurd (A0 q) hne
  exact q
 split at he
 .
  rename_i id ex kx off m q hpx hqx
  refine .inl fun xo hxo=>?_
  have:=(hlf xo hxo).2.1;rw[hpx]at this;cases this
 .rename_i p q hns hpx hqx;split at he
  case h_2=>cases he
  rename_i v env1 hap;obtain⟨g,g1,rfl,g2⟩:=qcc hap;rw[hd]at he;obtain⟨hdn,rfl,_⟩:=VV he;refine .inr ⟨d,v,g,hd,LE.refl _,g1,fun xo hxo=>(hlf xo hxo).2.2,fun F hF hFd=>?_⟩;have hk:=QK hF
  have hst2:astep P n o F=some (ins d v (F.map fun p=>(p.1,g p.2))):=by
   unfold astep;rw[hop]
   have ea:args=#[x,y]:=by apply Array.ext';simpa using hax
   have k1:=hk x (by rw[hop,ea];simp[Op.operands,Call.operands]) _ hpx;have k2:=hk y (by rw[hop,ea];simp[Op.operands,Call.operands]) _ hqx;simp only[hax,hat,hd,k1,k2]
   have hgo:(match aappend P t t' d p q F with | some (v,env1)=>eput n (some d) v env1 | none=>none)=some (ins d v (F.map fun p=>(p.1,g p.2))):=by
    rw[g2 F];simp only;unfold eput;simp only[Ze g,hFd,Option.map_none];have:Nat.blt d n=true:=D6 hdn;simp only[this,D7]
   cases p with
   | sb id ex kx off m=>exact absurd rfl (hns id ex kx off m)
   | _=>exact hgo
  exact qat (Jo hF hw) hst2
 cases he
theorem qeF {o:Oper} (hx:∃ f args ats,o.op=.call { callee:=.value f,args:=args,argTypes:=ats }) (heff:isEff o.op=true) (hst:isStore o.op=false) (hf:∀ t,t<1000000->o.dst≠some t->look e t=none->look e1 t=none):Hard P n all o e e1:=by
 obtain⟨f,args,ats,ho⟩:=hx;refine⟨⟨heff,hst⟩,hf,?_,?_⟩
 .intro _ hm;rw[ho]at hm;cases hm
 intro _ hm;rw[ho]at hm;cases hm
theorem qlf {o:Oper} (hw:awanted all o e=some false) (he:eput n o.dst .und e=some e1) (heff:isEff o.op=true) (hst:isStore o.op=false):Hard P n all o e e1:=by
 have hg:o.guard≠none:=fun hg=>by
  unfold awanted at hw;rw[hg]at hw;cases hw
 exact⟨⟨heff,hst⟩,fun t _ hd hn=>JM he hd hn,fun h=>absurd h hg,fun h=>absurd h hg⟩
end
end Go.AM
namespace Go.AM
open Go.RowKit
variable {P:Program} {n:Nat} {all:LF}
variable {draw:Bool} {e e' e1:Env}
theorem qdu (hc:Chain P n draw all [] e e1):∀ (bs:Base) (M:Mem) (O:Gh) (a:Act) (w:World),Inv bs n M O e a w->∃ M' O',Inv bs n M' O' e1 a w:=by
 generalize hl:([]:LF)=l at hc
 induction hc with
 | nil=>intro bs M O a w h;exact⟨M,O,h⟩
 | drop e0 _ hw _ ih =>
  intro bs M O a w h;obtain⟨M',O',h'⟩:=hw bs M O a w h;exact ih hl bs M' O' a w h'
 | step=>cases hl
theorem qeX {o:Oper} (hc:Chain P n draw all [o] e e1):StepSem P n all o e e1:=by
 generalize hl:[o]=l at hc
 induction hc with
 | nil=>cases hl
 | drop e0 _ hw _ ih =>
  intro bs M O a w h K Q hK;obtain⟨M',O',h'⟩:=hw bs M O a w h;exact ih hl bs M' O' a w h' K Q hK
 | step h hr _ =>
  cases hl;intro bs M O a w hi K Q hK
  refine h.1 bs M O a w hi K Q fun a' w' M' O' h'=>?_
  obtain⟨M2,O2,h2⟩:=qdu hr bs M' O' a' w' h';exact hK a' w' M2 O2 h2
def AnyOk (P:Program) (n:Nat) (all:LF) (R:LP) (e e':Env):Prop :=
 ∀ (bs:Base) (Q:Exit->Act->World->Prop),ju all.toArray=true->(∀ a' w' M' O',Inv bs n M' O' e' a' w'->Q .normal a' w') ->
  ∀ (fuel:Nat) (listed:Array Bool) (a:Act) (w:World) (M:Mem) (O:Gh),listed.size=all.length->Closed all (fun i=>listed.getD i false=true)->R.Nodup->(∀ i,i∈R->i<all.length)->(∀ i,i<all.length->(i∈R↔listed.getD i false=false)) ->
   jw all.length listed<=fuel->Inv bs n M O e a w->wpAny P .any all.toArray Q fuel listed a w
theorem qev {listed:Array Bool} {R:LP} (hback:ju all.toArray=true) (hsz:listed.size=all.length) (hlt:∀ i,i∈R->i<all.length) (hR:∀ i,i<all.length->(i∈R↔listed.getD i false=false)) (hr:A5 .any all.toArray listed=[]):R=[]:=by
 have hall:∀ i,i<all.length->listed.getD i false=true:=by
  intro i
  induction i using Nat.strongRecOn with
  | _ i ih =>
   intro hi
   cases hv:listed.getD i false with
   | true=>rfl
   | false =>
    exfalso;have ho:all[i]? = some all[i]:=A3 hi
    have:i∈A5 .any all.toArray listed:=by
     rw[mem_ready];refine⟨by rw[Yh (by omega)];exact hv,all[i],by simp,fun e he hb=>?_⟩
     have hlt:e.on<i:=by
      unfold ju at hback;rw[A7]at hback
      have hmem:(all[i],i)∈all.toArray.toList.zipIdx:=by
       rw[E8];exact⟨i,by simp[E9,ho]⟩
      have:=hback _ hmem;rw[Array.all_eq_true_iff_forall_mem]at this;have:=this e he;simp only[D8,D1]at this
      rcases this with h1 | h1
      .rw[hb]at h1;cases h1
      exact A4 h1
     exact ih e.on hlt oM
    rw[hr]at this;cases this
 cases R with
 | nil=>rfl
 | cons i R =>
  have hi:=hlt i (D3 ..);have:=(hR i hi).1 (D3 ..);rw[hall i hi]at this;cases this
theorem qko:AnyOk P n all [] e e:=by
 intro bs Q hback hQ fuel listed a w M O hsz hc hnd hlt hR hu h
 have hr:A5 .any all.toArray listed=[]:=by
  cases hr:A5 .any all.toArray listed with
  | nil=>rfl
  | cons i rs =>
   exfalso
   have hi:i∈A5 .any all.toArray listed:=by rw[hr];exact D3 ..
   rw[mem_ready]at hi;obtain⟨h0,o,ho,_⟩:=hi
   have hil:i<all.length:=by
    have:=(Array.getElem?_eq_some_iff.1 ho).1
    simpa using this
   have:=(hR i hil).2 (by rw[<- Yh (by omega)];exact h0);cases this
 cases fuel with
 | zero=>exact⟨hr,hQ a w M O h⟩
 | succ fuel=>exact⟨fun _=>hQ a w M O h,fun k hk=>by rw[hr]at hk;cases hk⟩
theorem qiv {R:LP} (F:Nat->Env) (hne:R≠[]) (hF:∀ k o,k∈R->all[k]? = some o->readyR all R k=true->StepSem P n all o e (F k)) (hrec:∀ k,k∈R->readyR all R k=true->AnyOk P n all (R.erase k) (F k) e'):AnyOk P n all R e e':=by
 intro bs Q hback hQ fuel listed a w M O hsz hc hnd hlt hR hu h
 have hno:A5 .any all.toArray listed≠[]:=fun hr=>hne (qev hback hsz hlt hR hr)
 cases fuel with
 | zero =>
  exfalso
  cases hr:A5 .any all.toArray listed with
  | nil=>exact hno hr
  | cons i rs =>
   have hi:i∈A5 .any all.toArray listed:=by rw[hr];exact D3 ..
   rw[mem_ready]at hi;obtain⟨h0,o,ho,_⟩:=hi
   have hil:i<all.length:=by
    have:=(Array.getElem?_eq_some_iff.1 ho).1
    simpa using this
   have:0<jw all.length listed:=by
    unfold jw;rw[List.countP_pos_iff];exact⟨i,List.mem_range.2 hil,by rw[h0];rfl⟩
   omega
 | succ fuel =>
  refine⟨fun hr=>absurd hr hno,fun k hk=>?_⟩;rw[mem_ready]at hk;obtain⟨hk0,ok,hok,hkall⟩:=hk
  have hok':all[k]? = some ok:=by simpa using hok
  have hkl:k<all.length:=(List.getElem?_eq_some_iff.1 hok').1
  have hkf:listed.getD k false=false:=by rw[<- Yh (by omega)];exact hk0
  have hdeps:∀ i,((Region.before all.toArray).getD k 0).testBit i=true->listed.getD i false=true :=
   ZK hc k ok hok' (fun e he hb=>hkall e (by simpa using he) hb)
  have hsz':(listed.setIfInBounds k true).size=all.length:=by simp[hsz]
  have hset:∀ i,(listed.setIfInBounds k true).getD i false=true↔(i=k\/listed.getD i false=true):=by
   intro i;by_cases hik:i=k
   .subst hik
    have hkk:i<listed.size:=by omega
    simp[hkk]
   rw[getD_set_ne false (fun e=>hik e.symm)];simp[hik]
  have hc':Closed all (fun i=>(listed.setIfInBounds k true).getD i false=true):=by
   intro j o ho hj e he hb;rw[hset]at hj ⊢
   rcases hj with rfl | hj
   .rw[hok']at ho;cases ho;exact .inr (hkall e (by simpa using he) hb)
   exact .inr (hc j o ho hj e he hb)
  have hu':jw all.length (listed.setIfInBounds k true)<=fuel:=by
   have:jw all.length (listed.setIfInBounds k true)<jw all.length listed:=by
    unfold jw;refine Du (x:=k) (fun i hi hq=>?_) (List.mem_range.2 hkl) (by rw[hk0];rfl) ?_
    .have hil:=List.mem_range.1 hi;simp only[D1]at hq ⊢;rw[Yh (by omega)]at hq ⊢
     cases hv:listed.getD i false with
     | false=>rfl
     | true =>
      have:=(hset i).2 (.inr hv);rw[this]at hq;cases hq
    have hkk:k<listed.size:=by omega
    simp[hkk]
   omega
  have hwp:∀ (K:Act->World->Prop),(if Region.wanted ok (yielded all.toArray a.tmps) then ok.wp P a w K Q else K (a.put ok.dst undef) w)->wpOp P all.toArray Q k K a w:=by
   intro K hK;unfold wpOp;rw[hok];simp only;split
   .rename_i hw;rw[if_pos hw]at hK;exact .inl hK
   rename_i hw;rw[if_neg hw]at hK;exact hK
  refine hwp _ ?_;have hkR:k∈R:=(hR k hkl).2 hkf
  have hrd:readyR all R k=true:=by
   unfold readyR;rw[A7];intro i hi
   cases hb:((Region.before all.toArray).getD k 0).testBit i with
   | false=>rfl
   | true =>
    have:=(hR i (hlt i hi)).1 hi;rw[hdeps i hb]at this;cases this
  refine hF k ok hkR hok' hrd bs M O a w h _ Q fun a' w' M' O' h'=>hrec k hkR hrd bs Q hback hQ fuel _ a' w' M' O' hsz' hc' (hnd.erase k) (fun i hi=>hlt i (List.mem_of_mem_erase hi)) (fun i hi=>?_) hu' h'
  have h1:=hR i hi;rw[hnd.mem_erase_iff];constructor
  .rintro⟨hik,hm⟩
   cases hv:(listed.setIfInBounds k true).getD i false with
   | false=>rfl
   | true =>
    rcases (hset i).1 hv with e | e
    .exact absurd e hik
    rw[h1.1 hm]at e;cases e
  intro hv
  have hik:i≠k:=fun e=>by rw[(hset i).2 (.inl e)]at hv;cases hv
  refine⟨hik,h1.2 ?_⟩
  cases hw:listed.getD i false with
  | false=>rfl
  | true=>rw[(hset i).2 (.inr hw)]at hv;cases hv
theorem qft {bs:Base} {M:Mem} {O:Gh} {a:Act} {w:World} {id:Nat} {ops:Lh} (hmix:P.follows .mixedOrders=true) (hback:ju ops=true)
  (hc:AnyOk P n ops.toList (List.range ops.size) e e') (h:Inv bs n M O e a w) {Q:Exit->Act->World->Prop} (hQ:∀ a' w' M' O',Inv bs n M' O' e' a' w'->Q .normal a' w'):(Code.region id ops true).wp P Q a w:=by
 have ea:ops.toList.toArray=ops:=Array.toArray_toList;refine wp_region_any hmix ?_;have hdr:Inv bs n M O e a { w with drawn:=w.drawn+1 }:=h.grown (row:=none) (fun g e=>by cases e) ⟨rfl,rfl,rfl,C7 _,fun _ _ _=>rfl⟩ (Sub.refl M) (fun b o u hu=>h.cons b o u hu) (fun _ _ _ _=>rfl);have:=hc bs Q (by rw[ea];exact hback) hQ ops.size (A6 ops.size false) a { w with drawn:=w.drawn+1 } M O (by simp)
  (fun j o ho hj=>by simp[F6]at hj;split at hj <;> simp at hj) List.nodup_range (fun i hi=>by simpa using List.mem_range.1 hi)
  (fun i hi=>⟨fun _=>by simp[F6];split <;> simp,fun _=>List.mem_range.2 (by simpa using hi)⟩)
  (by
   unfold jw;have:=List.countP_le_length (p:=fun i=>!(A6 ops.size false).getD i true) (l:=List.range ops.toList.length)
   simpa using this) hdr
 rw[ea]at this;exact this
end Go.AM
namespace Go.AM
open Go.RowKit
variable {off s:Nat} {t:TypeId} {x z:AV} {cs:LJ} {v:Value} {c:Code} {e e':Env} {ex:Ex}
section
variable {bs:Base} {n:Nat} {M:Mem} {O:Gh} {env:Env} {a:Act} {w:World} {P:Program}
theorem qjX (s:Nat) (y z:AV):(z=.pb s 0/\frzRef s y z=.ptr y)\/frzRef s y z=killRef s z:=by
 unfold frzRef;split
 .rename_i t o;split
  .rename_i ht;have ht:t=s:=A0 ht;subst ht;split
   .exact .inl ⟨rfl,rfl⟩
   right;unfold killRef;simp[AV.refs]
  rename_i ht;right;unfold killRef;simp only[AV.refs,ht]
 exact .inr rfl
theorem qla {t:Nat} {y0:AV} (h:look (env.map fun p=>(p.1,frzRef s y0 p.2)) t=some x):∃ y,look env t=some y/\x=frzRef s y0 y:=by
 rw[Ze (frzRef s y0)]at h
 cases hy:look env t with
 | none=>rw[hy]at h;cases h
 | some y =>
  rw[hy]at h;exact⟨y,rfl,(Option.some.inj h).symm⟩
theorem Inv.freezeTo (h:Inv bs n M O env a w) (hl:look env s=some (.box cs)) (hslt:s<1000000) {y:AV} (hy:y.cells=cs.map AV.strip) :
  ∃ M' O',Inv bs n M' O' (ins s (.ptr y) (env.map fun p=>(p.1,frzRef s y p.2))) a w:=by
 obtain⟨g,cur,el,h1,h2,h3,h4,h5,h6⟩:=h.slots s _ hl;have h1:a.tmps.getD s undef=.pointer (some ⟨g,0,none⟩):=h1.resolve_right oM;obtain⟨hgB,hgs⟩:=h.own true s g h2
 have hsub:Sub M (addRow M g cur):=by
  intro b o u hu;unfold addRow;split
  .rename_i e;subst e;rw[h5]at hu;cases hu
  exact hu
 have hO:∀ i c g',(setO O true s none) i c=some g'->O i c=some g'/\¬ (i=true/\c=s):=by
  intro i c g' hg;rw[jU]at hg;split at hg
  .cases hg
  rename_i hne;exact⟨hg,hne⟩
 refine⟨addRow M g cur,setO O true s none,h.size,h.defers,h.below,h.hB,?_,h.ext.trans hsub,?_,fun i c g' hg=>h.own i c g' (hO i c g' hg).1,fun i i' c c' g' k1 k2=>h.inj i i' c c' g' (hO _ _ _ k1).1 (hO _ _ _ k2).1,⟨h.fix.1,fun c g1 g2=>?_⟩,?_⟩
 .intro b o u hu;unfold addRow at hu;split at hu
  .rename_i e;subst e;rw[mcRow h3];exact hu
  exact h.cons b o u hu
 .intro b o hb;unfold addRow;rw[if_neg (fun e=>hgB (by rw[<- e];exact hb))];exact h.old b o hb
 .obtain⟨e1,e2,e3⟩:=h.fix.2 c g1 g2;exact⟨(ji (O:=O) (v:=none) (by omega:c≠s)).1.trans e1,e2,e3⟩
 have hptr:R (addRow M g cur) (.ptr y) (.pointer (some ⟨g,0,none⟩)):=by
  refine R.ptr (fun j=>cur.getD j undef) (fun j c hc=>?_) (fun j c hc=>?_) (fun j c hc=>?_)
  all_goals
   rw[hy,C0]at hc
   cases hz:cs[j]? with
   | none=>rw[hz]at hc;cases hc
   | some z =>
    rw[hz]at hc;cases hc
    have hj:j<cur.size:=by rw[h4];exact (List.getElem?_eq_some_iff.1 hz).1
    have e:cur[j]? = some (cur.getD j undef):=by simp[hj]
    first
    | (rw[D0];unfold addRow;rw[if_pos rfl];exact Jy e (Ye ((h6 j z _ hz e).2.1.one (h6 j z _ hz e).1)))
    | exact ((h6 j z _ hz e).2.1.mono hsub).strip
    | exact Ye ((h6 j z _ hz e).2.1.one (h6 j z _ hz e).1)
 intro t x hx;rw[je]at hx;split at hx
 .rename_i e;subst e;cases hx;rw[h1];exact⟨hptr,trivial⟩
 rename_i hts;obtain⟨y',hy',rfl⟩:=qla hx
 rcases qjX s y y' with ⟨rfl,he⟩ | he
 .rw[he];obtain⟨g',e1,e2⟩:=h.slots t _ hy';rw[h2]at e2;cases e2;rw[e1];exact⟨hptr,trivial⟩
 rw[he];have hnr:=Nu s y'
 .have hkeep:∀ i c g',O i c=some g'->¬ (i=true/\c=s)->∀ o,M g' o=none->addRow M g cur g' o=none:=by
   intro i c g' hg hne o hm;unfold addRow;rw[if_neg (fun e=>by subst e;exact hne (h.inj _ _ _ _ g' hg h2))];exact hm
  refine ((h.slots t _ hy').kill s).change2 hsub (fun _=>ji hts) (fun c hcc=>ji fun e=>?_) (fun g' _ hg=>⟨rfl,hkeep true t g' hg fun e=>hts e.2⟩) fun c g' hg=>⟨by simp[jU,hg],rfl,hkeep false c g' hg fun e=>by cases e.1⟩
  rw[e,hnr]at hcc;cases hcc
theorem Inv.freeze1 (h:Inv bs n M O env a w) (s:Nat):∃ M' O',Inv bs n M' O' (freeze1 env s) a w:=by
 unfold AM.freeze1;split
 .rename_i cs hl;split
  .exact⟨M,O,h⟩
  rename_i hlt;have hlt:s<1000000:=A4 hlt;split
  .rename_i x;refine h.freezeTo hl hlt ?_;obtain⟨g,cur,el,h1,h2,h3,h4,h5,h6⟩:=h.slots s _ hl
   have hj:0<cur.size:=by rw[h4];exact Nat.zero_lt_one
   have:=(h6 0 x cur[0] rfl (by simp[hj])).1;rw[ZB (QQ this)];rfl
  exact h.freezeTo hl hlt rfl
 .rename_i e k xs hl;split
  .rename_i hus;exact h.freezeObj hl hus
  exact⟨M,O,h⟩
 .rename_i ks vs hl;split
  .rename_i hus;exact h.freezeMap hl hus
  exact⟨M,O,h⟩
 exact⟨M,O,h⟩
theorem Inv.nilTo (h:Inv bs n M O env a w) (q:Nat×Nat×Nat×Nat×Nat):Inv bs n M O (nilTo env q) a w:=by
 obtain⟨s,off,e,k,c⟩:=q;unfold AM.nilTo;simp only;split
 .rename_i hl;refine⟨h.size,h.defers,h.below,h.hB,h.cons,h.ext,h.old,h.own,h.inj,h.fix,fun t x hx=>?_⟩;rw[je]at hx;split at hx
  .rename_i e1;subst e1;cases hx;have hs:=(h.slots t _ hl).1;generalize a.tmps.getD t undef=y at hs;cases hs;exact⟨R.lstn e k (some c),.inl ⟨none,rfl⟩⟩
  exact h.slots t x hx
 .rename_i cs hl;split
  .rename_i hc;refine⟨h.size,h.defers,h.below,h.hB,h.cons,h.ext,h.old,h.own,h.inj,h.fix,fun t x hx=>?_⟩;rw[je]at hx;split at hx
   .rename_i e1;subst e1;cases hx;obtain⟨g,cur,el,h1,h2,h3,h4,h5,h6⟩:=h.slots t _ hl;refine⟨g,cur,el,h1,h2,h3,by simpa using h4,h5,fun j x u hx hu=>?_⟩;rw[List.getElem?_set]at hx;split at hx
    .rename_i hj;subst hj;split at hx
     .cases hx;have:=(h6 off .nils u hc hu).2.1;cases this;exact⟨rfl,R.lstn e k (some c),.inl ⟨none,rfl⟩⟩
     cases hx
    exact h6 j x u hx hu
   exact h.slots t x hx
  exact h
 exact h
theorem Inv.mvObj (h:Inv bs n M O env a w) (q:Mv):∃ M' O',Inv bs n M' O' (mvObj env q) a w:=by
 cases q with
 | nil t e k id=>obtain⟨O',h'⟩:=h.nilObj (t,e,k,id);exact⟨M,O',h'⟩
 | ren id id'=>obtain⟨O',h'⟩:=h.renObj (id,id');exact⟨M,O',h'⟩
 | frz id=>exact h.freeze1 id
 | slf s off=>exact⟨M,O,h.slfCell s off⟩
 | arr s=>obtain⟨O',h'⟩:=h.arrBox s;exact⟨M,O',h'⟩
theorem Inv.mvAll:∀ (l:List Mv) {M:Mem} {O:Gh} {env:Env},Inv bs n M O env a w->∃ M' O',Inv bs n M' O' (mvAll env l) a w
 | [],M,O,_,h=>⟨M,O,h⟩
 | q::l,_,_,_,h=>by
  obtain⟨M1,O1,h1⟩:=h.mvObj q;exact Inv.mvAll l h1
theorem Inv.freezeAll (h:Inv bs n M O env a w):∀ (l:LP),∃ M' O',Inv bs n M' O' (Zs env l) a w:=by
 intro l
 induction l generalizing M O env with
 | nil=>exact⟨M,O,h⟩
 | cons s l ih =>
  obtain⟨M1,O1,h1⟩:=h.freeze1 s;exact ih h1
theorem Inv.nilAll:∀ (l:LW) {env:Env},Inv bs n M O env a w->Inv bs n M O (nilAll env l) a w
 | [],_,h=>h
 | q::l,_,h=>Inv.nilAll l (h.nilTo q)
theorem Inv.relab1 (h:Inv bs n M O env a w) (q:Nat×LR):∃ O',Inv bs n M O' (relab1 env q) a w:=by
 obtain⟨l,m⟩:=q;unfold AM.relab1
 cases m with
 | none=>exact⟨_,h.relab l none fun c e=>by cases e⟩
 | some c =>
  simp only;split
  .exact⟨O,h⟩
  rename_i hb;simp only[Bool.or_eq_false_iff]at hb;refine⟨_,h.relab l (some c) fun c' e=>?_⟩;cases e;exact⟨fun e=>by subst e;simp[Nat.beq_refl]at hb,hb.2⟩
theorem Inv.relabAll:∀ (l:Lk) {O:Gh} {env:Env},Inv bs n M O env a w->∃ O',Inv bs n M O' (ZO env l) a w
 | [],O,_,h=>⟨O,h⟩
 | q::l,_,_,h=>by
  obtain⟨O1,h1⟩:=h.relab1 q;exact Inv.relabAll l h1
def toExit:Ex->Exit
 | .normal=>.normal
 | .exit id=>.exit id
 | .ret=>.ret
def CodeOk (P:Program) (n:Nat) (c:Code) (e:Env) (ex:Ex) (e':Env):Prop :=
 ∀ (bs:Base) (M:Mem) (O:Gh) (a:Act) (w:World),Inv bs n M O e a w->∀ (Q:Exit->Act->World->Prop),(∀ a' w' M' O',Inv bs n M' O' e' a' w'->Q (toExit ex) a' w')->c.wp P Q a w
def LoopOk (P:Program) (n:Nat) (c:Code) (e:Env) (ex:Ex) (e':Env):Prop :=
 ∃ N,∀ (bs:Base) (M:Mem) (O:Gh) (a:Act) (w:World),Inv bs n M O e a w->∀ (Q:Exit->Act->World->Prop),(∀ a' w' M' O',Inv bs n M' O' e' a' w'->Q (toExit ex) a' w')->Code.rounds P c Q N a w
def JOk (P:Program):J->Prop
 | .code n c e ex e'=>CodeOk P n c e ex e'/\∀ c',c=.loop c'->LoopOk P n c' e ex e'
 | .ops n draw all rest e e'=>Chain P n draw all rest e e'
 | .call f args r=>CallOk P f args r
 | .callM f args hp r hp'=>CallMOk P f args hp r hp'/\∀ id x,look hp' id=some x->x.ent=true
 | .opsB n all rest e e'=>ChainB P n all rest e e'
 | .any n all R e e'=>AnyOk P n all R e e'
theorem qlI {M:Mem} {u:Value} (h:x.val=some v) (hR:R M x u):u=v:=by
 unfold AV.val at h;split at h <;> cases h <;> cases hR <;> rfl
theorem qmq {M:Mem} (h:x.val=some v):R M x v:=by
 unfold AV.val at h;split at h <;> cases h
 .exact .int _ _
 .exact .bool _
 exact .str _
theorem qlH {M:Mem} {B:Nat} {w:World} (h:x.val=some v):OwnR M B w x v:=by
 unfold AV.val at h;split at h <;> cases h <;> trivial
theorem qfN {M:Mem}:∀ {args:LJ} {vs:LT},optAll (args.map AV.val)=some vs->∀ us:LT,args.length=us.length->(∀ (j:Nat) c v,args[j]? = some c->us[j]? = some v->R M c v)->us=vs
 | [],vs,h,us,hl,_=>by
  cases h;exact List.eq_nil_of_length_eq_zero hl.symm
 | x::xs,vs,h,us,hl,hR=>by
  cases us with
  | nil=>cases hl
  | cons u us =>
   have hs:=jE h
   cases vs with
   | nil=>cases hs
   | cons v vs =>
    simp only[D4,List.cons.injEq]at hs;have h1:=qlI hs.1 (hR 0 x u rfl rfl)
    have h2:optAll (xs.map AV.val)=some vs:=by
     rw[hs.2];clear h hs hl hR
     induction vs with
     | nil=>rfl
     | cons y ys ih=>simp only[D4,optAll,ih]
    rw[h1,qfN h2 us (by simpa using hl) fun j c w hc hw=>hR (j+1) c w (by simpa using hc) (by simpa using hw)]
theorem qaj {M:Mem} {w w':World} (h:Cons M w) (hB:Below w.heap.size w w'):Cons M w':=by
 intro b o u hu;have h1:=h b o u hu;rw[Qd (hB.block _ (NJ h1))];exact h1
theorem LoopOk.code (h:LoopOk P n c e ex e'):CodeOk P n (.loop c) e ex e':=by
 obtain⟨N,hN⟩:=h;intro bs M O a w hi Q hQ;exact wp_loop_rounds N (hN bs M O a w hi Q hQ)
theorem noloop {P:Program} {n:Nat} (h:∀ c',c≠.loop c'):∀ c',c=.loop c'->LoopOk P n c' e ex e':=fun c' hc=>absurd hc (h c')
def resRun (tmps:LO) (r:ResultVar):Sem Value :=
 match r with
 | .tmp t=>pure (tmps.getD t undef)
 | .cell ad t=>do loadVar t (<- asAddr (tmps.getD ad undef))
theorem qbT (hc:cut P t cs off=some z):∀ s,z.refs s=false:=by
 intro s;unfold cut at hc;split at hc
 .cases hc
 split at hc
 .cases hc
 split at hc
 .cases hc;rfl
 split at hc
 .have:=(qaT hc).2
  cases z <;> first | rfl | cases this
 cases hc
theorem qbU (hc:cut P t cs off=some z) (f:Nat) (caps:LJ):z≠.clb f caps:=by
 rintro rfl
 unfold cut at hc;split at hc
 .cases hc
 split at hc
 .cases hc
 split at hc
 .cases hc
 split at hc
 .have:=(qaT hc).2;cases this
 cases hc
theorem qbV (hc:cut P t cs off=some z) (l:LJ):z≠.agr l:=by
 rintro rfl
 unfold cut at hc;split at hc
 .cases hc
 split at hc
 .cases hc
 split at hc
 .cases hc
 split at hc
 .have:=(qaT hc).2;cases this
 cases hc
theorem qdS (h:Inv bs n M O env a w) {r:ResultVar} (hx:aresult P env r=some x):∃ v,(resRun a.tmps r).run P w=.ok v w/\R M x v/\OwnV O M w x v:=by
 cases r with
 | tmp t =>
  simp only[aresult]at hx
  split at hx <;> try (cases hx;done)
  rename_i v hnb hnp hns hne hno hnt hho hmb hbx hsl har hcl hl;cases hx;have hs:=h.slots t _ hl;refine⟨_,rfl,?_⟩
  cases x with
  | tpr s e k off m rest=>exact absurd rfl (hnt s e k off m rest)
  | box cs=>exact absurd rfl (hnb cs)
  | pb s o=>exact absurd rfl (hnp s o)
  | sb s e k off m=>exact absurd rfl (hns s e k off m)
  | pe s k j o=>exact absurd rfl (hne s k j o)
  | obj e k xs=>exact absurd rfl (hno e k xs)
  | hob kd ks vs=>exact absurd rfl (hho kd ks vs)
  | mb kd s=>exact absurd rfl (hmb kd s)
  | bxg cs=>exact absurd rfl (hbx cs)
  | slf=>exact absurd rfl hsl
  | agr cs=>exact absurd rfl (har cs)
  | clb f caps=>exact absurd rfl (hcl f caps)
  | _=>exact hs
 | cell ad t =>
  simp only[aresult]at hx;split at hx
  .rename_i cs hl hlt;have hlt:ad<1000000:=A4 hlt;obtain⟨g,cur,el,h1,h2,_⟩:=h.slots ad _ hl;have h1:a.tmps.getD ad undef=.pointer (some ⟨g,0,none⟩):=h1.resolve_right (fun hge=>absurd hlt (Nat.not_lt_of_le hge));obtain⟨cur',el',h3,h4,h5,h6⟩:=UW h hl h2
   cases hc:cut P t cs 0 with
   | none=>rw[hc]at hx;cases hx
   | some z =>
    rw[hc]at hx;cases hx;obtain⟨v,hv1,hv2⟩:=JX (O:=O) (b:=g) (base:=0) hc (fun j=>cur'.getD j undef) (fun j c hc=>by rw[D0];exact (h6 j c hc).1) (fun j c hc=>(h6 j c hc).2.2);refine⟨v,?_,(hv2.r (qbT hc) (fun f caps e=>by subst e;exact (qbU hc f caps rfl).elim) fun cs e=>by subst e;exact (qbV hc cs rfl).elim).strip,YB z v⟩;unfold resRun;simp only[h1,asAddr,A8,A9,B1];exact hv1
  .
   rename_i s hl hlt;split at hx
   case h_2=>cases hx
   rename_i ks cs hl2;obtain⟨g,h1,h2⟩:=h.slots ad _ hl;obtain⟨cur',el',h3,h4,h5,h6⟩:=qeE h hl2 h2
   cases hc:cut P t cs 0 with
   | none=>rw[hc]at hx;cases hx
   | some z =>
    rw[hc]at hx;cases hx;obtain⟨v,hv1,hv2⟩:=JX (O:=O) (b:=g) (base:=0) hc (fun j=>cur'.getD j undef) (fun j c hc=>by rw[D0];exact (h6 j c hc).1) (fun j c hc=>(h6 j c hc).2.2);refine⟨v,?_,(hv2.r (qbT hc) (fun f caps e=>by subst e;exact (qbU hc f caps rfl).elim) fun cs e=>by subst e;exact (qbV hc cs rfl).elim).strip,YB z v⟩;unfold resRun;simp only[h1,asAddr,A8,A9,B1];exact hv1
  cases hx
theorem Zk (h:Inv bs n M O env a w):∀ {rs:List ResultVar} {l:LJ},optAll (rs.map (aresult P env))=some l ->
  ∃ vs:LT,(rs.mapM (resRun a.tmps)).run P w=.ok vs w/\l.length=vs.length/\∀ (j:Nat) c v,l[j]? = some c->vs[j]? = some v->R M c v/\OwnV O M w c v
 | [],l,hl=>by
  cases hl;exact⟨[],rfl,rfl,by simp⟩
 | r::rs,l,hl=>by
  simp only[D4]at hl
  cases hr:aresult P env r with
  | none=>rw[hr]at hl;cases hl
  | some x =>
   rw[hr]at hl;simp only[optAll]at hl;split at hl
   .rename_i l' hl';cases hl;obtain⟨v,h1,h2⟩:=qdS h hr;obtain⟨vs,h3,h4,h5⟩:=Zk h hl';refine⟨v::vs,?_,by simp[h4],fun j c u hc hu=>?_⟩
    .simp only[List.mapM_cons,A8,h1,h3,B1,A9]
    cases j with
    | zero=>simp at hc hu;subst hc;subst hu;exact h2
    | succ j=>exact h5 j c u (by simpa using hc) (by simpa using hu)
   cases hl
theorem DX (fn:Func) (tmps:LO):results fn tmps=(do let vs <- fn.results.mapM (resRun tmps);pure (if h:vs.size=1 then vs[0] else .tuple vs)):=by
 unfold results
 have:resRun tmps=(fun x=>match x with | ResultVar.tmp t=>(pure (tmps.getD t undef):Sem Value) | .cell ad t=>do loadVar t (<- asAddr (tmps.getD ad undef))):=by
  funext r
  cases r <;> rfl
 rw[this];rfl
theorem Ux (h:Inv bs n M O env a w) {fn:Func} {r:AV} (hr:jX P fn env=some r):∃ v,(results fn a.tmps).run P w=.ok v w/\R M r v/\OwnV O M w r v:=by
 unfold jX at hr
 have hmap:∀ (l:LJ),optAll (fn.results.toList.map (aresult P env))=some l->∃ vs:LT,(results fn a.tmps).run P w=.ok (if h:vs.toArray.size=1 then vs.toArray[0] else .tuple vs.toArray) w/\l.length=vs.length/\∀ (j:Nat) c v,l[j]? = some c->vs[j]? = some v->R M c v/\OwnV O M w c v:=by
  intro l hl;obtain⟨vs,h1,h2,h3⟩:=Zk h hl;refine⟨vs,?_,h2,h3⟩;rw[DX,D9];simp only[A8,Sem.run_map,h1,B1,A9]
 split at hr
 .rename_i rv hrs;obtain⟨vs,h1,h2,h3⟩:=hmap [r] (by rw[hrs];simp only[D4,List.map_nil,hr,optAll])
  cases vs with
  | nil=>simp at h2
  | cons v vs =>
   cases vs with
   | cons _ _=>simp at h2
   | nil=>exact⟨v,by simpa using h1,h3 0 r v rfl rfl⟩
 rename_i rs hne;split at hr
 .rename_i l hl;cases hr;obtain⟨vs,h1,h2,h3⟩:=hmap l hl
  have hlen:vs.length=fn.results.toList.length:=by
   have:=jE hl;have:=congrArg List.length this;simp at this;simp;omega
  have hn1:¬ vs.toArray.size=1:=by
   intro e
   have e':fn.results.toList.length=1:=by rw[<- hlen];simpa using e
   match hrs:fn.results.toList,e' with
   | [rv],_=>exact hne rv hrs
  rw[dif_neg hn1]at h1;refine⟨_,h1,R.tup (by simpa using h2) fun j c v hc hv=>?_,trivial⟩;rw[C0]at hc
  cases hz:l[j]? with
  | none=>rw[hz]at hc;cases hc
  | some z =>
   rw[hz]at hc;cases hc;exact (h3 j z v hz hv).1.strip
 cases hr
theorem Dl:∀ (l:LJ) (i t:Nat) (x:AV),look (argsEnv i l) t=some x->i<=t/\l[t - i]? = some x
 | [],i,t,x,h=>by simp[argsEnv,look]at h
 | y::l,i,t,x,h=>by
  simp only[argsEnv,look]at h;split at h
  .rename_i hb;have:=A0 hb;subst this;cases h;exact⟨C7 _,by simp⟩
  rename_i hb;obtain⟨h1,h2⟩:=Dl l (i+1) t x h;refine⟨by omega,?_⟩;rw[show t - i=(t - (i+1))+1 by omega]
  simpa using h2
theorem qbO {t:Nat} {x:AV}:∀ {l1 l2:Env},look (l1++l2) t=some x->look l1 t=some x\/look l2 t=some x
 | [],l2,h=>.inr h
 | (s,y)::r,l2,h=>by
  simp only[List.cons_append,look]at h ⊢;split at h
  .exact .inl h
  exact qbO h
theorem Dk {t:Nat} {x:AV}:∀ {env:Env},look (ents env) t=some x->look env t=some x/\x.ent=true/\1000000<=t
 | [],h=>by simp[ents,look]at h
 | (s,y)::r,h=>by
  simp only[ents]at h;split at h
  .rename_i hc;simp only[A2]at hc;simp only[look]at h ⊢;split at h
   .rename_i hb;have:=A0 hb;subst this;cases h;exact⟨rfl,hc.1,A4 hc.2⟩
   exact Dk h
  obtain⟨h1,h2⟩:=Qv h;obtain⟨k1,k2,k3⟩:=Dk h2;refine⟨?_,k2,k3⟩;simp only[look];split
  .rename_i hb;exact absurd (A0 hb).symm h1
  exact k1
theorem qcL (h:Inv bs n M O env a w) {fn:Func} {r:AV} (hr:Dx P fn env=some r):∃ v,(results fn a.tmps).run P w=.ok v w/\ValOk O M w r v:=by
 have plain:∀ r,jX P fn env=some r->∃ v,(results fn a.tmps).run P w=.ok v w/\ValOk O M w r v:=by
  intro r hr;obtain⟨v,h1,h2,h3⟩:=Ux h hr;refine⟨v,h1,?_⟩
  cases r with
  | box cs=>cases h2
  | obj e k xs=>cases h2
  | pb s o=>cases h2
  | sb s e k off m=>cases h2
  | pe s k j o=>cases h2
  | tpr s e k off m rest=>cases h2
  | hob kd ks vs=>cases h2
  | mb kd s=>cases h2
  | bxg cs=>cases h2
  | slf=>cases h2
  | agr cs=>cases h2
  | clb f caps=>cases h2
  | _=>exact⟨h2,h3⟩
 unfold Dx at hr;split at hr
 .rename_i t hrs;split at hr
  .rename_i id e k off m hl;cases hr;refine⟨_,?_,h.slots t _ hl⟩;rw[DX,D9,hrs];simp[resRun]
  exact plain r hr
 .rename_i t r1 rs hrs;split at hr
  .rename_i id e k off m l hl hl2;cases hr;obtain⟨vs,q1,q2,q3⟩:=Zk h hl2;refine⟨.tuple (a.tmps.getD t undef::vs).toArray,?_,a.tmps.getD t undef,vs,rfl,h.slots t _ hl,by simpa using q2,fun j c u hc hu=>?_⟩
   .rw[DX,D9,hrs]
    have hl1:(r1::rs).length=vs.length:=by
     have:=congrArg List.length (jE hl2);simp at this;simp;omega
    have hm:(List.mapM (resRun a.tmps) (.tmp t::r1::rs)).run P w=.ok (a.tmps.getD t undef::vs) w:=by
     rw[List.mapM_cons,A8];simp only[resRun,A9,B1,A8];rw[q1];simp only[B1,A9]
    simp only[A8,Sem.run_map,hm,B1,A9]
    have hne:¬ (a.tmps.getD t undef::vs).toArray.size=1:=by
     simp only[List.size_toArray,List.length_cons]at hl1 ⊢;omega
    rw[dif_neg hne]
   rw[C0]at hc
   cases hz:l[j]? with
   | none=>rw[hz]at hc;cases hc
   | some z =>
    rw[hz]at hc;cases hc;exact (q3 j z u hz hu).1.strip
  exact plain r hr
 exact plain r hr
theorem YH (hmix:P.follows .mixedOrders=true) {j:J} (h:Run P j):JOk P j:=by
 induction h with
 | skip =>
  refine⟨fun bs M O a w hi Q hQ=>wp_skip (hQ _ _ _ _ hi),noloop fun c' e=>by cases e⟩
 | ret=>exact⟨fun bs M O a w hi Q hQ=>wp_ret (hQ _ _ _ _ hi),noloop fun c' e=>by cases e⟩
 | exit=>exact⟨fun bs M O a w hi Q hQ=>wp_exit (hQ _ _ _ _ hi),noloop fun c' e=>by cases e⟩
 | seqN _ _ ih1 ih2 =>
  refine⟨fun bs M O a w hi Q hQ=>wp_seq (ih1.1 bs M O a w hi _ fun a' w' M' O' h'=>ih2.1 bs M' O' a' w' h' Q hQ),noloop fun c' e=>by cases e⟩
 | seqX _ ih =>
  exact⟨fun bs M O a w hi Q hQ=>wp_seq (ih.1 bs M O a w hi _ fun a' w' M' O' h'=>hQ a' w' M' O' h'),noloop fun c' e=>by cases e⟩
 | seqR _ ih =>
  exact⟨fun bs M O a w hi Q hQ=>wp_seq (ih.1 bs M O a w hi _ fun a' w' M' O' h'=>hQ a' w' M' O' h'),noloop fun c' e=>by cases e⟩
 | @cond n c x y env ex e1 b hc _ ih =>
  refine⟨fun bs M O a w hi Q hQ=>?_,noloop fun c' e=>by cases e⟩;have hv:=(qv hi hc).1.bool_inv;refine wp_cond hv ?_;have:=ih.1 bs M O a w hi Q hQ;cases b <;> exact this
 | @seqU n v c x y z env e0 ei e2 p _ hc _ _ _ ih0 ih1 ih2 ih3 =>
  refine⟨fun bs M O a w hi Q hQ=>?_,noloop fun c' e=>by cases e⟩;refine wp_seq (wp_seq (ih0.1 bs M O a w hi _ fun a0 w0 M1 O1 h0=>?_));have hv:=(qv h0 hc).1
  obtain⟨b,hb1,hb2⟩:∃ b,a0.eval c=.bool b/\(b=true->p=true):=by
   generalize a0.eval c=v at hv
   cases hv with
   | ub p b h=>exact⟨b,rfl,h⟩
  refine wp_cond hb1 ?_
  cases b with
  | true=>exact (ih1 (hb2 rfl)).1 bs M1 O1 a0 w0 h0 _ fun a' w' M' O' h'=>hQ a' w' M' O' h'
  | false=>exact ih2.1 bs M1 O1 a0 w0 h0 _ fun a' w' M' O' h'=>ih3.1 bs M' O' a' w' h' Q hQ
 | @mv n c env ex e1 q _ ih =>
  refine⟨fun bs M O a w hi Q hQ=>?_,fun c' e=>?_⟩
  .obtain⟨M',O',h'⟩:=hi.mvAll q;exact ih.1 bs M' O' a w h' Q hQ
  obtain⟨N,hN⟩:=ih.2 c' e;refine⟨N,fun bs M O a w hi Q hQ=>?_⟩;obtain⟨M',O',h'⟩:=hi.mvAll q;exact hN bs M' O' a w h' Q hQ
 | @block n id c env ex e1 _ ih =>
  refine⟨fun bs M O a w hi Q hQ=>wp_block (ih.1 bs M O a w hi _ fun a' w' M' O' h'=>?_),noloop fun c' e=>by cases e⟩;have:=hQ a' w' M' O' h'
  cases ex with
  | normal=>exact this
  | ret=>exact this
  | exit i =>
   simp only[toExit,Exit.inBlock];simp only[Ex.unblock]at this;split at this
   .rename_i hb;rw[if_pos (A0 hb)];exact this
   rename_i hb;rw[if_neg (fun e=>by subst e;simp at hb)];exact this
 | @loopN n c env e1 ex e2 _ _ ih1 ih2 =>
  have hl:LoopOk P n c env ex e2:=by
   obtain⟨N,hN⟩:=ih2.2 c rfl;refine⟨N+1,fun bs M O a w hi Q hQ=>?_⟩;rw[rounds_succ]
   exact ih1.1 bs M O a w hi _ fun a' w' M' O' h'=>hN bs M' O' a' w' h' Q hQ
  exact⟨hl.code,fun c' e=>by cases e;exact hl⟩
 | @loopX n c env id e1 _ ih =>
  have hl:LoopOk P n c env (.exit id) e1:=⟨1,fun bs M O a w hi Q hQ=>by
   rw[rounds_succ]
   exact ih.1 bs M O a w hi _ fun a' w' M' O' h'=>hQ a' w' M' O' h'⟩
  exact⟨hl.code,fun c' e=>by cases e;exact hl⟩
 | @loopR n c env e1 _ ih =>
  have hl:LoopOk P n c env .ret e1:=⟨1,fun bs M O a w hi Q hQ=>by
   rw[rounds_succ]
   exact ih.1 bs M O a w hi _ fun a' w' M' O' h'=>hQ a' w' M' O' h'⟩
  exact⟨hl.code,fun c' e=>by cases e;exact hl⟩
 | @region n id ops draw env e1 hd _ ih =>
  refine⟨fun bs M O a w hi Q hQ=>?_,noloop fun c' e=>by cases e⟩
  cases draw with
  | false=>exact qhH ih hi hQ
  | true =>
   obtain⟨h1,h2⟩:=hd rfl;exact qgi hmix h1 h2 ih hi hQ
 | @regionA n id ops env e1 e2 hb _ _ ih ih2 =>
  exact⟨fun bs M O a w hi Q hQ=>qft hmix hb ih hi fun a' w' M' O' h'=>Dv ih2 h' hQ,noloop fun c' e=>by cases e⟩
 | anyNil=>exact qko
 | @anyStep n all R env e1 F hne _ _ ih1 ih=>exact qiv F hne (fun k o hk ho hr=>qeX (ih1 k o hk ho hr)) ih
 | nilB=>exact .nil
 | opB hw he _ ih=>exact .step (qkk hw he) ih
 | @weak n c env ex e1 keep frz nl rl _ ih =>
  have hinv:∀ {bs:Base} {M:Mem} {O:Gh} {a:Act} {w:World},Inv bs n M O env a w->∃ M' O',Inv bs n M' O' (weakE keep frz nl rl env) a w:=by
   intro bs M O a w hi;obtain⟨M',O',h'⟩:=hi.freezeAll frz;obtain⟨O2,h2⟩:=Inv.relabAll rl ((Inv.nilAll nl h').drop keep);exact⟨M',O2,h2⟩
  refine⟨fun bs M O a w hi Q hQ=>?_,fun c' e=>?_⟩
  .obtain⟨M',O',h'⟩:=hinv hi;exact ih.1 bs M' O' a w h' Q hQ
  obtain⟨N,hN⟩:=ih.2 c' e;refine⟨N,fun bs M O a w hi Q hQ=>?_⟩;obtain⟨M',O',h'⟩:=hinv hi;exact hN bs M' O' a w h' Q hQ
 | nil=>exact .nil
 | drop keep _ ih=>exact .drop _ rfl (fun bs M O a w hi=>⟨M,O,hi.drop keep⟩) ih
 | mvOp q _ ih=>exact .drop _ rfl (fun bs M O a w hi=>hi.mvAll q) ih
 | @not n draw all o rest env e1 e2 hw he _ ih =>
  refine .step ⟨qkw hw he,fun _=>?_⟩ ih
  cases h1:isEff o.op with
  | false=>exact .inr (.inr ⟨.inl rfl,qer hw he⟩)
  | true =>
   cases h2:isStore o.op with
   | false=>exact .inl (qlf hw he h1 h2)
   | true=>exact .inr (.inr ⟨.inr rfl,qer hw he⟩)
 | @op n draw all o rest env e1 e2 hw he _ ih =>
  refine .step ?_ ih
  cases draw with
  | false=>exact⟨qat hw he,fun e=>by cases e⟩
  | true =>
   simp only[astepDA]at he;split at he
   case h_2=>cases he
   rename_i hlf;simp only[astepD]at he;split at he
   .rename_i heff;refine⟨qat hw he,fun _=>?_⟩
    cases h2:isStore o.op with
    | false=>exact .inl (qlX hw hlf he heff h2)
    | true=>exact .inr (.inl (qjs hw h2 he))
   rename_i heff;split at he
   .rename_i x hx;split at he
    .rename_i hnb;exact⟨qjq hw hx he,fun _=>.inr (.inr ⟨.inl heff,qkO hw hx he (by simpa[notBox] using hnb)⟩)⟩
    cases he
   cases he
 | @rowOp n all o rest env e1 e2 hw he _ ih=>exact .step ⟨qkv hw he,fun e=>by cases e⟩ ih
 | @agrOp n all o rest env e1 e2 hw he _ ih=>exact .step ⟨qky hw he,fun e=>by cases e⟩ ih
 | @callOp n draw all o rest env f args r e1 e2 hw hc _ he _ ihc ih =>
  refine .step ⟨qjr hw hc ihc he,fun hd=>?_⟩ ih
  cases hef:isEff o.op with
  | true =>
   have hc0:=hc;unfold acallee at hc;split at hc
   case h_2=>cases hc
   rename_i fo as ats ho;subst hd;refine .inl (qeF ⟨fo,as,ats,ho⟩ hef (by rw[ho];rfl) fun t _ hdt hn=>?_);unfold callPut at he;simp only at he;split at he
   .exact JM he hdt hn
   cases he
  | false =>
   subst hd;exact .inr (.inr ⟨.inl rfl,qhR hw hc ihc he⟩)
 | @callOpR n draw all o rest env f args r e1 e2 hw hc hp _ he _ ihc ih =>
  refine .step ⟨qhx hw hc hp ihc he,fun hd=>?_⟩ ih
  cases hef:isEff o.op with
  | true =>
   have hc0:=hc;unfold Xr at hc;split at hc
   case h_2=>cases hc
   rename_i fo as ats ho;exact .inl (qeF ⟨fo,as,ats,ho⟩ hef (by rw[ho];rfl) fun t _ hdt hn=>JM he hdt hn)
  | false=>exact .inr (.inr ⟨.inl rfl,qgn hw hc hp ihc he⟩)
 | @callOpM n all o rest env f args hp r hp' e1 e2 ρ nw hw hc _ he _ ihc ih =>
  exact .step ⟨qhy hw hc ihc.1 ihc.2 he,fun hd=>by cases hd⟩ ih
 | @callM f args hp r fn c ex e1 hf hb hlen _ hex hres ih =>
  simp only[A2]at hlen;obtain⟨⟨hlen,hsm⟩,hhp⟩:=hlen;have hle:=A4 hlen;have hsm:=A4 hsm;refine⟨?_,fun id x hx=>?_⟩
  .intro M O w vs hG hC hl hO hOi hR hH;refine calls_of_wp hf hb ?_
   have hsz:vs.toArray.size=vs.length:=by simp
   have hinv:Inv ⟨fun k=>k<w.heap.size/\∀ c,O.o true c≠some k,M,w,O,hG⟩ fn.ntmps M O (argsEnv 0 (args.map AV.strip)++hp) { tmps:=vs.toArray++A6 (fn.ntmps - vs.toArray.size) undef,defers:=[] } w:=by
    have hsize:(vs.toArray++A6 (fn.ntmps - vs.toArray.size) undef).size=fn.ntmps:=by simp;omega
    refine⟨hsize,rfl,BelowD.refl _ _,fun k hk=>hk.1,hC,Sub.refl M,fun _ _ _=>rfl,fun i c g e=>?_,fun i i' c c' g e e'=>?_,⟨hsm,fun c _ _=>Gh.Eq1.refl O c⟩,fun t x hx=>?_⟩
    .obtain⟨rfl,h2⟩:=hO i c g e;exact⟨fun hD=>hD.2 c e,h2⟩
    .obtain⟨rfl,h2⟩:=hO i c g e;obtain⟨rfl,h3⟩:=hO i' c' g e';exact⟨rfl,hOi c c' g e e'⟩
    rcases qbO hx with hx | hx
    .obtain⟨_,h2⟩:=Dl _ 0 t x hx;simp only[Nat.sub_zero,C0]at h2
     cases hz:args[t]? with
     | none=>rw[hz]at h2;cases h2
     | some z =>
      rw[hz]at h2;cases h2
      have htl:t<vs.length:=by rw[<- hl];exact (List.getElem?_eq_some_iff.1 hz).1
      have hv:(vs.toArray++A6 (fn.ntmps - vs.toArray.size) undef).getD t undef=vs[t]:=by
       rw[D5,F7 (by simpa using htl)];simp[htl]
      rw[hv];exact Yz (hR t z _ hz (A3 htl))
    have hge:2000000<=t:=by
     obtain⟨q,hq,h1,_⟩:=Hl hx;unfold hpOk at hhp;rw[A7]at hhp;have:=hhp q hq;simp only[A2]at this;rw[<- h1];exact A4 this.2
    have hv:(vs.toArray++A6 (fn.ntmps - vs.toArray.size) undef).getD t undef=undef:=by
     rw[D5,F8 (by rw[hsize];omega)];rfl
    rw[hv];exact hH t x hx
   refine ih.1 _ _ _ _ _ hinv _ fun a' w' M' O' h'=>?_
   obtain⟨v,hv1,hv2⟩:=qcL h' hres
   have fin:∃ v1,(results fn a'.tmps).run P w'=.ok v1 w'/\∃ v2 M2 O2,Ending.returned v1=.returned v2/\BelowD (fun k=>k<w.heap.size/\∀ c,O.o true c≠some k) w w'/\Sub M M2/\Cons M2 w'/\(∀ b o,b<w.heap.size->(∀ c,O.o true c≠some b)->M2 b o=M b o) /\
     (∀ i c g,O2 i c=some g->g<w'.heap.size/\(w.heap.size<=g\/∃ c',O.o true c'=some g))/\(∀ i i' c c' g,O2 i c=some g->O2 i' c'=some g->i=i'/\c=c')/\(∀ c,2000000<=c->c<3000000->Gh.Eq1 O O2 c) /\
     ValOk O2 M2 w' r v2/\∀ id x,look (ents e1) id=some x->Sat O2 M2 w' id x undef:=by
    refine⟨v,hv1,v,M',O',rfl,h'.below,h'.ext,h'.cons,fun b o h1 h2=>h'.old b o ⟨h1,h2⟩,fun i c g hg=>?_,h'.inj,fun c h1 h2=>h'.fix.2 c h1 h2,hv2,fun id x hx=>?_⟩
    .obtain⟨k1,k2⟩:=h'.own i c g hg;refine⟨k2,?_⟩
     rcases Nat.lt_or_ge g w.heap.size with k3 | k3
     .refine .inr (Classical.byContradiction fun hno=>k1 ⟨k3,fun c' hc'=>hno ⟨c',hc'⟩⟩)
     exact .inl k3
    obtain⟨k1,k2,k3⟩:=Dk hx;have hs:=h'.slots id x k1
    have hv:a'.tmps.getD id undef=undef:=by
     rw[D5,F8 (by rw[h'.size];omega)];rfl
    rw[hv]at hs;exact hs
   cases ex with
   | normal=>exact⟨h'.defers,fin⟩
   | ret=>exact⟨h'.defers,fin⟩
   | exit id=>exact hex.elim
  exact (Dk hx).2.1
 | ext0 h=>exact h
 | extM h h'=>exact⟨h,h'⟩
 | @ext f args r vs rv hvs hrv hk =>
  intro M w us hG hC hl hR;obtain rfl:=qfN hvs us hl hR;refine (hk w (hG.world hC)).mono ?_
  rintro ed w' ⟨rfl,hB⟩
  exact⟨rv,M,rfl,hB,Sub.refl M,qaj hC hB,fun _ _ _=>rfl,qmq hrv,qlH hrv⟩
 | @call f args r fn c ex e1 hf hb hlen _ hex hres ih =>
  intro M w vs hG hC hl hR;refine calls_of_wp hf hb ?_
  have hsz:vs.toArray.size=vs.length:=by simp
  simp only[A2]at hlen;have hle:=A4 hlen.1;have hsm:=A4 hlen.2
  have hinv:Inv ⟨fun k=>k<w.heap.size,M,w,⟨fun _ _=>none,fun _=>0,fun _=>0⟩,hG⟩ fn.ntmps M ⟨fun _ _=>none,fun _=>0,fun _=>0⟩ (argsEnv 0 (args.map AV.strip)) { tmps:=vs.toArray++A6 (fn.ntmps - vs.toArray.size) undef,defers:=[] } w:=by
   refine⟨by simp;omega,rfl,BelowD.refl _ _,fun k hk=>hk,hC,Sub.refl M,fun _ _ _=>rfl,fun i c g e=>by (cases e),fun i i' c c' g e=>by (cases e),⟨hsm,fun c _ _=>Gh.Eq1.refl _ c⟩,fun t x hx=>?_⟩;obtain⟨_,h2⟩:=Dl _ 0 t x hx;simp only[Nat.sub_zero,C0]at h2
   cases hz:args[t]? with
   | none=>rw[hz]at h2;cases h2
   | some z =>
    rw[hz]at h2;cases h2
    have htl:t<vs.length:=by rw[<- hl];exact (List.getElem?_eq_some_iff.1 hz).1
    have hv:(vs.toArray++A6 (fn.ntmps - vs.toArray.size) undef).getD t undef=vs[t]:=by
     rw[D5,F7 (by simpa using htl)];simp[htl]
    rw[hv];exact Yz (jO (hR t z _ hz (A3 htl)).strip (Xs z))
  refine ih.1 _ _ _ _ _ hinv _ fun a' w' M' O' h'=>?_
  have hbel:Below w.heap.size w w':=⟨h'.below.os,h'.below.tape,h'.below.output,h'.below.size,fun k hk=>h'.below.block k hk⟩
  have hnew:∀ i c g,O' i c=some g->w.heap.size<=g:=fun i c g hg=>Nat.le_of_not_lt (h'.own i c g hg).1
  obtain⟨v,hv1,hv2,hv3⟩:=Ux h' hres;have hpost:∃ v M',Ending.returned v=.returned v/\True:=⟨v,M',rfl,trivial⟩
  have hown:OwnR M' w.heap.size w' r v:=by
   unfold OwnR;unfold OwnV at hv3;split at hv3
   .rename_i e k c xs
    rcases hv3 with h1 | ⟨g,off,cap,cur,q1,q2,q3,q4,q5,q6,q7⟩
    .exact .inl h1
    exact .inr ⟨g,off,cap,cur,q1,hnew _ _ _ q2,q3,q4,q5,q6,q7⟩
   rename_i hno;split
   .rename_i e k c xs;exact absurd rfl (hno e k c xs)
   trivial
  have fin:∃ v1,(results fn a'.tmps).run P w'=.ok v1 w'/\∃ v2 M2,Ending.returned v1=.returned v2/\Below w.heap.size w w'/\Sub M M2/\Cons M2 w'/\(∀ b o,b<w.heap.size->M2 b o=M b o)/\R M2 r v2/\OwnR M2 w.heap.size w' r v2 :=
   ⟨v,hv1,v,M',rfl,hbel,h'.ext,h'.cons,fun b o hb=>h'.old b o hb,hv2,hown⟩
  cases ex with
  | normal=>exact⟨h'.defers,fin⟩
  | ret=>exact⟨h'.defers,fin⟩
  | exit id=>exact hex.elim
end
end Go.AM
namespace Go.AM
open Go.RowKit
variable {t:TypeId} {α β:Type} {N e k n off off' size:Nat} {M:Mem} {v:Value} {cs:LT} {w:World} {a:Addr} {fd:Field} {fs:List Field}
def memOf (w:World):Mem:=fun b o=>mc w b o
theorem qic (w:World):Cons (memOf w) w:=fun b o u h=>h
def CellsR (M:Mem) (xs:LJ) (cs:LT):Prop:=xs.length=cs.length/\∀ (j:Nat) c v,xs[j]? = some c->cs[j]? = some v->R M c v
def Reads (P:Program) (t:TypeId) {α:Type} (f:α->AV) (ok:α->Prop):Prop :=
 ∀ (H:Type) (enc:TypeId×Value->H) (w:World) (fuel:Nat) (cs:LT) (x:DataW H×List MemPlace),
  DataW.trod enc P w 0 (fun _=>true) true fuel t cs=some x->∃ a,ok a/\CellsR (memOf w) (f a).cells cs
def ReadsN (N:Nat) (P:Program) (t:TypeId) {α:Type} (f:α->AV) (ok:α->Prop):Prop :=
 ∀ (H:Type) (enc:TypeId×Value->H) (w:World) (fuel:Nat) (cs:LT) (x:DataW H×List MemPlace),fuel<=N ->
  DataW.trod enc P w 0 (fun _=>true) true fuel t cs=some x->∃ a,ok a/\CellsR (memOf w) (f a).cells cs
section
variable {P:Program}
theorem Reads.toN {f:α->AV} {ok:α->Prop} (h:Reads P t f ok) (N:Nat):ReadsN N P t f ok:=fun H enc w fuel cs x _ k=>h H enc w fuel cs x k
theorem ReadsN.all {f:α->AV} {ok:α->Prop} (h:∀ N,ReadsN N P t f ok):Reads P t f ok:=fun H enc w fuel cs x k=>h fuel H enc w fuel cs x (C7 _) k
theorem ReadsN.mono {f:α->AV} {ok:α->Prop} {M:Nat} (h:ReadsN M P t f ok) (hl:N<=M):ReadsN N P t f ok:=fun H enc w fuel cs x k=>h H enc w fuel cs x (Nat.le_trans k hl)
theorem CellsR.one {c:AV} (h:R M c v):CellsR M [c] [v]:=by
 refine⟨rfl,fun j c' v' hc hv=>?_⟩
 cases j with
 | zero=>simp at hc hv;subst hc;subst hv;exact h
 | succ j=>simp at hc
theorem CellsR.append {xs ys:LJ} {ds:LT} (h:CellsR M xs cs) (k:CellsR M ys ds):CellsR M (xs++ys) (cs++ds):=by
 refine⟨by simp[h.1,k.1],fun j c v hc hv=>?_⟩;by_cases hj:j<xs.length
 .rw[E0 hj]at hc;rw[E0 (by rw[<- h.1];exact hj)]at hv;exact h.2 j c v hc hv
 rw[E7 (by omega)]at hc;rw[E7 (by rw[<- h.1];omega),<- h.1]at hv;exact k.2 _ c v hc hv
theorem qjD {k:IntKind} (ht:P.underlying t=some (.int k)):Reads P t (AV.int k) (fun n=>(Lit.int k n).wf=true):=by
 intro H enc w fuel cs x h
 cases fuel with
 | zero=>cases h
 | succ fuel =>
  unfold DataW.trod at h;rw[ht]at h
  split at h <;> try (first | (rename_i e _;cases e;done) | cases h)
  all_goals try (rename_i e;cases e;done)
  rename_i k1 k2 n e;cases e;split at h
  .rename_i hk;obtain⟨rfl,hwf⟩:=hk;exact⟨n,hwf,.one (.int _ _)⟩
  cases h
theorem qhI (ht:P.underlying t=some .bool):Reads P t AV.bool (fun _=>True):=by
 intro H enc w fuel cs x h
 cases fuel with
 | zero=>cases h
 | succ fuel =>
  unfold DataW.trod at h;rw[ht]at h
  split at h <;> try (first | (rename_i e _;cases e;done) | cases h)
  all_goals try (rename_i e;cases e;done)
  exact⟨_,trivial,.one (.bool _)⟩
theorem qbW {α:Type} {Pr:Nat->α->Prop}:∀ (n:Nat),(∀ i,i<n->∃ x,Pr i x)->∃ l:List α,l.length=n/\∀ i x,l[i]? = some x->Pr i x
 | 0,_=>⟨[],rfl,fun i x h=>by simp at h⟩
 | n+1,h=>by
  obtain⟨l,h1,h2⟩:=qbW n (fun i hi=>h i oM);obtain⟨x,hx⟩:=h n oM;refine⟨l++[x],by simp[h1],fun i y hy=>?_⟩;by_cases hi:i<l.length
  .rw[E0 hi]at hy;exact h2 i y hy
  rw[E7 (by omega)]at hy
  have:i - l.length=0:=by
   cases hh:i - l.length with
   | zero=>rfl
   | succ m=>rw[hh]at hy;simp at hy
  rw[this]at hy;simp at hy;subst hy
  have:i=n:=by omega
  subst this;exact hx
theorem qdw {base:Nat} (h:w.cells? base a n=some cs):cs.length=n/\∀ i,i<n->w.cell? (a.add i)=cs[i]?:=by
 unfold World.cells? at h;split at h
 .refine⟨by simpa using mapM_some_length h,fun i hi=>?_⟩;exact mapM_some_get h i i (by simp[hi])
 cases h
theorem qjt (h:w.cell? a=some v):a.spot=none:=by
 unfold World.cell? at h;split at h
 .split at h
  .cases h
  rename_i hs
  simpa using hs
 cases h
theorem qlB (h:a.spot=none) (n:Nat):a.add n=⟨a.block,a.off+n,none⟩:=by
 obtain⟨b,o,s⟩:=a;simp only at h;subst h;unfold Addr.add;split
 .rename_i e;subst e;rfl
 rfl
theorem qaz {f:α->AV} {ok:α->Prop} {t:Nat} (ht:P.underlying t=some (.slice e)) (hk:P.cellsOf e=k) (hk0:0<k) (he:ReadsN N P e f ok) (hlen:∀ x,(f x).cells.length=k) (hone:∀ x,(f x).cells.all AV.one=true) :
  ReadsN (N+1) P t (encL e k f) (fun l=>l.length<=maxLen/\∀ x,x∈l->ok x):=by
 intro H enc w fuel cs x hN h
 cases fuel with
 | zero=>cases h
 | succ fuel =>
  unfold DataW.trod at h;rw[ht]at h
  split at h <;> try (first | (rename_i e _;cases e;done) | cases h)
  all_goals try (rename_i e;cases e;done)
  .exact⟨[],⟨Nat.zero_le _,fun x hx=>by cases hx⟩,.one (.lstn _ _ _)⟩
  rename_i t1 e1 a len cap e2;cases e2;simp only at h;split at h
  .rename_i hc;obtain⟨hb,hlc,hcm⟩:=hc;rw[F9]at h;obtain⟨elems,h1,h2⟩:=h
   have hel:∀ i,i<len->∃ y:α,ok y/\∃ cs,w.cells? 0 (a.add (i * k)) k=some cs/\CellsR (memOf w) (f y).cells cs:=by
    intro i hi;have hlenE:=mapM_some_length h1;simp at hlenE;have:=mapM_some_get h1 i i (by simp[hi]);have hsome:elems[i]? = some (elems[i]'(by omega)):=A3 _;rw[hsome]at this;rw[hk,F9]at this;obtain⟨cs,hcs,htr⟩:=this;obtain⟨y,hy,hr⟩:=he H enc w fuel cs _ (G0 hN) htr;exact⟨y,hy,cs,hcs,hr⟩
   obtain⟨l,hll,hl⟩:=qbW (Pr:=fun i y=>ok y/\∃ cs,w.cells? 0 (a.add (i * k)) k=some cs/\CellsR (memOf w) (f y).cells cs) len hel;refine⟨l,⟨by omega,fun x hx=>?_⟩,?_⟩
   .obtain⟨i,hi⟩:=List.mem_iff_getElem?.1 hx;exact (hl i x hi).1
   refine .one ?_
   cases len with
   | zero =>
    have:l=[]:=List.length_eq_zero_iff.1 hll;subst this;exact .lste _ _ _ _ _
   | succ len =>
    have hspot:a.spot=none:=by
     have hx:l[0]? = some (l[0]'(by omega)):=A3 _;obtain⟨_,cs,hcs,_⟩:=hl 0 _ hx;obtain⟨c1,c2⟩:=qdw hcs;have:=c2 0 hk0;have hc0:cs[0]? = some (cs[0]'(by omega)):=A3 _;rw[hc0]at this;simp[Addr.add]at this;exact qjt this
    obtain⟨b,off,spot⟩:=a;simp only at hspot;subst hspot
    have hlenk:∀ x,x∈l.map f->x.cells.length=k:=by
     intro x hx;obtain⟨y,_,rfl⟩:=List.mem_map.1 hx;exact hlen y
    have hcell:∀ (j:Nat) c,(flat (l.map f))[j]? = some c->∃ u,w.cell? ⟨b,off+j,none⟩=some u/\R (memOf w) c u:=by
     intro j c hc
     have hjl:j<l.length * k:=by
      have:=(List.getElem?_eq_some_iff.1 hc).1;rw[jh hlenk]at this
      simpa using this
     have hik:j / k<l.length:=Nat.div_lt_of_lt_mul (by rw[Nat.mul_comm];exact hjl);have hy:l[j / k]? = some (l[j / k]'hik):=A3 _
     have hfy:(l.map f)[j / k]? = some (f (l[j / k]'hik)):=by rw[C0,hy];rfl
     have hmod:j % k<k:=Nat.mod_lt _ hk0;have hfl:=Yu hlenk hfy (j % k) hmod
     have hdm:j / k * k+j % k=j:=by rw[Nat.mul_comm];exact Nat.div_add_mod j k
     rw[hdm,hc]at hfl;obtain⟨_,cs,hcs,hcr⟩:=hl _ _ hy;obtain⟨c1,c2⟩:=qdw hcs;have hcell:=c2 (j % k) hmod;have hv:cs[j % k]? = some (cs[j % k]'(by omega)):=A3 _;rw[hv,qlB (a:=⟨b,off,none⟩) rfl,qlB rfl]at hcell;refine⟨_,?_,hcr.2 _ _ _ hfl.symm hv⟩
     simpa[Nat.add_assoc,hdm] using hcell
    rw[<- hll];have hmap:(l.map f).length=l.length:=List.length_map _;unfold encL;rw[<- hmap];refine .lst (fun j=>(w.cell? ⟨b,off+j,none⟩).getD undef) (by rw[hmap];omega) hlenk ?_ ?_ ?_
    .intro x hx;obtain⟨y,_,rfl⟩:=List.mem_map.1 hx;exact hone y
    .intro j c hc;obtain⟨u,hu,hr⟩:=hcell j c hc;rw[hu];refine qac hu (Ye (hr.one (UQ (fun x hx=>?_) hc)));obtain⟨y,_,rfl⟩:=List.mem_map.1 hx;exact hone y
    intro j c hc;obtain⟨u,hu,hr⟩:=hcell j c hc;rw[hu];exact hr
  cases h
theorem Ue {f:α->AV} {ok:α->Prop} {t:Nat} (ht:P.underlying t=some (.slice e)) (hk:P.cellsOf e=k) (hk0:0<k) (he:Reads P e f ok) (hlen:∀ x,(f x).cells.length=k) (hone:∀ x,(f x).cells.all AV.one=true) :
  Reads P t (encL e k f) (fun l=>l.length<=maxLen/\∀ x,x∈l->ok x) :=
 ReadsN.all fun N=>(qaz ht hk hk0 (he.toN N) hlen hone).mono (Nat.le_succ N)
def HO (N:Nat) (P:Program):List Field->Nat->Nat->{α:Type}->(α->LJ)->(α->Prop)->Prop:=fun fs off size α f ok =>
 ∀ (H:Type) (enc:TypeId×Value->H) (w:World) (fuel:Nat) (cs:LT),fuel<=N->cs.length=size ->
  (∀ g,g∈fs->∃ x,DataW.trod enc P w 0 (fun _=>true) true fuel g.type ((cs.drop g.offset).take (P.cellsOf g.type))=some x) ->
  ∃ a,ok a/\CellsR (memOf w) (f a) (cs.drop off)
abbrev FieldsR (P:Program) (fs:List Field) (off size:Nat) {α:Type} (f:α->LJ) (ok:α->Prop):Prop:=∀ N,HO N P fs off size f ok
theorem qaR (h:size=off):HO N P [] off size (fun _:Unit=>[]) (fun _=>True):=by
 intro H enc w fuel cs _ hl _;refine⟨(),trivial,?_⟩;rw[List.drop_of_length_le (by omega)];exact⟨rfl,fun j c v hc=>by simp at hc⟩
theorem ZJ {f:α->AV} {ok:α->Prop} {g:β->LJ} {ok':β->Prop} (ho:fd.offset=off) (hs:P.cellsOf fd.type=n) (hn:off+n=off') (he:ReadsN N P fd.type f ok) (hr:HO N P fs off' size g ok') :
  HO N P (fd::fs) off size (fun x:α×β=>(f x.1).cells++g x.2) (fun x=>ok x.1/\ok' x.2):=by
 intro H enc w fuel cs hN hl h;obtain⟨x,hx⟩:=h fd (by simp);obtain⟨a,h1,h2⟩:=he H enc w fuel _ _ hN hx;obtain⟨b,h3,h4⟩:=hr H enc w fuel cs hN hl (fun g hg=>h g (by simp[hg]));refine⟨(a,b),⟨h1,h3⟩,?_⟩;rw[ho,hs]at h2;have:=h2.append h4;rw[<- hn]at this
 have e:(cs.drop off).take n++cs.drop (off+n)=cs.drop off:=by
  rw[<- List.drop_drop,List.take_append_drop]
 rw[e]at this;exact this
theorem Uk (h:size=off):FieldsR P [] off size (fun _:Unit=>[]) (fun _=>True):=fun N=>qaR h
theorem QL {f:α->AV} {ok:α->Prop} {g:β->LJ} {ok':β->Prop} (ho:fd.offset=off) (hs:P.cellsOf fd.type=n) (hn:off+n=off') (he:Reads P fd.type f ok) (hr:FieldsR P fs off' size g ok') :
  FieldsR P (fd::fs) off size (fun x:α×β=>(f x.1).cells++g x.2) (fun x=>ok x.1/\ok' x.2):=fun N=>ZJ ho hs hn (he.toN N) (hr N)
theorem DH {t:Nat} {fs:Array Field} {g:β->LJ} {ok':β->Prop} (mk:β->α) {f:α->AV} {ok:α->Prop} (ht:P.underlying t=some (.struct fs)) (hs:P.cellsOf t=size) (hf:HO N P fs.toList 0 size g ok') (hcells:∀ b,(f (mk b)).cells=g b) (hok:∀ b,ok' b->ok (mk b)):ReadsN (N+1) P t f ok:=by
 intro H enc w fuel cs x hN h
 cases fuel with
 | zero=>cases h
 | succ fuel =>
  unfold DataW.trod at h;rw[ht]at h
  have key:cs.length=size/\∃ xs,fs.toList.mapM (fun fd=>DataW.trod enc P w 0 (fun _=>true) true fuel fd.type ((cs.drop fd.offset).take (P.cellsOf fd.type)))=some xs:=by
   simp only at h;split at h
   .rename_i hl;rw[hs]at hl;rw[D2]at h;obtain⟨xs,h1,_⟩:=h;exact⟨hl,xs,h1⟩
   cases h
  obtain⟨hl,xs,hm⟩:=key
  obtain⟨b,h1,h2⟩:=hf H enc w fuel cs (G0 hN) hl (fun fd hfd=>by
   obtain⟨i,hi⟩:=List.mem_iff_getElem?.1 hfd;have h3:=mapM_some_get hm i fd hi;have hlen:=mapM_some_length hm
   have hix:i<xs.length:=by rw[hlen];exact (List.getElem?_eq_some_iff.1 hi).1
   exact⟨xs[i],h3.trans (A3 hix)⟩)
  refine⟨mk b,hok b h1,?_⟩;rw[hcells]
  simpa using h2
theorem Vi {t:Nat} {fs:Array Field} {g:β->LJ} {ok':β->Prop} (mk:β->α) {f:α->AV} {ok:α->Prop} (ht:P.underlying t=some (.struct fs)) (hs:P.cellsOf t=size) (hf:FieldsR P fs.toList 0 size g ok') (hcells:∀ b,(f (mk b)).cells=g b) (hok:∀ b,ok' b->ok (mk b)):Reads P t f ok :=
 ReadsN.all fun N=>(DH mk ht hs (hf N) hcells hok).mono (Nat.le_succ N)
theorem Reads.arg {f:α->AV} {ok:α->Prop} (h:Reads P t f ok) {H:Type} {enc:TypeId×Value->H} {d:DataW H} {ps:List MemPlace} (ht:DataW.Trod enc P w 0 (fun _=>true) true t v d ps) (hv:(f · |>.cells)=(fun x=>[f x]):=by rfl) (hone:v.cells.toList=[v]):∃ a,ok a/\R (memOf w) (f a) v:=by
 obtain⟨fuel,hf⟩:=ht;obtain⟨a,h1,h2⟩:=h H enc w fuel _ _ hf;refine⟨a,h1,?_⟩;have e:(f a).cells=[f a]:=congrFun hv a
 have h3:CellsR (memOf w) [f a] [v]:=by
  rw[<- e];rw[hone]at h2;exact h2
 exact h3.2 0 _ _ rfl rfl
end
end Go.AM
namespace Go.AM
open Go.RowKit Go.ChangeShapes
variable {v:Value} {P:Program} {base:Nat} {t:TypeId} {H:Type}
theorem Dz {H:Type} {enc:TypeId×Value->H} {P:Program} (hl:laidOutB P=true) {W W':World} {sp:Nat->Bool}:∀ {ts:List TypeId} {vs:LT} {ds:List (DataW H)} {ps:List MemPlace},
  (∀ t,t∈ts->P.readableRec t=true/\t<P.types.size)->DataW.TrodAll enc P W 0 (fun _=>true) true ts vs ds ps->(∀ p,p∈ps->W.sameAt W' p)->(∀ p,p∈ps->sp p.block=true)->DataW.TrodAll enc P W' 0 sp true ts vs ds ps
 | [],vs,ds,ps,_,h,_,_=>by
  obtain⟨rfl,rfl,rfl⟩:=trodAll_nil h;exact trodAll_mk0
 | t::ts,vs,ds,ps,ht,h,hs,hp=>by
  obtain⟨v,vs',d,ds',p,q,rfl,rfl,rfl,h1,h2⟩:=trodAll_cons h;obtain⟨r1,r2⟩:=ht t (by simp);exact trodAll_cons_mk (WideElems.Trod_stays hl r1 r2 h1 (fun x hx=>hs x (by simp[hx])) (fun x hx=>hp x (by simp[hx])))
   (Dz hl (fun t h=>ht t (by simp[h])) h2 (fun x hx=>hs x (by simp[hx])) (fun x hx=>hp x (by simp[hx])))
def ArgsR (M:Mem) (avs:LJ) (vs:LT):Prop:=avs.length=vs.length/\∀ (j:Nat) c v,avs[j]? = some c->vs[j]? = some v->R M c v
theorem ArgsR.nil {M:Mem}:ArgsR M [] []:=⟨rfl,fun j c v h=>by simp at h⟩
theorem ArgsR.cons {M:Mem} {x:AV} {xs:LJ} {vs:LT} (h:R M x v) (hs:ArgsR M xs vs):ArgsR M (x::xs) (v::vs):=by
 refine⟨by simp[hs.1],fun j c u hc hu=>?_⟩
 cases j with
 | zero=>simp at hc hu;subst hc;subst hu;exact h
 | succ j=>exact hs.2 j c u (by simpa using hc) (by simpa using hu)
def qdx (P:Program) (t:TypeId):Bool:=match P.underlying t with
 | some (.int _) | some .bool | some .string | some (.slice _)=>true
 | _=>false
theorem qjN {W:World} (ht:qdx P t=true) (h:Value.okWide P W .any base t v):v.cells.toList=[v]:=by
 cases v with
 | agg cs =>
  unfold qdx at ht;split at ht <;> (rename_i e;simp[Value.okWide,e,Cell.okWide,Cell.ok]at h) <;> cases ht
 | _=>rfl
def rowType (P:Program) (t:TypeId):Bool:=match P.underlying t with
 | some (.struct _) | some (.array _ _)=>true
 | _=>false
theorem qjz {W:World} (ht:rowType P t=true) (h:Value.okWide P W .any base t v):∃ cs,v=.agg cs:=by
 unfold rowType at ht;split at ht
 .rename_i e;simp only[Value.okWide,e]at h;obtain⟨cs,h1,_⟩:=h;exact⟨cs,h1⟩
 .rename_i e;simp only[Value.okWide,e]at h;obtain⟨cs,h1,_⟩:=h;exact⟨cs,h1⟩
 cases ht
theorem Reads.argS {α:Type} {f:α->AV} {ok:α->Prop} (h:Reads P t f ok) {enc:TypeId×Value->H} {w:World} {d:DataW H} {ps:List MemPlace} (ht:DataW.Trod enc P w 0 (fun _=>true) true t v d ps) (hv:∀ a,f a=.agg (f a).cells) (hrow:∃ cs,v=.agg cs):∃ a,ok a/\R (memOf w) (f a) v:=by
 obtain⟨fuel,hf⟩:=ht;obtain⟨a,h1,h2⟩:=h H enc w fuel _ _ hf;obtain⟨cs,rfl⟩:=hrow;refine⟨a,h1,?_⟩;rw[hv a];have:R (memOf w) (.agg (f a).cells) (.agg cs.toList.toArray):=.agg (by simpa[Value.cells] using h2.1) (fun j c v hc hv=>h2.2 j c v hc (by simpa[Value.cells] using hv))
 simpa using this
theorem qfy {enc:TypeId×Value->H} {f:Nat} {fn:Func} {s:ChangeSpec} {tb:TypeId} (hmix:P.follows .mixedOrders=true) (hl:laidOutB P=true) (hb:P.underlying tb=some .bool) (hres:fn.resultTypes=#[tb])
  (hts:∀ t,t∈fn.params.toList->P.readableRec t=true/\t<P.types.size) (hv:s.vars=[])
  (hs:∀ ds:List (DataW H),ds.length=fn.params.toList.length->s.fn H (ds++[])={ results:=[.lit (.bool true)],args:=ds })
  (hrun:∀ (W:World) (vs:LT) (ds:List (DataW H)) (ps:List MemPlace),(∀ (j:Nat) t v,fn.params.toList[j]? = some t->vs[j]? = some v->qdx P t=true->v.cells.toList=[v])->(∀ (j:Nat) t v,fn.params.toList[j]? = some t->vs[j]? = some v->rowType P t=true->∃ cs,v=.agg cs)->DataW.TrodAll enc P W 0 (fun _=>true) true fn.params.toList vs ds ps->∃ avs,ArgsR (memOf W) avs vs/\Run P (.call f avs (.bool true)))
  (W:World) (hgl:GlobW W) (base:Nat) (args:LO) (ds gs:List (DataW H)) (before:List MemPlace) (hval:∀ (j:Nat) t v,fn.params[j]? = some t->args[j]? = some v->Value.okWide P W .any base t v) (hW:DataW.Whole enc P fn.params.toList s.vars false W args.toList ds gs before) :
  Calls P f args W fun e W'=>∃ v,e=.returned v/\s.post enc P fn false true false false W args v W':=by
 have hW':=hW;obtain⟨p,q,hA,hV,rfl,hfz,hnd⟩:=hW;rw[hv]at hV;obtain⟨rfl,rfl⟩:=trodVars_none hV;obtain⟨avs,⟨h1,h2⟩,hr⟩:=hrun W args.toList ds p (fun j t v h1 h2 hc=>qjN hc (hval j t v (by simpa using h1) (by simpa using h2))) (fun j t v h1 h2 hc=>qjz hc (hval j t v (by simpa using h1) (by simpa using h2))) hA
 have hlen:ds.length=fn.params.toList.length:=by
  have:∀ {ts:List TypeId} {vs:LT} {ds:List (DataW H)} {ps:List MemPlace},DataW.TrodAll enc P W 0 (fun _=>true) true ts vs ds ps->ds.length=ts.length:=by
   intro ts
   induction ts with
   | nil=>intro vs ds ps h;obtain⟨_,rfl,_⟩:=trodAll_nil h;rfl
   | cons t ts ih =>
    intro vs ds ps h;obtain⟨v,vs',d,ds',p,q,rfl,rfl,rfl,_,h2⟩:=trodAll_cons h;simp[ih h2]
  exact this hA
 have hc:=YH hmix hr (memOf W) W args.toList (fun g hg=>(hgl g hg).imp fun m hm=>qac hm rfl) (qic W) h1 h2;have hc':Calls P f args W _:=hc
 refine hc'.mono fun e W' hh=>?_
 obtain⟨v,M',he,hB,_,_,_,hR,_⟩:=hh;cases hR;subst he;have hfn:=hs ds hlen;refine⟨_,rfl,ds,[],p++[],[],p,[],hW',?_,?_,?_,?_,fun h=>by cases h⟩
 .rw[hfn,hres];exact trodAll_mk1 (shut_bool hb _)
 .rw[hfn];exact Dz hl hts hA (fun x hx=>hB.same (hW'.lt x (by simp[hx]))) (fun x hx=>by simpa using hW'.lt x (by simp[hx]))
 .rw[hv,hfn];rfl
 exact World.keptBut_mono (fun x hx=>⟨hx,Or.inr (Or.inl (by simpa using hx))⟩) (hB.frame (·∈p++[]))
end Go.AM
