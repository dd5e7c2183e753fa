/- s -/
import Derived.Test.YtdghpfejmlpjhaaASimI
set_option linter.unusedVariables false
set_option linter.unusedSimpArgs false
namespace Go.AM
open Go.RowKit
section
variable {bs:Base} {n:Nat} {M:Mem} {O:Gh} {env:Env} {a:Act} {w:World} {P:Program}
theorem XX {o:Oper} {env':Env} (h:Leads P bs n o a w env') {K:Act→World→Prop} {Q:Exit→Act→World→Prop} (hK:∀ a' w' M' O',Inv bs n M' O' env' a' w'→K a' w'):o.wp P a w K Q:=by
 obtain⟨v,w',M',O',h1,h2⟩:=h;unfold Oper.wp
 rcases h1 with h1 | ⟨h1,rfl⟩ <;> rw[h1] <;> exact hK _ _ _ _ h2
theorem qY (h:Inv bs n M O env a w) {all:List Oper} {o:Oper} {b:Bool} (hw:awanted all o env=some b):Region.wanted o (yielded all.toArray a.tmps)=b:=by
 unfold awanted at hw;unfold Region.wanted
 split at hw
 ·rename_i hg;rw[hg];cases hw;rfl
 ·rename_i j want hg;rw[hg]
  simp only
  split at hw
  ·cases hw
  ·rename_i t ht
   split at hw
   ·rename_i c hl;cases hw;have hs:=h.slots t _ hl;have hv:a.tmps.getD t undef=.bool c:=hs.1.bool_inv
    have ht':((all.toArray[j]?).bind (·.dst))=some t:=by simpa using ht
    unfold yielded;rw[ht'];simp only[Option.bind_some]
    have hget:a.tmps[t]? = some (.bool c):=by
     cases hx:a.tmps[t]? with
     | none =>
      rw[Array.getD_eq_getD_getElem?,hx]at hv
      simp[undef]at hv
     | some y =>
      rw[Array.getD_eq_getD_getElem?,hx]at hv
      simp at hv
      rw[hv]
    rw[hget];cases c <;> cases want <;> rfl
   ·rename_i hl;cases hw;have hs:=h.slots t _ hl
    have hv:a.tmps.getD t undef=undef:=by
     have:=hs.1;generalize a.tmps.getD t undef=y at this;cases this;rfl
    have ht':((all.toArray[j]?).bind (·.dst))=some t:=by simpa using ht
    unfold yielded;rw[ht'];simp only[Option.bind_some]
    cases hx:a.tmps[t]? with
    | none=>rfl
    | some y =>
     rw[Array.getD_eq_getD_getElem?,hx]at hv
     simp at hv
     subst hv;rfl
   ·cases hw
def StepSem (P:Program) (n:Nat) (all:List Oper) (o:Oper) (e e1:Env):Prop :=
 ∀ (bs:Base) (M:Mem) (O:Gh) (a:Act) (w:World),Inv bs n M O e a w→∀ (K:Act→World→Prop) (Q:Exit→Act→World→Prop),(∀ a' w' M' O',Inv bs n M' O' e1 a' w'→K a' w') →
  if Region.wanted o (yielded all.toArray a.tmps) then o.wp P a w K Q else K (a.put o.dst undef) w
def insO (d:Option Nat) (x:AV) (E:Env):Env :=
 match d with
 | some t=>ins t x E
 | none=>E
def lookS (env:Env) (t:Nat):Option AV:=(look env t).map AV.sk
def NA (all:List Oper) (o:Oper) (e E:Env):Prop:=∀ t,t∈namesOf all.toArray o→∀ y,lookS e t=some y→lookS E t=some y
def EA (e E:Env):Prop:=∀ s x,x.ent=true→look e s=some x→look E s=some x
def Pure1 (P:Program) (n:Nat) (all:List Oper) (o:Oper) (e e1:Env):Prop :=
 ∃ x,eput n o.dst x e=some e1∧x.ent=false∧∀ E,NA all o e E→(memFree o.op=true∨EA e E)→StepSem P n all o E (insO o.dst x E)
def St1 (P:Program) (n:Nat) (all:List Oper) (o:Oper) (e e1:Env):Prop :=
 isStore o.op=true∧o.dst=none∧∃ s x x',look e s=some x∧x.ent=true∧x'.ent=true∧x'.sk=x.sk∧e1=ins s x' e∧∀ E,NA all o e E→look E s=some x→StepSem P n all o E (ins s x' E)
def LE (E F:Env):Prop:=∀ t,look E t=look F t
def ClearL (id:Nat) (E:Env):Prop:=look E id=none∧∀ s x,look E s=some x→x.refs id=false
def Unord (all:List Oper) (o x:Oper):Prop:=∃ k i,all[k]? = some o∧all[i]? = some x∧i≠k∧((Region.before all.toArray).getD k 0).testBit i=false∧((Region.before all.toArray).getD i 0).testBit k=false
def IsA (P:Program) (n:Nat) (all:List Oper) (o:Oper) (E E1:Env):Prop :=
 isMk o.op=true∧∃ (d:Nat) (x y:AV),o.dst=some d∧x.ent=false∧ClearL (1000000+d) E∧LE (ins (1000000+d) y (ins d x E)) E1∧∀ F,NA all o E F→ClearL (1000000+d) F→look F d=none→StepSem P n all o F (ins (1000000+d) y (ins d x F))
def IsB (P:Program) (n:Nat) (all:List Oper) (o:Oper) (E E1:Env):Prop :=
 isApp o.op=true∧((∀ x,¬ Unord all o x)∨∃ (d:Nat) (v:AV) (g:AV→AV),o.dst=some d∧LE (ins d v (E.map fun p=>(p.1,g p.2))) E1∧(∀ x,plainV (some x)=true→g x=x) ∧
  (∀ x,Unord all o x→∀ t,t∈namesOf all.toArray x→plainV (look E t)=true)∧∀ F,NA all o E F→look F d=none→StepSem P n all o F (ins d v (F.map fun p=>(p.1,g p.2))))
def Hard (P:Program) (n:Nat) (all:List Oper) (o:Oper) (e e1:Env):Prop :=
 (isEff o.op=true∧isStore o.op=false)∧(∀ t,t<1000000→o.dst≠some t→look e t=none→look e1 t=none)∧(o.guard=none→isMk o.op=true→IsA P n all o e e1)∧(o.guard=none→isApp o.op=true→IsB P n all o e e1)
def StepOk (P:Program) (n:Nat) (draw:Bool) (all:List Oper) (o:Oper) (e e1:Env):Prop :=
 StepSem P n all o e e1∧(draw=true→Hard P n all o e e1∨St1 P n all o e e1∨((isEff o.op=false∨isStore o.op=true)∧Pure1 P n all o e e1))
inductive Chain (P:Program) (n:Nat) (draw:Bool) (all:List Oper):List Oper→Env→Env→Prop where
 | nil {e}:Chain P n draw all [] e e
 | drop {rest e e'} (e0:Env):draw=false→(∀ (bs:Base) (M:Mem) (O:Gh) (a:Act) (w:World),Inv bs n M O e a w→∃ M' O',Inv bs n M' O' e0 a w)→Chain P n draw all rest e0 e'→Chain P n draw all rest e e'
 | step {o rest e e1 e'}:StepOk P n draw all o e e1→Chain P n draw all rest e1 e'→Chain P n draw all (o::rest) e e'
theorem chain_seq {draw:Bool} {all rest:List Oper} {e e':Env} (hc:Chain P n draw all rest e e'):∀ {M:Mem} {O:Gh} {a:Act} {w:World},Inv bs n M O e a w→∀ {Q:Exit→Act→World→Prop},(∀ a' w' M' O',Inv bs n M' O' e' a' w'→Q .normal a' w')→wpList P all.toArray Q rest a w:=by
 induction hc with
 | nil=>intro M O a w h Q hQ;exact hQ _ _ _ _ h
 | drop e0 _ hw _ ih =>
  intro M O a w h Q hQ;obtain⟨M',O',h'⟩:=hw _ M O a w h;exact ih h' hQ
 | step hs _ ih =>
  intro M O a w h Q hQ;have:=hs.1 bs M O a w h (wpList P all.toArray Q _) Q (fun a' w' M' O' h'=>ih h' hQ);simp only[wpList]
  split at this
  ·rename_i hw;rw[if_pos hw];exact .inl this
  ·rename_i hw;rw[if_neg hw];exact this
theorem region_seq {id:Nat} {ops:Array Oper} {e e':Env} (hc:Chain P n false ops.toList ops.toList e e') (h:Inv bs n M O e a w) {Q:Exit→Act→World→Prop} (hQ:∀ a' w' M' O',Inv bs n M' O' e' a' w'→Q .normal a' w'):(Code.region id ops false).wp P Q a w:=by
 refine wp_region_list ?_;have:=chain_seq hc h hQ
 simpa using this
theorem step_not {all:List Oper} {o:Oper} {e e1:Env} (hw:awanted all o e=some false) (he:eput n o.dst .und e=some e1):StepSem P n all o e e1:=by
 intro bs M O a w h K Q hK;rw[qY h hw];simp only[Bool.false_eq_true,if_false];exact hK _ _ _ _ (XZ h (x:=.und) ⟨.und,trivial⟩ he)
theorem step_op {all:List Oper} {o:Oper} {e e1:Env} (hw:awanted all o e=some true) (he:astep P n o e=some e1):StepSem P n all o e e1:=by
 intro bs M O a w h K Q hK;rw[qY h hw];simp only[if_true];exact XX (astep_leads h he) hK
theorem step_row {all:List Oper} {o:Oper} {e e1:Env} (hw:awanted all o e=some true) (he:arow P n o e=some e1):StepSem P n all o e e1:=by
 intro bs M O a w h K Q hK;rw[qY h hw];simp only[if_true];exact XX (arow_leads h he) hK
theorem step_pure {all:List Oper} {o:Oper} {e e1:Env} {x:AV} (hw:awanted all o e=some true) (hx:apure P o e=some x) (he:eput n o.dst x e=some e1):StepSem P n all o e e1:=by
 intro bs M O a w h K Q hK;rw[qY h hw];simp only[if_true];exact XX (ZC h hx he) hK
theorem insO_inv (h:Inv bs n M O env a w) {d:Option Nat} {x:AV} {v:Value} (hv:ValOk O M w x v) (hd:∀ t,d=some t→t<n):Inv bs n M O (insO d x env) (a.put d v) w:=by
 cases d with
 | none=>exact h
 | some t=>exact h.put (hd t rfl) hv
theorem JC {d:Option Nat} {x:AV} {e e1:Env} (he:eput n d x e=some e1):e1=insO d x e∧(∀ t,d=some t→t<n)∧∀ t,d=some t→∀ y,look e t=some y→y.ent=false:=by
 cases d with
 | none=>cases he;exact⟨rfl,(fun t e=>by cases e),(fun t e=>by cases e)⟩
 | some t =>
  obtain⟨h1,h2,h3⟩:=YC he;exact⟨h2,(fun t' e=>by cases e;exact h1),fun t' e y hy=>by cases e;exact h3 y hy⟩
theorem callOk_leads {all:List Oper} {o:Oper} {e:Env} {f:Nat} {args:List AV} {r:AV} (hc:acallee P o e=some (f,args)) (hr:CallOk P f args r) (h:Inv bs n M O e a w) {K:Act→World→Prop} {Q:Exit→Act→World→Prop}
  (hK:∀ v w' M',Inv bs n M' O e a w'→R M' r v→OwnR M' w.heap.size w' r v→(∀ i c g,O i c=some g→g<w.heap.size)→(∀ g,w.heap.size≤g→¬ bs.D g)→K (a.put o.dst v) w'):o.wp P a w K Q:=by
 obtain⟨vs,h1,h2,h3⟩:=callee_sound h hc;unfold Oper.wp;rw[h1];show Calls P f vs.toArray w _;refine (hr M w vs h.glob h.cons h2 h3).mono ?_
 rintro ed w' ⟨v,M',rfl,hb,hs,hC,ho,hR,hO⟩
 exact hK v w' M' (h.grown (row:=none) (fun g e=>by cases e) (below_grown hb) hs hC (fun b o hb _=>ho b o hb)) hR hO (fun i c g hg=>(h.own i c g hg).2) (fun g hg=>h.fresh hg)
theorem callR_leads {all:List Oper} {o:Oper} {e:Env} {f:Nat} {args:List AV} {r:AV} (hc:Qm P o e=some (f,args)) (hp:r.plain=true) (hr:CallOk P f args r) (h:Inv bs n M O e a w) {K:Act→World→Prop} {Q:Exit→Act→World→Prop}
  (hK:∀ v w',Inv bs n M O e a w'→R M r v→K (a.put o.dst v) w'):o.wp P a w K Q:=by
 obtain⟨vs,h1,h2,h3⟩:=calleeR_sound h hc;unfold Oper.wp;rw[h1];show Calls P f vs.toArray w _;refine (hr _ w vs (h.glob.mono (QV h)) (memX_cons h) h2 h3).mono ?_
 rintro ed w' ⟨v,M',rfl,hb,hs,hC,ho,hR,hO⟩
 exact hK v w' (h.grown (row:=none) (fun g e=>by cases e) (below_grown hb) (Sub.refl M) (fun b o u hu=>hC b o u (hs b o u (QV h b o u hu))) (fun b o hb _=>rfl)) (plain_r hp hR)
theorem Xn (x:AV):x.strip.lab? = none:=by cases x <;> rfl
theorem step_callR {all:List Oper} {o:Oper} {e e1:Env} {f:Nat} {args:List AV} {r:AV} (hw:awanted all o e=some true) (hc:Qm P o e=some (f,args)) (hp:r.plain=true) (hr:CallOk P f args r) (he:eput n o.dst r e=some e1):StepSem P n all o e e1:=by
 intro bs M O a w h K Q hK;rw[qY h hw];simp only[if_true]
 exact callR_leads (all:=all) hc hp hr h fun v w' h' hR=>hK _ _ _ _ (XZ h' (jH hR (plain_lab hp)) he)
theorem step_call {draw:Bool} {all:List Oper} {o:Oper} {e e1:Env} {f:Nat} {args:List AV} {r:AV} (hw:awanted all o e=some true) (hc:acallee P o e=some (f,args)) (hr:CallOk P f args r) (he:callPut n draw o.dst r e=some e1):StepSem P n all o e e1:=by
 intro bs M O a w h K Q hK;rw[qY h hw];simp only[if_true]
 refine callOk_leads (all:=all) hc hr h fun v w' M' h' hR hO hlt hB=>?_
 have plain:eput n o.dst r.strip e=some e1→K (a.put o.dst v) w':=fun he=>hK _ _ _ _ (XZ h' (jH hR.strip (Xn r)) he)
 unfold callPut at he
 split at he
 ·split at he
  ·exact plain he
  ·cases he
 ·split at he
  ·rename_i c hl
   cases r with
   | lst el k lab xs =>
    cases lab with
    | none=>cases hl
    | some c' =>
     simp only[AV.strip]at he plain
     cases hd:o.dst with
     | none=>rw[hd]at he plain;exact plain he
     | some d =>
      rw[hd]at he plain;simp only[fresh]at he
      split at he
      ·exact plain he
      ·rename_i hlab;obtain⟨hdn,rfl⟩:=YD he
       have hput:∃ O',Inv bs n M' O' (ins d (.lst el k (some d) xs) e) (a.put (some d) v) w':=by
        rcases hO with hv | ⟨g,off,cap,cur,q1,q2,q3,q4,q5,q6,q7⟩
        ·exact h'.putFresh (g:=0) (off:=0) (cap:=0) (cur:=#[]) hdn hlab hR.setLab (.inl hv)
        ·exact h'.putFresh hdn hlab hR.setLab (.inr ⟨q1,hB g q2,fun i c hc=>by have:=hlt i c _ hc;omega,q3,q4,q5,q6,q7⟩)
       obtain⟨O',hput⟩:=hput;exact hK _ _ _ _ hput
   | _=>cases hl
  ·exact plain he
end
end Go.AM
