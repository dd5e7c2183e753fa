import Derived.Test.YtoiejpkfpjingaaASimK
set_option linter.all false
open Nat renaming beq→A0, eq_of_beq_eq_true→A2, le_of_ble_eq_true→A3, lt_of_not_le→A8, le_refl→C6, lt_or_ge→C7, ble_eq_true_of_le→D4
open Bool renaming and_eq_true→A1, not_eq_true'→A6, or_eq_true→B5
open List renaming getElem?_eq_getElem→A4, getElem?_map→A5, mem_cons_self→B6, mem_cons_of_mem→B7, all_eq_true→B9, foldl_cons→C5, any_eq_false→C8, mem_of_getElem?→D0, mem_of_mem_drop→D1, mem_append_left→D5, mem_of_mem_take→D6
open Go.Region renaming before→A7, binds→A9, ready→C4
open Array renaming getElem?_push→D2, getD_eq_getD_getElem?→D3
namespace Go.AM
open Go.RowKit
section
variable {n:Nat} {P:Program}
theorem qbr (acc:Array Nat):∀ (l:List Edge) (s i:Nat),(l.foldl (fun s e=>if A9 .any e then s ||| 2 ^ e.on ||| acc.getD e.on 0 else s) s).testBit i=true →
    s.testBit i=true∨∃ e,e∈l∧A9 .any e=true∧(i=e.on∨(acc.getD e.on 0).testBit i=true)
  | [],s,i,h=>.inl h
  | e::l,s,i,h=>by
    simp only[C5]at h
    rcases qbr acc l _ i h with h1 | ⟨e',he',h1,h2⟩
    · split at h1
      · rename_i hb
        simp only[Nat.testBit_or,B5]at h1
        rcases h1 with (h1 | h1) | h1
        · exact .inl h1
        · refine .inr ⟨e,B6 ..,hb,.inl ?_⟩
          rw[Nat.testBit_two_pow]at h1
          simpa using (of_decide_eq_true h1).symm
        · exact .inr ⟨e,B6 ..,hb,.inr h1⟩
      · exact .inl h1
    · exact .inr ⟨e',B7 _ he',h1,h2⟩
def Qc (acc:Array Nat) (o:Oper):Array Nat :=
  acc.push (o.after.foldl (fun s e=>if A9 .any e then s ||| 2 ^ e.on ||| acc.getD e.on 0 else s) 0)
theorem qbC (all:List Oper):A7 all.toArray=all.foldl Qc #[]:=by
  unfold A7;rw[← Array.foldl_toList];rfl
theorem ZL:∀ (l:List Oper) (acc:Array Nat),(l.foldl Qc acc).size=acc.size+l.length
  | [],acc=>rfl
  | o::l,acc=>by
    simp only[C5,List.length_cons];rw[ZL l];simp[Qc];omega
theorem Ud:∀ (l:List Oper) (acc:Array Nat) (j:Nat),j<acc.size→(l.foldl Qc acc).getD j 0=acc.getD j 0
  | [],acc,j,h=>rfl
  | o::l,acc,j,h=>by
    simp only[C5];rw[Ud l _ j (by simp[Qc];omega)];simp[Qc,D2,Nat.ne_of_lt h]
theorem qgo (all:List Oper) {j:Nat} {o:Oper} (h:all[j]? = some o) :
    (all.foldl Qc #[]).getD j 0=o.after.toList.foldl (fun s e=>if A9 .any e then s ||| 2 ^ e.on ||| ((all.take j).foldl Qc #[]).getD e.on 0 else s) 0:=by
  have hj:=(List.getElem?_eq_some_iff.1 h).1
  have hsplit:all=all.take j++o::all.drop (j+1):=by
    have:=List.getElem?_eq_some_iff.1 h;rw[← this.2];simp
  have hs:((all.take j).foldl Qc #[]).size=j:=by rw[ZL];simp;omega
  conv=>lhs;rw[hsplit]
  rw[List.foldl_append,C5,Ud _ _ j (by simp[Qc,hs])];simp only[Qc];rw[D3,D2,if_pos (by rw[hs])];simp
def Closed (all:List Oper) (S:Nat→Prop):Prop:=∀ j o,all[j]? = some o→S j→∀ e,e∈o.after.toList→A9 .any e=true→S e.on
theorem XS {all:List Oper} {S:Nat→Prop} (hc:Closed all S):∀ (j:Nat) (o:Oper),all[j]? = some o→(∀ e,e∈o.after.toList→A9 .any e=true→S e.on)→∀ i,((A7 all.toArray).getD j 0).testBit i=true→S i:=by
  intro j
  induction j using Nat.strongRecOn with
  | _ j ih =>
    intro o ho he i hi;rw[qbC,qgo all ho]at hi
    rcases qbr _ _ 0 i hi with h0 | ⟨e,hem,hb,h⟩
    · simp at h0
    · rcases h with rfl | h
      · exact he e hem hb
      · have hlt:e.on<j:=by
          refine A8 fun hle=>?_
          have hs:((all.take j).foldl Qc #[]).size≤j:=by rw[ZL];simp;omega
          rw[D3,Array.getElem?_eq_none (by omega)]at h;simp at h
        have hj:=(List.getElem?_eq_some_iff.1 ho).1;have ho':all[e.on]? = some (all[e.on]'(by omega)):=A4 _;refine ih e.on hlt _ ho' (hc e.on _ ho' (he e hem hb)) i ?_;rw[qbC];have h1:=Ud (all.drop j) ((all.take j).foldl Qc #[]) e.on (by rw[ZL];simp;omega);rw[← List.foldl_append,List.take_append_drop]at h1;rw[h1];exact h
theorem ZJ {o:Op} (h:memFree o=true):isEff o=false:=by
  unfold memFree at h;unfold isEff
  split at h <;> first | rfl | cases h
theorem qaO {o:Op} (h:isStore o=true):isEff o=true:=by
  cases o <;> first | rfl | cases h
def Free (x y:Op):Prop:=(isEff x=false∧isEff y=false)∨(isStore x=true∧memFree y=true)∨(memFree x=true∧isStore y=true)
theorem Nl {all:List Oper} (h:orderOk all.toArray=true) {i j:Nat} {x y:Oper} (hij:i<j) (hx:all[i]? = some x) (hy:all[j]? = some y) :
    ((A7 all.toArray).getD j 0).testBit i=true∨(Free x.op y.op∧(∀ d,x.dst=some d→d ∉ namesOf all.toArray y)∧(∀ d,y.dst=some d→d ∉ namesOf all.toArray x)):=by
  unfold orderOk at h;simp only[B9,List.mem_range]at h;have hj:=(List.getElem?_eq_some_iff.1 hy).1;have:=h j (by simpa using hj) i hij;simp only[B5]at this
  rcases this with h1 | h1
  · exact .inl h1
  · refine .inr ?_
    have hx':all.toArray[i]? = some x:=by simpa using hx
    have hy':all.toArray[j]? = some y:=by simpa using hy
    rw[hx',hy']at h1;simp only[A1,B5,A6]at h1;obtain⟨⟨h1,h3⟩,h4⟩:=h1;refine⟨?_,fun d hd hm=>?_,fun d hd hm=>?_⟩
    · rcases h1 with (⟨h1,h2⟩ | h1) | h1
      · exact .inl ⟨h1,h2⟩
      · exact .inr (.inl h1)
      · exact .inr (.inr h1)
    · rw[hd]at h3
      simp only[A6,C8]at h3;exact h3 d hm (by simp)
    · rw[hd]at h4
      simp only[A6,C8]at h4;exact h4 d hm (by simp)
theorem qeB {all rest:List Oper} {e e':Env} {draw:Bool} (h:Chain P n draw all rest e e') (hd:draw=true):∃ es:Nat→Env,es 0=e∧es rest.length=e'∧∀ i o,rest[i]? = some o→StepOk P n draw all o (es i) (es (i+1)):=by
  induction h with
  | @nil e=>exact⟨fun _=>e,rfl,rfl,fun i o h=>by simp at h⟩
  | drop e0 hf _ _ _=>rw[hf]at hd;cases hd
  | @step o rest e e1 e' hs _ ih =>
    obtain⟨es,h1,h2,h3⟩:=ih;refine⟨fun i=>match i with | 0=>e | i+1=>es i,rfl,h2,fun i o' ho=>?_⟩
    cases i with
    | zero=>simp at ho;subst ho;show StepOk P n draw all o e (es 0);rw[h1];exact hs
    | succ i=>exact h3 i o' (by simpa using ho)
variable {all:List Oper} {es:Nat→Env}
def Wr (all:List Oper) (i t:Nat):Prop:=∃ o,all[i]? = some o∧((isEff o.op=true∧isStore o.op=false)∨o.dst=some t)
def WrE (all:List Oper) (i:Nat):Prop:=∃ o,all[i]? = some o∧isEff o.op=true
theorem Zl {d:Option Nat} {x:AV} {E:Env} {t:Nat} (h:d≠some t):look (insO d x E) t=look E t:=by
  cases d with
  | none=>rfl
  | some s =>
    simp only[insO];rw[jq,if_neg (fun e=>h (by rw[e]))]
theorem Nq {e:Env} {s t:Nat} {x x':AV} (hl:look e s=some x) (hk:x'.sk=x.sk):lookS (ins s x' e) t=lookS e t:=by
  unfold lookS;rw[jq];split
  · rename_i h;subst h
    rw[hl];simp[hk]
  · rfl
theorem stable (hes:∀ i o,all[i]? = some o→StepOk P n true all o (es i) (es (i+1))) {t:Nat} {i:Nat}:∀ j,i≤j→j≤all.length→(∀ k,i≤k→k<j→¬ Wr all k t)→lookS (es j) t=lookS (es i) t:=by
  intro j
  induction j with
  | zero =>
   intro h _ _;have:i=0:=by omega
   subst this;rfl
  | succ j ih =>
    intro h hl hw;by_cases hij:i=j+1
    · subst hij;rfl
    · have hlt:j<all.length:=by omega
      have ho:all[j]? = some all[j]:=A4 hlt;have hn:=hw j (by omega) (by omega);rw[← ih (by omega) (by omega) (fun k h1 h2=>hw k h1 (by omega))]
      rcases (hes j _ ho).2 rfl with he | ⟨_,_,s,x,x',hx,_,_,hk,e1,_⟩ | ⟨_,x,hx,_⟩
      · exact absurd ⟨_,ho,.inl he.1⟩ hn
      · rw[e1]
        exact Nq hx hk
      · obtain⟨e1,_,_⟩:=QC hx
        rw[e1];unfold lookS;rw[Zl fun e=>hn ⟨_,ho,.inr e⟩]
theorem Ut (e:Env):EA e e:=fun _ _ _ h=>h
theorem EA.trans {a b c:Env} (h:EA a b) (k:EA b c):EA a c:=fun s x hx hl=>k s x hx (h s x hx hl)
theorem qfl {d:Option Nat} {x:AV} {e e1:Env} (hx:x.ent=false) (he:eput n d x e=some e1):EA e e1∧EA e1 e:=by
  obtain⟨e1',_,hno⟩:=QC he;subst e1'
  cases d with
  | none=>exact⟨Ut _,Ut _⟩
  | some t =>
    simp only[insO];refine⟨fun s y hy hl=>?_,fun s y hy hl=>?_⟩
    · rw[jq]
      split
      · rename_i h;subst h
        rw[hno s rfl y hl]at hy;cases hy
      · exact hl
    · rw[jq]at hl
      split at hl
      · cases hl
        rw[hx]at hy;cases hy
      · exact hl
theorem stableE (hes:∀ i o,all[i]? = some o→StepOk P n true all o (es i) (es (i+1))) {i:Nat}:∀ j,i≤j→j≤all.length→(∀ k,i≤k→k<j→¬ WrE all k)→EA (es i) (es j)∧EA (es j) (es i):=by
  intro j
  induction j with
  | zero =>
   intro h _ _;have:i=0:=by omega
   subst this;exact⟨Ut _,Ut _⟩
  | succ j ih =>
    intro h hl hw;by_cases hij:i=j+1
    · subst hij;exact⟨Ut _,Ut _⟩
    · have hlt:j<all.length:=by omega
      have ho:all[j]? = some all[j]:=A4 hlt;have hn:=hw j (by omega) (by omega);obtain⟨h1,h2⟩:=ih (by omega) (by omega) (fun k h1 h2=>hw k h1 (by omega))
      rcases (hes j _ ho).2 rfl with he | ⟨hs,_⟩ | ⟨_,x,hx,hxe,_⟩
      · exact absurd ⟨_,ho,he.1.1⟩ hn
      · exact absurd ⟨_,ho,qaO hs⟩ hn
      · obtain⟨k1,k2⟩:=qfl hxe hx
        exact⟨h1.trans k1,k2.trans h2⟩
structure Match (all:List Oper) (es:Nat→Env) (S:Nat→Prop) (E:Env):Prop where
  s:∀ t j,j≤all.length→(∀ i,i<j→Wr all i t→S i)→(∀ i,j≤i→Wr all i t→¬ S i)→∀ y,lookS (es j) t=some y→lookS E t=some y
  e:∀ j,j≤all.length→(∀ i,i<j→WrE all i→S i)→(∀ i,j≤i→WrE all i→¬ S i)→EA (es j) E
end
end Go.AM
namespace Go.AM
open Go.RowKit
section
variable {n:Nat} {P:Program} {all:List Oper} {es:Nat→Env}
theorem qdk {S:Nat→Prop} (hes:∀ i o,all[i]? = some o→StepOk P n true all o (es i) (es (i+1))) (hS:∀ i,i<all.length→¬ S i):Match all es S (es 0):=by
 refine⟨fun t j hj h1 h2 y hy=>?_,fun j hj h1 h2=>?_⟩
 ·rw[← stable hes (i:=0) j (Nat.zero_le _) hj (fun k _ hk hw=>hS k (by omega) (h1 k hk hw))];exact hy
 ·exact (stableE hes (i:=0) j (Nat.zero_le _) hj (fun k _ hk hw=>hS k (by omega) (h1 k hk hw))).2
theorem UD {S:Nat→Prop} {E:Env} (hm:Match all es S E) {j:Nat} (hj:j≤all.length) (h1:∀ i,i<j→S i) (h2:∀ i,j≤i→i<all.length→¬ S i) {t:Nat} {x:AV} (hx:look (es j) t=some x):look E t=some x:=by
 have hlt:∀ i (o:Oper),all[i]? = some o→i<all.length:=fun i o ho=>(List.getElem?_eq_some_iff.1 ho).1
 cases he:x.ent with
 | true=>exact hm.e j hj (fun i hi _=>h1 i hi) (fun i hi ⟨o,ho,_⟩=>h2 i hi (hlt i o ho)) t x he hx
 | false =>
  have:=hm.s t j hj (fun i hi _=>h1 i hi) (fun i hi ⟨o,ho,_⟩=>h2 i hi (hlt i o ho)) x (by simp[lookS,hx,qeL he]);unfold lookS at this
  cases hL:look E t with
  | none=>rw[hL]at this;cases this
  | some Y =>
   rw[hL]at this;simp only[Option.map_some,Option.some.injEq]at this
   have hY:Y.ent=false:=by rw[← qgE,this];exact he
   rw[qeL hY]at this;rw[this]
theorem QG {x y:Op} (h:Free x y):¬ (isEff x=true∧isStore x=false)∧¬ (isEff y=true∧isStore y=false)∧¬ (isEff x=true∧isEff y=true)∧(isEff x=true→memFree y=true)∧(isEff y=true→memFree x=true):=by
 rcases h with ⟨h1,h2⟩ | ⟨h1,h2⟩ | ⟨h1,h2⟩
 ·refine⟨fun h=>?_,fun h=>?_,fun h=>?_,fun h=>?_,fun h=>?_⟩ <;> simp_all
 ·have:=ZJ h2;refine⟨fun h=>?_,fun h=>?_,fun h=>?_,fun h=>h2,fun h=>?_⟩ <;> simp_all
 ·have:=ZJ h1;refine⟨fun h=>?_,fun h=>?_,fun h=>?_,fun h=>?_,fun h=>h1⟩ <;> simp_all
theorem Uv {α:Type} {p q:α→Bool}:∀ {l:List α} {x:α},(∀ y,y∈l→q y=true→p y=true)→x∈l→p x=true→q x=false→l.countP q<l.countP p
 | [],x,_,hx,_,_=>by cases hx
 | z::l,x,h,hx,hp,hq=>by
  have hle:l.countP q≤l.countP p:=List.countP_mono_left fun y hy=>h y (B7 _ hy)
  rw[List.countP_cons,List.countP_cons]
  cases hx with
  | head=>rw[if_pos hp,if_neg (by rw[hq];exact Bool.false_ne_true)];omega
  | tail _ hx =>
   have:=Uv (fun y hy=>h y (B7 _ hy)) hx hp hq;by_cases hz:q z=true
   ·rw[if_pos hz,if_pos (h z (B6 ..) hz)];omega
   ·rw[if_neg hz];split <;> omega
def Je (N:Nat) (listed:Array Bool):Nat:=(List.range N).countP fun i=>!listed.getD i true
theorem Xw {listed:Array Bool} {i:Nat} (h:i<listed.size):listed.getD i true=listed.getD i false:=by
 simp[h]
theorem qfQ {all:List Oper} {o:Oper} {d:Nat} (h:o.dst=some d):d∈namesOf all.toArray o:=by
 unfold namesOf;rw[h];simp
theorem qgs {bs:Base} {Q:Exit→Act→World→Prop} (hes:∀ i o,all[i]? = some o→StepOk P n true all o (es i) (es (i+1))) (hord:orderOk all.toArray=true) (hback:jS all.toArray=true)
  (hQ:∀ a' w' M' O',Inv bs n M' O' (es all.length) a' w'→Q .normal a' w') :
  ∀ (fuel:Nat) (listed:Array Bool) (a:Act) (w:World) (M:Mem) (O:Gh) (E:Env),listed.size=all.length→Closed all (fun i=>listed.getD i false=true)→Match all es (fun i=>listed.getD i false=true) E →
   Je all.length listed≤fuel→Inv bs n M O E a w→wpAny P .any all.toArray Q fuel listed a w:=by
 have done:∀ (listed:Array Bool) (a:Act) (w:World) (M:Mem) (O:Gh) (E:Env),listed.size=all.length→Match all es (fun i=>listed.getD i false=true) E→Inv bs n M O E a w →
   C4 .any all.toArray listed=[]→Q .normal a w:=by
  intro listed a w M O E hsz hm h hr
  have hall:∀ i,i<all.length→listed.getD i false=true:=by
   intro i
   induction i using Nat.strongRecOn with
   | _ i ih =>
    intro hi
    cases hv:listed.getD i false with
    | true=>rfl
    | false =>
     exfalso;have ho:all[i]? = some all[i]:=A4 hi
     have:i∈C4 .any all.toArray listed:=by
      rw[mem_ready];refine⟨by rw[Xw (by omega)];exact hv,all[i],by simp,fun e he hb=>?_⟩
      have hlt:e.on<i:=by
       unfold jS at hback;rw[B9]at hback
       have hmem:(all[i],i)∈all.toArray.toList.zipIdx:=by
        rw[List.mem_iff_getElem?];exact⟨i,by simp[List.getElem?_zipIdx,ho]⟩
       have:=hback _ hmem;rw[Array.all_eq_true_iff_forall_mem]at this;have:=this e he;simp only[B5,A6]at this
       rcases this with h1 | h1
       ·rw[hb]at h1;cases h1
       ·exact A3 h1
      exact ih e.on hlt (by omega)
     rw[hr]at this;cases this
  refine hQ a w M O (h.sub fun t y hy=>.inl (UD hm (C6 _) (fun i hi=>hall i hi) (fun i hi hw=>by omega) hy))
 intro fuel
 induction fuel with
 | zero =>
  intro listed a w M O E hsz hc hm hu h
  have hr:C4 .any all.toArray listed=[]:=by
   cases hr:C4 .any all.toArray listed with
   | nil=>rfl
   | cons i rs =>
    exfalso
    have hi:i∈C4 .any all.toArray listed:=by rw[hr];exact B6 ..
    rw[mem_ready]at hi;obtain⟨h0,o,ho,_⟩:=hi
    have hil:i<all.length:=by
     have:=(Array.getElem?_eq_some_iff.1 ho).1
     simpa using this
    have:0<Je all.length listed:=by
     unfold Je;rw[List.countP_pos_iff];exact⟨i,List.mem_range.2 hil,by rw[h0];rfl⟩
    omega
  exact⟨hr,done listed a w M O E hsz hm h hr⟩
 | succ fuel ih =>
  intro listed a w M O E hsz hc hm hu h;refine⟨fun hr=>done listed a w M O E hsz hm h hr,fun k hk=>?_⟩;rw[mem_ready]at hk;obtain⟨hk0,ok,hok,hkall⟩:=hk
  have hok':all[k]? = some ok:=by simpa using hok
  have hkl:k<all.length:=(List.getElem?_eq_some_iff.1 hok').1
  have hkf:listed.getD k false=false:=by rw[← Xw (by omega)];exact hk0
  have hdeps:∀ i,((A7 all.toArray).getD k 0).testBit i=true→listed.getD i false=true :=
   XS hc k ok hok' (fun e he hb=>hkall e (by simpa using he) hb)
  have hnot:∀ i,listed.getD i false=true→i<all.length→((A7 all.toArray).getD i 0).testBit k=false:=by
   intro i hi hil
   cases hb:((A7 all.toArray).getD i 0).testBit k with
   | false=>rfl
   | true =>
    have:=XS hc i _ (A4 hil) (fun e he hb=>hc i _ (A4 hil) hi e he hb) k hb;simp only[hkf]at this;cases this
  have hsz':(listed.setIfInBounds k true).size=all.length:=by simp[hsz]
  have hset:∀ i,(listed.setIfInBounds k true).getD i false=true↔(i=k∨listed.getD i false=true):=by
   intro i;by_cases hik:i=k
   ·subst hik
    have hkk:i<listed.size:=by omega
    simp[hkk]
   ·rw[getD_set_ne false (fun e=>hik e.symm)];simp[hik]
  have hc':Closed all (fun i=>(listed.setIfInBounds k true).getD i false=true):=by
   intro j o ho hj e he hb;rw[hset]at hj ⊢
   rcases hj with rfl | hj
   ·rw[hok']at ho;cases ho;exact .inr (hkall e (by simpa using he) hb)
   ·exact .inr (hc j o ho hj e he hb)
  have hu':Je all.length (listed.setIfInBounds k true)≤fuel:=by
   have:Je all.length (listed.setIfInBounds k true)<Je all.length listed:=by
    unfold Je;refine Uv (x:=k) (fun i hi hq=>?_) (List.mem_range.2 hkl) (by rw[hk0];rfl) ?_
    ·have hil:=List.mem_range.1 hi;simp only[A6]at hq ⊢;rw[Xw (by omega)]at hq ⊢
     cases hv:listed.getD i false with
     | false=>rfl
     | true =>
      have:=(hset i).2 (.inr hv);rw[this]at hq;cases hq
    ·have hkk:k<listed.size:=by omega
     simp[hkk]
   omega
  obtain⟨hsem,hpure⟩:=hes k ok hok'
  have hwp:∀ (K:Act→World→Prop),(if Region.wanted ok (yielded all.toArray a.tmps) then ok.wp P a w K Q else K (a.put ok.dst undef) w)→wpOp P all.toArray Q k K a w:=by
   intro K hK;unfold wpOp;rw[hok];simp only;split
   ·rename_i hw;rw[if_pos hw]at hK;exact .inl hK
   ·rename_i hw;rw[if_neg hw]at hK;exact hK
  refine hwp _ ?_
  have P1:∀ i oi,all[i]? = some oi→i<k→listed.getD i false=true∨(Free oi.op ok.op∧(∀ d,oi.dst=some d→d ∉ namesOf all.toArray ok)∧(∀ d,ok.dst=some d→d ∉ namesOf all.toArray oi)):=by
   intro i oi hoi hi
   rcases Nl hord hi hoi hok' with h1 | h1
   ·exact .inl (hdeps i h1)
   ·exact .inr h1
  have P2:∀ i oi,all[i]? = some oi→k<i→listed.getD i false=true→(Free ok.op oi.op∧(∀ d,ok.dst=some d→d ∉ namesOf all.toArray oi)∧(∀ d,oi.dst=some d→d ∉ namesOf all.toArray ok)):=by
   intro i oi hoi hi hl
   rcases Nl hord hi hok' hoi with h1 | h1
   ·rw[hnot i hl (List.getElem?_eq_some_iff.1 hoi).1]at h1;cases h1
   ·exact h1
  have hNA:NA all ok (es k) E:=by
   intro t ht y hy;refine hm.s t k (by omega) (fun i hi hw=>?_) (fun i hi hw hl=>?_) y hy
   ·obtain⟨oi,hoi,hwi⟩:=hw
    rcases P1 i oi hoi hi with h1 | ⟨h1,h2,_⟩
    ·exact h1
    ·rcases hwi with hwi | hwi
     ·exact absurd hwi (QG h1).1
     ·exact absurd ht (h2 t hwi)
   ·obtain⟨oi,hoi,hwi⟩:=hw
    rcases C7 k i with hki | hki
    ·obtain⟨h1,h2,h3⟩:=P2 i oi hoi hki hl
     rcases hwi with hwi | hwi
     ·exact absurd hwi (QG h1).2.1
     ·exact absurd ht (h3 t hwi)
    ·have:i=k:=by omega
     subst this;simp only[hkf]at hl;cases hl
  have hEA:memFree ok.op=false→EA (es k) E:=by
   intro hmf;refine hm.e k (by omega) (fun i hi hw=>?_) (fun i hi hw hl=>?_)
   ·obtain⟨oi,hoi,hwi⟩:=hw
    rcases P1 i oi hoi hi with h1 | ⟨h1,_⟩
    ·exact h1
    ·rw[(QG h1).2.2.2.1 hwi]at hmf;cases hmf
   ·obtain⟨oi,hoi,hwi⟩:=hw
    rcases C7 k i with hki | hki
    ·obtain⟨h1,_⟩:=P2 i oi hoi hki hl;rw[(QG h1).2.2.2.2 hwi]at hmf;cases hmf
    ·have:i=k:=by omega
     subst this;simp only[hkf]at hl;cases hl
  rcases hpure rfl with ⟨hhard,_⟩ | ⟨hst,hdn,s,x,x',hx,hxe,hxe',hsk,hes1,hstep⟩ | ⟨hcl,x,hx,hxe,hstep⟩
  ·
   have hbefore:∀ i,i<k→listed.getD i false=true:=by
    intro i hi
    rcases P1 i _ (A4 (by omega)) hi with h1 | ⟨h1,_⟩
    ·exact h1
    ·exact absurd hhard (QG h1).2.1
   have hafter:∀ i,k<i→i<all.length→¬ listed.getD i false=true:=by
    intro i hi hil hli;exact absurd hhard (QG (P2 i _ (A4 hil) hi hli).1).1
   have hE:Inv bs n M O (es k) a w:=h.sub fun t y hy=>.inl (UD hm (by omega) hbefore (fun i hi hil hl=>by
    rcases C7 k i with h1 | h1
    ·exact hafter i h1 hil hl
    ·have:i=k:=by omega
     subst this;simp only[hkf]at hl
     cases hl) hy)
   refine hsem bs M O a w hE _ Q fun a' w' M' O' h'=>ih _ a' w' M' O' (es (k+1)) hsz' hc' ⟨fun t j hj h1 h2 y hy=>?_,fun j hj h1 h2=>?_⟩ hu' h'
   ·have hkj:k<j:=by
     refine A8 fun hle=>?_
     exact h2 k hle ⟨ok,hok',.inl hhard⟩ ((hset k).2 (.inl rfl))
    have hst:=stable hes (t:=t) (i:=k+1) j hkj hj (fun i hi1 hi2 hw=>by
     rcases (hset i).1 (h1 i hi2 hw) with e | e
     ·omega
     ·exact hafter i (by omega) (by omega) e)
    rw[hst]at hy;exact hy
   ·have hkj:k<j:=by
     refine A8 fun hle=>?_
     exact h2 k hle ⟨ok,hok',hhard.1⟩ ((hset k).2 (.inl rfl))
    exact (stableE hes (i:=k+1) j hkj hj (fun i hi1 hi2 hw=>by
     rcases (hset i).1 (h1 i hi2 hw) with e | e
     ·omega
     ·exact hafter i (by omega) (by omega) e)).2
  ·
   have heff:=qaO hst
   have hmf:memFree ok.op=false:=by
    cases hv:memFree ok.op with
    | false=>rfl
    | true=>rw[ZJ hv]at heff;cases heff
   have hea:=hEA hmf;have hxE:look E s=some x:=hea s x hxe hx
   have hkw:∀ t,¬ Wr all k t:=by
    rintro t ⟨o',ho',hw'⟩
    rw[hok']at ho';cases ho'
    rcases hw' with hw' | hw'
    ·rw[hst]at hw';cases hw'.2
    ·rw[hdn]at hw';cases hw'
   refine hstep E hNA hxE bs M O a w h _ Q fun a' w' M' O' h'=>ih _ a' w' M' O' _ hsz' hc' ⟨fun t j hj h1 h2 y hy=>?_,fun j hj h1 h2=>?_⟩ hu' h'
   ·rw[Nq hxE hsk];refine hm.s t j hj (fun i hi hw=>?_) (fun i hi hw hl=>h2 i hi hw ((hset i).2 (.inr hl))) y hy
    rcases (hset i).1 (h1 i hi hw) with e | e
    ·subst e;exact absurd hw (hkw t)
    ·exact e
   ·have hkj:k<j:=by
     refine A8 fun hle=>?_
     exact h2 k hle ⟨ok,hok',heff⟩ ((hset k).2 (.inl rfl))
    have hst2:=(stableE hes (i:=k+1) j hkj hj (fun i hi1 hi2 hw=>by
     rcases (hset i).1 (h1 i hi2 hw) with e | e
     ·omega
     ·obtain⟨oi,hoi,hwi⟩:=hw
      exact (QG (P2 i oi hoi (by omega) e).1).2.2.1 ⟨heff,hwi⟩)).2
    refine hst2.trans ?_;rw[hes1];intro t y hy hl;rw[jq]at hl ⊢;split
    ·rename_i e;rw[if_pos e]at hl;exact hl
    ·rename_i e;rw[if_neg e]at hl;exact hea t y hy hl
  ·
   obtain⟨hes1,hdn,hdent⟩:=QC hx
   have hnoth:¬ (isEff ok.op=true∧isStore ok.op=false):=by
    rintro⟨e1,e2⟩
    rcases hcl with e | e
    ·rw[e]at e1;cases e1
    ·rw[e]at e2;cases e2
   have hmem:memFree ok.op=true∨EA (es k) E:=by
    cases hv:memFree ok.op with
    | true=>exact .inl rfl
    | false=>exact .inr (hEA hv)
   refine hstep E hNA hmem bs M O a w h _ Q fun a' w' M' O' h'=>ih _ a' w' M' O' _ hsz' hc' ⟨fun t j hj h1 h2 y hy=>?_,fun j hj h1 h2=>?_⟩ hu' h'
   ·by_cases hdt:ok.dst=some t
    ·have hkw:Wr all k t:=⟨ok,hok',.inr hdt⟩
     have hkj:k<j:=by
      refine A8 fun hle=>?_
      exact h2 k hle hkw ((hset k).2 (.inl rfl))
     have hst:=stable hes (t:=t) (i:=k+1) j hkj hj (fun i hi1 hi2 hw=>by
      rcases (hset i).1 (h1 i hi2 hw) with e | e
      ·omega
      ·obtain⟨oi,hoi,hwi⟩:=hw;obtain⟨g1,g2,_⟩:=P2 i oi hoi (by omega) e
       rcases hwi with hwi | hwi
       ·exact (QG g1).2.1 hwi
       ·exact g2 t hdt (qfQ hwi))
     rw[hst,hes1,hdt]at hy;unfold lookS at hy ⊢;rw[hdt];simp only[insO]at hy ⊢;rw[jq,if_pos rfl]at hy ⊢;exact hy
    ·unfold lookS;rw[Zl hdt]
     have hkw:¬ Wr all k t:=by
      rintro⟨o',ho',hw'⟩
      rw[hok']at ho';cases ho'
      rcases hw' with hw' | hw'
      ·exact hnoth hw'
      ·exact hdt hw'
     refine hm.s t j hj (fun i hi hw=>?_) (fun i hi hw hl=>h2 i hi hw ((hset i).2 (.inr hl))) y hy
     rcases (hset i).1 (h1 i hi hw) with e | e
     ·subst e;exact absurd hw hkw
     ·exact e
   ·
    have out:∀ {F:Env},EA F E→(∀ d,ok.dst=some d→∀ y,look F d=some y→y.ent=false)→EA F (insO ok.dst x E):=by
     intro F hF hno t y hy hl;by_cases hdt:ok.dst=some t
     ·rw[hno t hdt y hl]at hy;cases hy
     ·rw[Zl hdt];exact hF t y hy hl
    by_cases hke:isEff ok.op=true
    ·have hmf:memFree ok.op=false:=by
      cases hv:memFree ok.op with
      | false=>rfl
      | true=>rw[ZJ hv]at hke;cases hke
     have hkj:k<j:=by
      refine A8 fun hle=>?_
      exact h2 k hle ⟨ok,hok',hke⟩ ((hset k).2 (.inl rfl))
     have hst2:=(stableE hes (i:=k+1) j hkj hj (fun i hi1 hi2 hw=>by
      rcases (hset i).1 (h1 i hi2 hw) with e | e
      ·omega
      ·obtain⟨oi,hoi,hwi⟩:=hw
       exact (QG (P2 i oi hoi (by omega) e).1).2.2.1 ⟨hke,hwi⟩)).2
     exact (hst2.trans (qfl hxe hx).2).trans (out (hEA hmf) hdent)
    ·have hkw:¬ WrE all k:=by
      rintro⟨o',ho',hw'⟩
      rw[hok']at ho';cases ho';exact hke hw'
     have hej:EA (es j) E:=hm.e j hj (fun i hi hw=>by
      rcases (hset i).1 (h1 i hi hw) with e | e
      ·subst e;exact absurd hw hkw
      ·exact e) (fun i hi hw hl=>h2 i hi hw ((hset i).2 (.inr hl)))
     refine out hej fun d hd y hy=>?_
     rcases C7 k j with hkj | hkj
     ·
      have key:∀ i,k+1≤i→i≤j→∀ y,look (es i) d=some y→y.ent=false:=by
       intro i
       induction i with
       | zero=>intro h;omega
       | succ i ihi =>
        intro hi1 hi2 y hy;by_cases hik:k=i
        ·subst hik;rw[hes1,hd]at hy;simp only[insO]at hy;rw[jq,if_pos rfl]at hy;cases hy;exact hxe
        ·have hil:i<all.length:=by omega
         have hoi:all[i]? = some all[i]:=A4 hil
         rcases (hes i _ hoi).2 rfl with ⟨he,_⟩ | ⟨_,_,s',z,z',hz,hze,hze',_,e1,_⟩ | ⟨_,z,hz,hze,_⟩
         ·exfalso
          rcases (hset i).1 (h1 i (by omega) ⟨_,hoi,he.1⟩) with e | e
          ·omega
          ·exact absurd he (QG (P2 i _ hoi (by omega) e).1).2.1
         ·rw[e1,jq]at hy;split at hy
          ·rename_i e;subst e;have:=ihi (by omega) (by omega) z hz;rw[hze]at this;cases this
          ·exact ihi (by omega) (by omega) y hy
         ·obtain⟨e1,_,_⟩:=QC hz;rw[e1]at hy;by_cases hdi:all[i].dst=some d
          ·rw[hdi]at hy;simp only[insO]at hy;rw[jq,if_pos rfl]at hy;cases hy;exact hze
          ·rw[Zl hdi]at hy;exact ihi (by omega) (by omega) y hy
      exact key j (by omega) (C6 _) y hy
     ·
      cases hye:y.ent with
      | false=>rfl
      | true =>
       exfalso
       have key:∀ i,j≤i→i≤k→∃ z,look (es i) d=some z∧z.ent=true:=by
        intro i
        induction i with
        | zero =>
         intro hi1 _
         have:j=0:=by omega
         subst this;exact⟨y,hy,hye⟩
        | succ i ihi =>
         intro hi1 hi2;by_cases hij:j=i+1
         ·subst hij;exact⟨y,hy,hye⟩
         ·have hil:i<all.length:=by omega
          have hoi:all[i]? = some all[i]:=A4 hil;obtain⟨z0,hz0,hze0⟩:=ihi (by omega) (by omega)
          rcases (hes i _ hoi).2 rfl with ⟨he,_⟩ | ⟨_,_,s',z,z',hz,hze,hze',_,e1,_⟩ | ⟨_,z,hz,hze,_⟩
          ·exfalso;refine h2 i (by omega) ⟨_,hoi,he.1⟩ ((hset i).2 (.inr ?_))
           rcases P1 i _ hoi (by omega) with e | ⟨e,_⟩
           ·exact e
           ·exact absurd he (QG e).1
          ·rw[e1,jq];split
           ·exact⟨z',rfl,hze'⟩
           ·exact⟨z0,hz0,hze0⟩
          ·obtain⟨e1,_,e3⟩:=QC hz;rw[e1];by_cases hdi:all[i].dst=some d
           ·have:=e3 d hdi z0 hz0;rw[hze0]at this;cases this
           ·rw[Zl hdi];exact⟨z0,hz0,hze0⟩
       obtain⟨z,hz,hze⟩:=key k hkj (C6 _);have:=hdent d hd z hz;rw[hze]at this;cases this
theorem qcT {bs:Base} {M:Mem} {O:Gh} {a:Act} {w:World} {id:Nat} {ops:Array Oper} {e e':Env} (hmix:P.follows .mixedOrders=true) (hord:orderOk ops=true) (hback:jS ops=true)
  (hc:Chain P n true ops.toList ops.toList e e') (h:Inv bs n M O e a w) {Q:Exit→Act→World→Prop} (hQ:∀ a' w' M' O',Inv bs n M' O' e' a' w'→Q .normal a' w'):(Code.region id ops true).wp P Q a w:=by
 obtain⟨es,h1,h2,h3⟩:=qeB hc rfl;have ea:ops.toList.toArray=ops:=Array.toArray_toList;refine wp_region_any hmix ?_;have hdr:Inv bs n M O e a { w with drawn:=w.drawn+1 }:=h.grown (row:=none) (fun g e=>by cases e) ⟨rfl,rfl,rfl,C6 _,fun _ _ _=>rfl⟩ (Sub.refl M) (fun b o u hu=>h.cons b o u hu) (fun _ _ _ _=>rfl);have:=qgs (P:=P) (n:=n) (all:=ops.toList) (es:=es) (bs:=bs) (Q:=Q) h3 (by rw[ea];exact hord) (by rw[ea];exact hback) (fun a' w' M' O' h'=>hQ a' w' M' O' (by rw[← h2];exact h')) ops.size (Array.replicate ops.size false) a { w with drawn:=w.drawn+1 } M O e (by simp)
  (fun j o ho hj=>by simp[Array.getElem?_replicate]at hj;split at hj <;> simp at hj)
  (by
   rw[← h1]
   exact qdk h3 (fun i hi hS=>by
    have:i<ops.size:=by simpa using hi
    simp[this]at hS))
  (by
   unfold Je;have:=List.countP_le_length (p:=fun i=>!(Array.replicate ops.size false).getD i true) (l:=List.range ops.toList.length)
   simpa using this) hdr
 rw[ea]at this;exact this
end
end Go.AM
namespace Go.AM
open Go.RowKit
section
variable {bs:Base} {n:Nat} {M:Mem} {O:Gh} {env:Env} {a:Act} {w:World} {P:Program}
theorem YS:∀ {l:List Nat},nodupB l=true→l.Nodup
 | [],_=>List.nodup_nil
 | x::l,h=>by
  simp only[nodupB,A1,A6]at h;refine List.nodup_cons.2 ⟨fun hx=>?_,YS h.2⟩;have:=h.1;rw[C8]at this;exact this x hx (by simp)
theorem JN {a b:Nat}:∀ {ρ:List (Nat×Nat)},pairOf a ρ=some b→(a,b)∈ρ
 | [],h=>by cases h
 | (x,y)::r,h=>by
  simp only[pairOf]at h;split at h
  ·rename_i hb;have:=A2 hb;subst this;cases h;exact B6 ..
  ·exact B7 _ (JN h)
theorem Xu {a b:Nat}:∀ {ρ:List (Nat×Nat)},(ρ.map (·.1)).Nodup→(a,b)∈ρ→pairOf a ρ=some b
 | [],_,h=>by cases h
 | (x,y)::r,hn,h=>by
  simp only[List.map_cons,List.nodup_cons]at hn;simp only[pairOf];split
  ·rename_i hb;have:=A2 hb;subst this
   rcases List.mem_cons.1 h with h | h
   ·cases h;rfl
   ·exact absurd (List.mem_map.2 ⟨_,h,rfl⟩) hn.1
  ·rename_i hb
   rcases List.mem_cons.1 h with h | h
   ·cases h;simp at hb
   ·exact Xu hn.2 h
theorem qdd {a:Nat} {ρ:List (Nat×Nat)} (h:pairOf a ρ=none):∀ b,(a,b) ∉ ρ:=by
 intro b hb
 induction ρ with
 | nil=>cases hb
 | cons p r ih =>
  obtain⟨x,y⟩:=p;simp only[pairOf]at h;split at h
  ·cases h
  ·rename_i hne
   rcases List.mem_cons.1 hb with hb | hb
   ·cases hb;simp at hne
   ·exact ih h hb
def swq (ρ:List (Nat×Nat)):List (Nat×Nat):=ρ.map fun p=>(p.2,p.1)
theorem qbO (ρ:List (Nat×Nat)):(swq ρ).map (·.1)=ρ.map (·.2):=by simp[swq]
theorem Un {a b:Nat} {ρ:List (Nat×Nat)}:(b,a)∈swq ρ↔(a,b)∈ρ:=by
 unfold swq;rw[List.mem_map];exact⟨fun ⟨p,hp,e⟩=>by cases e;exact hp,fun h=>⟨_,h,rfl⟩⟩
theorem qhC:∀ {ρ:List (Nat×Nat)},(ρ.map (·.2)).Nodup→∀ {a a' b:Nat},(a,b)∈ρ→(a',b)∈ρ→a=a':=by
 intro ρ hn a a' b h1 h2;have k1:=Xu (ρ:=swq ρ) (by rw[qbO];exact hn) (Un.2 h1);have k2:=Xu (ρ:=swq ρ) (by rw[qbO];exact hn) (Un.2 h2);rw[k1]at k2;exact Option.some.inj k2
theorem qbm {env:Env} {ρ0:List (Nat×Nat)}:∀ {ρ:List (Nat×Nat)} {hp:Env},hpOf ρ0 env ρ=some hp→(∀ b x,look hp b=some x→∃ a x0,(a,b)∈ρ∧look env a=some x0∧x=renE ρ0 x0∧x0.ent=true∧x0.noLabs=true)∧∀ a b,(a,b)∈ρ→∃ x,look env a=some x∧x.ent=true
 | [],hp,h=>by cases h;exact⟨fun b x hx=>by simp[look]at hx,fun a b hh=>by cases hh⟩
 | (a,b)::r,hp,h=>by
  simp only[hpOf]at h;split at h
  case h_2=>cases h
  rename_i x l hx hl;split at h
  case h_2=>cases h
  rename_i hc;cases h;simp only[A1]at hc;obtain⟨h1,h2⟩:=qbm hl;refine⟨fun b' x' hx'=>?_,fun a' b' hh=>?_⟩
  ·simp only[look]at hx';split at hx'
   ·rename_i hb;have:=A2 hb;subst this;cases hx';exact⟨a,x,B6 ..,hx,rfl,hc.1,hc.2⟩
   ·obtain⟨a',x0,k1,k2⟩:=h1 b' x' hx';exact⟨a',x0,B7 _ k1,k2⟩
  ·rcases List.mem_cons.1 hh with hh | hh
   ·cases hh;exact⟨x,hx,hc.1⟩
   ·exact h2 a' b' hh
def Killed (y x:AV):Prop:=(∀ (O:Gh) (M:Mem) (w:World) (t:Nat) (v:Value),Sat O M w t y v→Sat O M w t x v)∧∀ s,x.refs s=true→y.refs s=true
theorem Killed.refl (y:AV):Killed y y:=⟨fun _ _ _ _ _ h=>h,fun _ h=>h⟩
theorem Killed.kill {y x:AV} (h:Killed y x) (s:Nat):Killed y (killRef s x):=⟨fun O M w t v hy=>(h.1 O M w t v hy).kill s,fun s' hs=>h.2 s' (Vu hs)⟩
theorem qbi {hp:Env} {σ:List (Nat×Nat)}:∀ {ρ:List (Nat×Nat)} {env:Env},(ρ.map (·.1)).Nodup→∀ {t:Nat} {x:AV},look (putM σ hp ρ env) t=some x →
  (∃ b x0,pairOf t ρ=some b∧look hp b=some x0∧Killed (renE σ x0) x)∨(∃ y,look env t=some y∧Killed y x∧pairOf t ρ=none∧∀ a b,(a,b)∈ρ→look hp b=none→x.refs a=false)
 | [],env,_,t,x,h=>.inr ⟨x,h,Killed.refl x,rfl,fun a b hh=>by cases hh⟩
 | (a,b)::r,env,hn,t,x,h=>by
  simp only[List.map_cons,List.nodup_cons]at hn;simp only[putM]at h
  have hne:∀ b',pairOf t r=some b'→t≠a:=fun b' hb e=>by
   subst e;exact hn.1 (List.mem_map.2 ⟨_,JN hb,rfl⟩)
  have hpo:t≠a→pairOf t ((a,b)::r)=pairOf t r:=fun hta=>by
   simp only[pairOf]
   have:A0 a t=false:=by rw[Bool.eq_false_iff];intro hh;exact hta (A2 hh).symm
   rw[this]
  rcases qbi hn.2 h with ⟨b',x0,k1,k2,k3⟩ | ⟨y,k1,k0,k2,k3⟩
  ·exact .inl ⟨b',x0,by rw[hpo (hne b' k1)];exact k1,k2,k3⟩
  ·cases hb:look hp b with
   | some x0 =>
    rw[hb]at k1;simp only at k1;rw[jq]at k1;split at k1
    ·rename_i e;subst e;cases k1;exact .inl ⟨b,x0,by simp[pairOf],hb,k0⟩
    ·rename_i e;refine .inr ⟨y,k1,k0,by rw[hpo e];exact k2,fun a' b' hh hb'=>?_⟩
     rcases List.mem_cons.1 hh with hh | hh
     ·cases hh;rw[hb]at hb';cases hb'
     ·exact k3 a' b' hh hb'
   | none =>
    rw[hb]at k1;simp only at k1;obtain⟨e,z,hz,rfl⟩:=Yd k1;refine .inr ⟨z,hz,⟨fun O M w t v hv=>k0.1 O M w t v (hv.kill a),fun s hs=>Vu (k0.2 s hs)⟩,by rw[hpo e];exact k2,fun a' b' hh hb'=>?_⟩
    rcases List.mem_cons.1 hh with hh | hh
    ·cases hh
     cases hx:x.refs a with
     | false=>rfl
     | true =>
      have:=k0.2 a hx;rw[Zf]at this;cases this
    ·exact k3 a' b' hh hb'
theorem qdF {hp:Env} {ρ:List (Nat×Nat)} {id a:Nat} (h:pairOf id (backOf hp ρ)=some a):(a,id)∈ρ∧∃ x,look hp id=some x:=by
 have h1:=JN h;unfold backOf at h1;rw[List.mem_filter]at h1;obtain⟨h2,h3⟩:=h1;obtain⟨p,hp1,hp2⟩:=List.mem_map.1 h2;cases hp2;exact⟨hp1,Option.isSome_iff_exists.1 h3⟩
theorem SbOk.ren {O':Gh} {s t k off m:Nat} {v:Value} (h:SbOk O s k off m v) (h1:O'.o true t=O.o true s) (h2:O'.len t=O.len s) (h3:O'.siz t=O.siz s):SbOk O' t k off m v:=by
 unfold SbOk at *;rw[h1,h2,h3];exact h
theorem CellR.ren {O':Gh} {s t:Nat} {c:AV} {u:Value} {τ:List (Nat×Nat)} (h:CellR O M s c u) (h1:O'.o true t=O.o true s)
  (hτ:∀ id b,pairOf id τ=some b→O'.o true b=O.o true id∧O'.len b=O.len id∧O'.siz b=O.siz id):CellR O' M t (renCell τ c) u:=by
 have h0:=h.one;unfold renCell;split
 ·rename_i id e k off m;split
  ·rename_i b hb;obtain⟨q1,q2,q3⟩:=hτ id b hb;exact SbOk.ren h q1 q2 q3
  ·exact h0
 ·rename_i kd id;split
  ·rename_i b hb;obtain⟨r1,g,r2,r3⟩:=h;exact⟨r1,g,by rw[(hτ id b hb).1];exact r2,r3⟩
  ·exact h0
 ·rename_i hn1 hn2;unfold CellR at *
  cases c with
  | sb id e k off m=>exact absurd rfl (hn1 id e k off m)
  | mb kd id=>exact absurd rfl (hn2 kd id)
  | slf=>rw[h1];exact h
  | top=>exact h
  | _=>exact h
theorem Sat.ren {O':Gh} {s t:Nat} {x:AV} {v v':Value} {τ:List (Nat×Nat)} (h:Sat O M w s x v) (hx:x.ent=true) (hn:x.noLabs=true) (h1:O'.o true t=O.o true s) (h2:O'.len t=O.len s) (h3:O'.siz t=O.siz s)
  (hb:∀ g,O true s=some g→(∃ cs,x=.box cs∨x=.bxg cs)→v'=.pointer (some ⟨g,0,none⟩)∨1000000≤t)
  (hτ:∀ id b,pairOf id τ=some b→O'.o true b=O.o true id∧O'.len b=O.len id∧O'.siz b=O.siz id):Sat O' M w t (renE τ x) v':=by
 cases x with
 | box cs =>
  obtain⟨g,cur,el,q1,q2,q3,q4,q5,q6⟩:=h;refine⟨g,cur,el,hb g q2 ⟨cs,.inl rfl⟩,by rw[h1];exact q2,q3,q4,q5,fun j c u hc hu=>?_⟩;obtain⟨k1,k2,k3⟩:=q6 j c u hc hu;refine⟨k1,k2,?_⟩;simp only[AV.noLabs,B9]at hn;have:=hn c (D0 hc)
  cases c with
  | lst e k l xs=>cases l with
   | none=>trivial
   | some l=>simp[AV.lab?]at this
  | _=>trivial
 | obj e k xs =>
  obtain⟨q0,q1,q2,q3⟩:=h;refine⟨q0,q1,by rw[h2];exact q2,?_⟩;rw[h1,h3];exact q3
 | hob kd ks vs =>
  obtain⟨g,q1,q2,q3⟩:=h;exact⟨g,by rw[h1];exact q1,q2,q3⟩
 | bxg cs =>
  obtain⟨g,cur,el,q1,q2,q3,q4,q5,q6⟩:=h;refine⟨g,cur,el,hb g q2 ⟨cs,.inr rfl⟩,by rw[h1];exact q2,q3,by simpa using q4,q5,fun j c u hc hu=>?_⟩;rw[A5]at hc
  cases hz:cs[j]? with
  | none=>rw[hz]at hc;cases hc
  | some z =>
   rw[hz]at hc;cases hc;exact (q6 j z u hz hu).ren h1 hτ
 | _=>cases hx
def ghIn (O:Gh) (ρ:List (Nat×Nat)):Gh :=
 ⟨fun i b=>if i=true then (match pairOf b (swq ρ) with | some a=>O.o true a | none=>none) else none,fun b=>match pairOf b (swq ρ) with | some a=>O.len a | none=>0,fun b=>match pairOf b (swq ρ) with | some a=>O.siz a | none=>0⟩
def ghOut (O O':Gh) (hp:Env) (ρ:List (Nat×Nat)):Gh :=
 ⟨fun i c=>if i=true then (match pairOf c ρ with | some b=>(match look hp b with | some _=>O'.o true b | none=>none) | none=>O.o true c) else O.o false c,fun c=>match pairOf c ρ with | some b=>O'.len b | none=>O.len c,fun c=>match pairOf c ρ with | some b=>O'.siz b | none=>O.siz c⟩
theorem qdu (O O':Gh) (hp:Env) (ρ:List (Nat×Nat)) (c:Nat):(ghOut O O' hp ρ).o false c=O.o false c:=by simp[ghOut]
theorem qew {O O':Gh} {hp:Env} {ρ:List (Nat×Nat)} {c:Nat} (h:pairOf c ρ=none):Gh.Eq1 O (ghOut O O' hp ρ) c:=by simp[Gh.Eq1,ghOut,h]
theorem qev {O O':Gh} {hp:Env} {ρ:List (Nat×Nat)} {c b:Nat} {x:AV} (h:pairOf c ρ=some b) (hx:look hp b=some x):(ghOut O O' hp ρ).o true c=O'.o true b∧(ghOut O O' hp ρ).len c=O'.len b∧(ghOut O O' hp ρ).siz c=O'.siz b:=by simp[ghOut,h,hx]
theorem qdP {all:List Oper} {o:Oper} {e e1:Env} {f:Nat} {args:List AV} {hp hp':Env} {r:AV} {ρ nw:List (Nat×Nat)} (hw:awanted all o e=some true) (hc:NJ P o e ρ=some (f,args,hp)) (hr:CallMOk P f args hp r hp') (hent:∀ id x,look hp' id=some x→x.ent=true) (he:Uc n o.dst ρ nw r hp' e=some e1):StepSem P n all o e e1:=by
 intro bs M O a w h K Q hK;rw[jP h hw];simp only[if_true];unfold NJ at hc;split at hc
 case h_2=>cases hc
 rename_i fo as ats ho;split at hc
 case h_2=>cases hc
 rename_i g caps l hf hl;split at hc
 case h_2=>cases hc
 rename_i fn hfn;split at hc
 case h_2=>cases hc
 rename_i l' hp0 hb hl' hhp;cases hc;simp only[A1,B9]at hb;obtain⟨⟨⟨⟨hb1,hb2⟩,hn1⟩,hn2⟩,hids⟩:=hb;have hn1:=YS hn1;have hn2:=YS hn2;obtain⟨us,cvs,h1,h2,h3,h4,h5⟩:=VZ h ho hf hl hfn hb1 hb2;obtain⟨hp1,hp2⟩:=qbm hhp;obtain⟨Oc,hOc⟩:∃ Oc,Oc=ghIn O ρ:=⟨_,rfl⟩
 have F1:∀ x b,(x,b)∈ρ→Oc.o true b=O.o true x∧Oc.len b=O.len x∧Oc.siz b=O.siz x:=by
  intro x b hm;have:=Xu (ρ:=swq ρ) (by rw[qbO];exact hn2) (Un.2 hm);rw[hOc];simp[ghIn,this]
 have F2:∀ i c g,Oc.o i c=some g→i=true∧∃ x,(x,c)∈ρ∧O.o true x=some g:=by
  intro i c g hg;rw[hOc]at hg;simp only[ghIn]at hg;split at hg
  ·rename_i hi;split at hg
   ·rename_i x hx;exact⟨hi,x,Un.1 (JN hx),hg⟩
   ·cases hg
  ·cases hg
 have hOf:∀ c,Oc.o false c=none:=fun c=>by
  cases hh:Oc.o false c with
  | none=>rfl
  | some g=>cases (F2 false c g hh).1
 have hsp:=Jk hl'
 have hlen:l.length=l'.length:=by simpa using congrArg List.length hsp
 unfold Oper.wp;rw[h1];show Calls P f (us++cvs).toArray w _;refine (hr M Oc w (us++cvs) h.glob h.cons (by simp;omega) (fun i c g hg=>?_) (fun c c' g hg hg'=>?_) (Ue (by omega) (fun j c v hc hv=>?_) fun j c v hc hv=>?_) (fun id x hx=>?_)).mono ?_
 ·obtain⟨hi,x,_,hx⟩:=F2 i c g hg;exact⟨hi,(h.own _ _ _ hx).2⟩
 ·obtain⟨_,x,hm,hx⟩:=F2 _ c g hg;obtain⟨_,x',hm',hx'⟩:=F2 _ c' g hg';have:=(h.inj _ _ _ _ g hx hx').2;subst this;have k1:=Xu hn1 hm;have k2:=Xu hn1 hm';rw[k1]at k2;exact Option.some.inj k2
 ·have hjj:=congrArg (fun q=>q[j]?) hsp;simp only[A5,hc,Option.map_some]at hjj
  cases hz:l[j]? with
  | none=>rw[hz]at hjj;cases hjj
  | some z =>
   rw[hz]at hjj;have hz1:=h3 j z v hz hv;have hz2:renArg ρ z=some c:=Option.some.inj hjj
   cases z with
   | sb id e k off m =>
    simp only[renArg]at hz2;split at hz2
    case h_2=>cases hz2
    rename_i b hb;cases hz2;obtain⟨k1,k2,k3⟩:=F1 id b (JN hb);exact SbOk.ren hz1 k1 k2 k3
   | pb id off =>
    simp only[renArg]at hz2;split at hz2
    case h_2=>cases hz2
    rename_i b hb;cases hz2;obtain⟨g',q1,q2⟩:=hz1;exact⟨g',q1,by rw[(F1 id b (JN hb)).1];exact q2⟩
   | tpr id e k off m rest=>cases hz2
   | box cs=>cases hz2
   | obj e k xs=>cases hz2
   | pe s k j o=>cases hz2
   | hob kd ks vs=>cases hz2
   | mb kd id =>
    cases kd with
    | succ kd=>simp[renArg]at hz2
    | zero =>
     simp only[renArg]at hz2;split at hz2
     case h_2=>cases hz2
     rename_i b hb;cases hz2;obtain⟨g',q1,q2⟩:=hz1;exact⟨g',by rw[(F1 id b (JN hb)).1];exact q1,q2⟩
   | bxg cs=>cases hz2
   | slf=>cases hz2
   | agr cs=>cases hz2
   | clb f caps=>cases hz2
   | _ =>
    simp only[renArg,Option.some.injEq]at hz2;subst hz2;exact JI (hz1.1.strip).strip (Ya _)
 ·exact JI (h5 j c v hc hv).strip (Ya c)
 ·obtain⟨x',x0,k1,k2,rfl,k3,k4⟩:=hp1 id x hx;obtain⟨q1,q2,q3⟩:=F1 x' id k1;have hid:=hids _ k1;simp only[A1]at hid
  exact (h.slots x' x0 k2).ren k3 k4 q1 q2 q3 (fun g _ _=>.inr (by have:=A3 hid.1;omega)) fun i b hb=>F1 i b (JN hb)
 rintro ed w' ⟨v,M',O',rfl,hbel,hsub,hC,hMo,hOo,hOi,hfix,hR,hsat⟩
 unfold Uc at he;split at he
 case h_2=>cases he
 rename_i r' hb hr';simp only[A1,B9]at hb;obtain⟨⟨⟨hm1,hm2⟩,hρ⟩,hnw⟩:=hb;have hm1:=YS hm1;have hm2:=YS hm2;obtain⟨Os,hOs⟩:∃ Os,Os=ghOut O O' hp' (ρ++nw):=⟨_,rfl⟩
 have Ff:∀ c,Os.o false c=O.o false c:=fun c=>by rw[hOs];exact qdu ..
 have Fn:∀ c,pairOf c (ρ++nw)=none→Gh.Eq1 O Os c:=fun c hc=>by rw[hOs];exact qew hc
 have Fs:∀ c b x,pairOf c (ρ++nw)=some b→look hp' b=some x→Os.o true c=O'.o true b∧Os.len c=O'.len b∧Os.siz c=O'.siz b:=fun c b x hc hx=>by rw[hOs];exact qev hc hx
 have Fp:∀ c b x,(c,b)∈ρ→look hp' b=some x→Gh.Eq1 Oc O' b:=by
  intro c b x hm hx;have:=hρ _ hm;simp only[hx,A1,A6]at this;have hb2:=hids _ hm;simp only[A1]at hb2;have h2m:=A3 hb2.1;have hus:=this.1.1;unfold usable at hus;simp only[Bool.or_eq_false_iff]at hus;refine hfix b h2m ?_;have hus2:Nat.ble 3000000 b=false:=hus.2
  refine A8 fun hle=>?_
  have h3:=D4 hle;rw[h3]at hus2;cases hus2
 have Fk:∀ c b x,(c,b)∈ρ→look hp' b=some x→Gh.Eq1 O Os c:=by
  intro c b x hm hx;obtain⟨k1,k2,k3⟩:=Fs c b x (Xu hm1 (D5 _ hm)) hx;obtain⟨q1,q2,q3⟩:=Fp c b x hm hx;obtain⟨r1,r2,r3⟩:=F1 c b hm;exact⟨k1.trans (q1.trans r1),k2.trans (q2.trans r2),k3.trans (q3.trans r3)⟩
 have hDlt:∀ k,bs.D k→k<w.heap.size:=fun k hk=>by have:=h.hB k hk;have:=h.below.size;omega
 have hDfp:∀ k,bs.D k→∀ c,Oc.o true c≠some k:=fun k hk c hh=>by
  obtain⟨_,x,_,hx⟩:=F2 _ c k hh;exact (h.own _ _ _ hx).1 hk
 have hout:∀ i c g,O.o i c=some g→(i=true→pairOf c (ρ++nw)=none)→g<w.heap.size∧∀ c',Oc.o true c'≠some g:=by
  intro i c g hg hi;refine⟨(h.own _ _ _ hg).2,fun c' hh=>?_⟩;obtain⟨_,x,hm,hx⟩:=F2 _ c' g hh;obtain⟨e1,e2⟩:=h.inj _ _ _ _ g hg hx;subst e2;exact qdd (hi e1) c' (D5 _ hm)
 have hinv:Inv bs n M' Os (putM (backOf hp' (ρ++nw)) hp' (ρ++nw) e) a w':=by
  refine⟨h.size,h.defers,h.below.step hbel fun k hk=>⟨hDlt k hk,hDfp k hk⟩,h.hB,hC,h.ext.trans hsub,fun b o hb=>?_,fun i c g hg=>?_,fun i i' c c' g hg hg'=>?_,⟨h.fix.1,fun c k1 k2=>?_⟩,fun t x hx=>?_⟩
  ·rw[hMo b o (hDlt b hb) (hDfp b hb)];exact h.old b o hb
  ·
   cases i with
   | false =>
    rw[Ff]at hg;exact⟨(h.own _ _ _ hg).1,Nat.lt_of_lt_of_le (h.own _ _ _ hg).2 hbel.size⟩
   | true =>
    cases hp:pairOf c (ρ++nw) with
    | none =>
     rw[(Fn c hp).1]at hg;exact⟨(h.own _ _ _ hg).1,Nat.lt_of_lt_of_le (h.own _ _ _ hg).2 hbel.size⟩
    | some b =>
     rw[hOs]at hg;simp only[ghOut,hp,if_true]at hg;split at hg
     case h_2=>cases hg
     obtain⟨q1,q2⟩:=hOo _ _ _ hg;refine⟨fun hD=>?_,q1⟩
     rcases q2 with q2 | ⟨c',q2⟩
     ·have:=hDlt g hD;omega
     ·exact hDfp g hD c' q2
  ·
   have key:∀ i c g,Os.o i c=some g→(i=true∧∃ b,(c,b)∈ρ++nw∧O'.o true b=some g∧pairOf c (ρ++nw)=some b)∨(O.o i c=some g∧(i=true→pairOf c (ρ++nw)=none)):=by
    intro i c g hg
    cases i with
    | false=>rw[Ff]at hg;exact .inr ⟨hg,fun e=>by cases e⟩
    | true =>
     cases hp:pairOf c (ρ++nw) with
     | none=>rw[(Fn c hp).1]at hg;exact .inr ⟨hg,fun _=>rfl⟩
     | some b =>
      rw[hOs]at hg;simp only[ghOut,hp,if_true]at hg;split at hg
      case h_2=>cases hg
      exact .inl ⟨rfl,b,JN hp,hg,rfl⟩
   have mixed:∀ i c b c',(c',b)∈ρ++nw→O'.o true b=some g→O.o i c=some g→(i=true→pairOf c (ρ++nw)=none)→False:=by
    intro i c b c' hm h1 h2 h3;obtain⟨q1,q2⟩:=hout i c g h2 h3
    rcases (hOo _ _ _ h1).2 with k | ⟨c2,k⟩
    ·omega
    ·exact q2 c2 k
   rcases key i c g hg with ⟨rfl,b,m1,o1,_⟩ | ⟨o1,m1⟩ <;> rcases key i' c' g hg' with ⟨rfl,b',m2,o2,_⟩ | ⟨o2,m2⟩
   ·have:=(hOi _ _ _ _ g o1 o2).2;subst this;exact⟨rfl,qhC hm2 m1 m2⟩
   ·exact (mixed i' c' b c m1 o1 o2 m2).elim
   ·exact (mixed i c b' c' m2 o2 o1 m1).elim
   ·exact h.inj _ _ _ _ g o1 o2
  ·
   obtain⟨e1,e2,e3⟩:=h.fix.2 c k1 k2
   have fin:Gh.Eq1 O Os c→Gh.Eq1 bs.O0 Os c:=fun ⟨f1,f2,f3⟩=>⟨f1.trans e1,f2.trans e2,f3.trans e3⟩
   cases hp:pairOf c (ρ++nw) with
   | none=>exact fin (Fn c hp)
   | some b =>
    rcases List.mem_append.1 (JN hp) with hm | hm
    ·cases hx:look hp' b with
     | some x=>exact fin (Fk c b x hm hx)
     | none =>
      exfalso;have:=hρ _ hm;simp only[hx]at this;have h2:=hids _ hm;simp only[A1,B5,A6]at h2
      rcases h2.2 with h3 | h3
      ·exact YP h3 ⟨k1,k2⟩
      ·rw[this]at h3;cases h3
    ·exfalso;have:=hnw _ hm;simp only[A1]at this;have:c<2000000:=A3 this.1.2;omega
  ·
   rcases qbi hm1 hx with ⟨b,x,q1,q2,qk⟩ | ⟨y,q1,qk,q2,q3⟩
   ·obtain⟨f1,f2,f3⟩:=Fs t b x q1 q2;have hxe:=hent b x q2;have hmem:=JN q1
    have hnl:x.noLabs=true:=by
     rcases List.mem_append.1 hmem with hm | hm
     ·have:=hρ _ hm;simp only[q2,A1]at this;exact this.1.2
     ·have:=hnw _ hm;simp only[A1,q2]at this;exact this.2
    refine qk.1 _ _ _ _ _ ((hsat b x q2).ren hxe hnl f1 f2 f3 (fun g hg hbox=>?_) fun i c hic=>by
     obtain⟨m1,x1,hx1⟩:=qdF hic
     exact Fs c i x1 (Xu hm1 m1) hx1)
    rcases List.mem_append.1 hmem with hm | hm
    ·have:=hρ _ hm;simp only[q2,A1,B5]at this
     rcases this.2 with h2 | h2
     ·exact .inr (A3 h2)
     ·have hown:∀ g0,O true t=some g0→g0=g:=by
       intro g0 r2;have e1:=(Fp t b _ hm q2).1;rw[(F1 t b hm).1,hg,r2]at e1;exact (Option.some.inj e1).symm
      have hvv:∃ g0,(a.tmps.getD t undef=.pointer (some ⟨g0,0,none⟩)∨1000000≤t)∧O true t=some g0:=by
       cases hl0:look e t with
       | none=>rw[hl0]at h2;cases h2
       | some y0 =>
        rw[hl0]at h2
        cases y0 with
        | box cs0=>obtain⟨g0,cur0,el0,r1,r2,_⟩:=h.slots t _ hl0;exact⟨g0,r1,r2⟩
        | bxg cs0=>obtain⟨g0,cur0,el0,r1,r2,_⟩:=h.slots t _ hl0;exact⟨g0,r1,r2⟩
        | _=>cases h2
      obtain⟨g0,r1,r2⟩:=hvv;rw[← hown g0 r2];exact r1
    ·have:=hnw _ hm;simp only[A1]at this;exact .inr (A3 this.1.1.2)
   ·have hrow:∀ i c g,O.o i c=some g→(i=true→pairOf c (ρ++nw)=none)→w'.heap[g]? = w.heap[g]?∧∀ o,M g o=none→M' g o=none:=by
     intro i c g hg hi;obtain⟨k1,k2⟩:=hout i c g hg hi;exact⟨hbel.block g ⟨k1,k2⟩,fun o hm=>by rw[hMo g o k1 k2];exact hm⟩
    refine (qk.1 _ _ _ _ _ (h.slots t y q1)).change2 hsub (fun _=>Fn t q2) (fun s hs=>?_) (fun g _ hg=>hrow true t g hg fun _=>q2) fun c g hg=>⟨by rw[Ff];exact hg,hrow false c g hg fun e=>by cases e⟩
    cases hps:pairOf s (ρ++nw) with
    | none=>exact Fn s hps
    | some b =>
     have hmem:=JN hps
     rcases List.mem_append.1 hmem with hm | hm
     ·cases hxb:look hp' b with
      | some x'=>exact Fk s b x' hm hxb
      | none=>rw[q3 s b hmem hxb]at hs;cases hs
     ·exfalso;have:=hnw _ hm;simp only[A1]at this;have hs:=qk.2 s hs;rw[(JP this.1.1.1).2 t y q1]at hs;cases hs
 refine hK _ _ _ _ (Yr hinv ?_ he)
 cases r with
 | sb id e' k off m =>
  simp only[renRes]at hr';split at hr'
  case h_2=>cases hr'
  rename_i c x hc hx;cases hr';have hm:(c,id)∈ρ++nw:=Un.1 (JN hc);obtain⟨f1,f2,f3⟩:=Fs c id x (Xu hm1 hm) hx;exact SbOk.ren hR f1 f2 f3
 | box cs=>cases hr'
 | obj e' k xs=>cases hr'
 | pb s off=>cases hr'
 | pe s k j off=>cases hr'
 | hob kd ks vs=>cases hr'
 | mb kd s=>cases hr'
 | bxg cs=>cases hr'
 | slf=>cases hr'
 | agr cs=>cases hr'
 | clb f caps=>cases hr'
 | tpr id e' k off m rest =>
  simp only[renRes]at hr';split at hr'
  case h_2=>cases hr'
  rename_i c x hc hx;cases hr';have hm:(c,id)∈ρ++nw:=Un.1 (JN hc);obtain⟨f1,f2,f3⟩:=Fs c id x (Xu hm1 hm) hx;obtain⟨u,us,e1,e2,e3,e4⟩:=hR;exact⟨u,us,e1,SbOk.ren e2 f1 f2 f3,e3,e4⟩
 | _ =>
  simp only[renRes,Option.some.injEq]at hr';subst hr';exact JI hR.1.strip (Ya _)
end
end Go.AM
namespace Go.AM
open Go.RowKit
section
variable {bs:Base} {n:Nat} {M:Mem} {O:Gh} {env:Env} {a:Act} {w:World} {P:Program}
theorem Inv.setVal (h:Inv bs n M O env a w) {t:Nat} {x:AV} (hx:Sat O M w t x (a.tmps.getD t undef)):Inv bs n M O (ins t x env) a w:=by
 refine⟨h.size,h.defers,h.below,h.hB,h.cons,h.ext,h.old,h.own,h.inj,h.fix,fun s y hy=>?_⟩;rw[jq]at hy;split at hy
 ·rename_i e;subst e;cases hy;exact hx
 ·exact h.slots s y hy
theorem qaL {s:Nat} (h:s<2000000):usable s=true:=by
 unfold usable;have:Nat.blt s 2000000=true:=D4 h;rw[this];rfl
theorem Inv.nilObj (h:Inv bs n M O env a w) (q:Nat×Nat×Nat×Nat):∃ O',Inv bs n M O' (nilObj env q) a w:=by
 obtain⟨t,e,k,id⟩:=q;unfold AM.nilObj;simp only;split
 ·rename_i hl hc;simp only[A1]at hc;obtain⟨⟨⟨hc,hc1⟩,hc2⟩,hc3⟩:=hc;have hc1:=A3 hc1;have hc2:id<2000000:=A3 hc2;have hc3:0<k:=A3 hc3;obtain⟨c1,c2⟩:=JP hc
  have hne:id≠t:=fun e=>c1 .nils (by rw[e];exact hl)
  have hv:a.tmps.getD t undef=.slice none 0 0:=by
   have:=(h.slots t _ hl).1;generalize a.tmps.getD t undef=v at this;cases this;rfl
  have h1:=h.claim (t:=id) (x:=.obj e k []) c2 hc2 none 0 0 (fun g e=>by cases e) ⟨hc3,by simp,by simp[setR],.inl ⟨rfl,by simp[Qm]⟩⟩;have h2:=h1.setVal (t:=t) (x:=.sb id e k 0 0) ⟨by simp,.inl ⟨rfl,none,hv⟩⟩;exact⟨_,h2.looks fun s=>Yi hne env s⟩
 ·exact⟨O,h⟩
theorem CellR.killC {O':Gh} {M':Mem} {s t:Nat} {c:AV} {u:Value} (h:CellR O M t c u) (hs:Sub M M') (he:O'.o true t=O.o true t) (hr:∀ id,c.cref id=true→id≠s→Gh.Eq1 O O' id):CellR O' M' t (killC s c) u:=by
 unfold AM.killC;split
 ·exact h.one
 ·rename_i hc
  exact h.mono hs (fun _=>he) fun id hid=>hr id hid fun e=>by subst e;rw[hc]at hid;cases hid
theorem CellR.renC {O':Gh} {s s' t:Nat} {c:AV} {u:Value} (h:CellR O M t c u) (h1:O'.o true s'=O.o true s) (h2:O'.len s'=O.len s) (h3:O'.siz s'=O.siz s) (he:O'.o true t=O.o true t)
  (hr:∀ id,c.cref id=true→id≠s→Gh.Eq1 O O' id):CellR O' M t (renC s s' c) u:=by
 unfold AM.renC;split
 ·rename_i id e k off m;split
  ·rename_i hb;have:=A2 hb;subst this;exact SbOk.ren h h1 h2 h3
  ·rename_i hb
   exact h.mono (Sub.refl M) (fun e=>by cases e) fun id' hid=>by
    have e1:id=id':=A2 hid;subst e1
    exact hr id hid fun e=>by subst e;simp at hb
 ·exact h.killC (Sub.refl M) he hr
theorem CellR.thawC {O':Gh} {M':Mem} {s t k:Nat} {xs:List AV} {c:AV} {u:Value} (h:CellR O M t c u) (hs:Sub M M') (snap:∀ (e' off m:Nat) (v:Value),SbOk O s k off m v→R M' (.lst e' k none (snapA off m xs)) v) (he:O'.o true t=O.o true t)
  (hr:∀ id,c.cref id=true→id≠s→Gh.Eq1 O O' id):CellR O' M' t (thawC s k xs c) u:=by
 unfold AM.thawC;split
 ·rename_i id e k' off m;split
  ·rename_i hb;have:=A2 hb;subst this;split
   ·rename_i hk;have:=A2 hk;subst this;exact⟨rfl,snap e off m u h⟩
   ·exact h.one
  ·rename_i hb
   exact h.mono hs (fun e=>by cases e) fun id' hid=>by
    have e1:id=id':=A2 hid;subst e1
    exact hr id hid fun e=>by subst e;simp at hb
 ·exact h.killC hs he hr
theorem CellR.thawCM {O':Gh} {M':Mem} {s t:Nat} {ks vs:List AV} {c:AV} {u:Value} (h:CellR O M t c u) (hs:Sub M M') (snap:∀ g,O true s=some g→R M' (.mpv ks vs) (.map (some g))) (he:O'.o true t=O.o true t)
  (hr:∀ id,c.cref id=true→id≠s→Gh.Eq1 O O' id):CellR O' M' t (thawCM s ks vs c) u:=by
 unfold AM.thawCM;split
 ·rename_i kd id;split
  ·rename_i hb;have:=A2 hb;subst this;split
   ·obtain⟨_,g,h1,h2⟩:=h;rw[h2];exact⟨rfl,snap g h1⟩
   ·exact h.one
  ·rename_i hb
   exact h.mono hs (fun e=>by cases e) fun id' hid=>by
    have e1:id=id':=A2 hid;subst e1
    exact hr id hid fun e=>by subst e;simp at hb
 ·exact h.killC hs he hr
theorem CellR.move0 {t t':Nat} {c:AV} {u:Value} (h:CellR O M t c u) (hn:c≠.slf):CellR O M t' c u:=by
 cases c with
 | slf=>exact absurd rfl hn
 | _=>exact h
theorem UM {x:AV} {v:Value} {s:Nat} (h:OwnV O M w x v):OwnV O M w (AM.killC s x) v:=by
 unfold AM.killC;split
 ·trivial
 ·exact h
theorem Ha {s:Nat} {x:AV} (h:x≠.slf):AM.killC s x≠.slf:=by
 unfold AM.killC;split
 ·exact fun e=>by cases e
 ·exact h
theorem qfK {x:AV} {v:Value} {s s':Nat} (h:OwnV O M w x v):OwnV O M w (AM.renC s s' x) v:=by
 unfold AM.renC;split
 ·split <;> trivial
 ·exact UM h
theorem qcS {s s':Nat} {x:AV} (h:x≠.slf):AM.renC s s' x≠.slf:=by
 unfold AM.renC;split
 ·split <;> exact fun e=>by cases e
 ·exact Ha h
theorem qej {x:AV} {v:Value} {s k:Nat} {xs:List AV} (h:OwnV O M w x v):OwnV O M w (AM.thawC s k xs x) v:=by
 unfold AM.thawC;split
 ·split
  ·split <;> trivial
  ·trivial
 ·exact UM h
theorem qaM {s k:Nat} {xs:List AV} {x:AV} (h:x≠.slf):AM.thawC s k xs x≠.slf:=by
 unfold AM.thawC;split
 ·split
  ·split <;> exact fun e=>by cases e
  ·exact fun e=>by cases e
 ·exact Ha h
theorem qde {x:AV} {v:Value} {s:Nat} {ks vs:List AV} (h:OwnV O M w x v):OwnV O M w (AM.thawCM s ks vs x) v:=by
 unfold AM.thawCM;split
 ·split
  ·split <;> trivial
  ·trivial
 ·exact UM h
theorem Dp {s:Nat} {ks vs:List AV} {x:AV} (h:x≠.slf):AM.thawCM s ks vs x≠.slf:=by
 unfold AM.thawCM;split
 ·split
  ·split <;> exact fun e=>by cases e
  ·exact fun e=>by cases e
 ·exact Ha h
theorem qcR (s s':Nat) (y:AV):(y.refs s=false∧renId s s' y=y)∨(∃ o,y=.pb s o∧renId s s' y=.pb s' o)∨(∃ e k off m,y=.sb s e k off m∧renId s s' y=.sb s' e k off m)∨(∃ k j o,y=.pe s k j o∧renId s s' y=.pe s' k j o)∨renId s s' y=.top∨(∃ cs,y=.bxg cs∧renId s s' y=.bxg (cs.map (renC s s')))∨(∃ cs,y=.agr cs∧renId s s' y=.agr (cs.map (renC s s'))):=by
 cases y with
 | pb t o =>
  by_cases h:A0 t s=true
  ·have:=A2 h;subst this;exact .inr (.inl ⟨o,rfl,by simp[renId]⟩)
  ·have h':A0 t s=false:=Bool.eq_false_iff.2 h;exact .inl ⟨h',by simp only[renId];rw[h']⟩
 | sb t e k off m =>
  by_cases h:A0 t s=true
  ·have:=A2 h;subst this;exact .inr (.inr (.inl ⟨e,k,off,m,rfl,by simp[renId]⟩))
  ·have h':A0 t s=false:=Bool.eq_false_iff.2 h;exact .inl ⟨h',by simp only[renId];rw[h']⟩
 | pe t k j o =>
  by_cases h:A0 t s=true
  ·have:=A2 h;subst this;exact .inr (.inr (.inr (.inl ⟨k,j,o,rfl,by simp[renId]⟩)))
  ·have h':A0 t s=false:=Bool.eq_false_iff.2 h;exact .inl ⟨h',by simp only[renId];rw[h']⟩
 | tpr t e k off m rest =>
  by_cases h:A0 t s=true
  ·exact .inr (.inr (.inr (.inr (.inl (by simp only[renId];rw[h])))))
  ·have h':A0 t s=false:=Bool.eq_false_iff.2 h;exact .inl ⟨h',by simp only[renId];rw[h']⟩
 | mb kd t =>
  by_cases h:A0 t s=true
  ·exact .inr (.inr (.inr (.inr (.inl (by simp only[renId];rw[h])))))
  ·have h':A0 t s=false:=Bool.eq_false_iff.2 h;exact .inl ⟨h',by simp only[renId];rw[h']⟩
 | bxg cs=>exact .inr (.inr (.inr (.inr (.inr (.inl ⟨cs,rfl,rfl⟩)))))
 | agr cs=>exact .inr (.inr (.inr (.inr (.inr (.inr ⟨cs,rfl,rfl⟩)))))
 | clb f caps =>
  by_cases h:(AV.clb f caps).refs s=true
  ·exact .inr (.inr (.inr (.inr (.inl (by simp only[renId];rw[h])))))
  ·have h':(AV.clb f caps).refs s=false:=Bool.eq_false_iff.2 h;exact .inl ⟨h',by simp only[renId];rw[h']⟩
 | _=>exact .inl ⟨rfl,rfl⟩
theorem XV {f:AV→AV} {s t:Nat} {x:AV} (h:look ((env.filter fun p=>!A0 p.1 s).map fun p=>(p.1,f p.2)) t=some x):t≠s∧∃ y,look env t=some y∧f y=x:=by
 rw[Yj f]at h
 cases hy:look (env.filter fun p=>!A0 p.1 s) t with
 | none=>rw[hy]at h;cases h
 | some y =>
  rw[hy]at h;obtain⟨h1,h2⟩:=QE hy;exact⟨h1,y,h2,by simpa using h⟩
theorem Inv.renObj (h:Inv bs n M O env a w) (q:Nat×Nat):∃ O',Inv bs n M O' (renObj env q) a w:=by
 obtain⟨s,s'⟩:=q;unfold AM.renObj;simp only;split
 ·rename_i e k xs hl hc;simp only[A1]at hc;obtain⟨⟨⟨⟨hc,hc1⟩,hc2⟩,hc3⟩,hc4⟩:=hc;have hc2:s<2000000:=A3 hc2;have hc4:s'<2000000:=A3 hc4;obtain⟨c1,c2⟩:=JP hc
  have hne:s≠s':=fun e=>c1 _ (by rw[← e];exact hl)
  have h1:Inv bs n M (setO O true s none) ((env.filter fun p=>!A0 p.1 s).map fun p=>(p.1,killRef s p.2)) a w:=h.forget (qaL hc2);obtain⟨k0,k1,k2,k3⟩:=h.slots s _ hl
  have hS:ObjOk (setR (setO O true s none) s' (O.o true s) (O.len s) (O.siz s)) M w s' e k xs:=by
   refine⟨k0,k1,by simp[setR];exact k2,?_⟩;simp only[Qm,and_self,if_true]
   have:(setR (setO O true s none) s' (O.o true s) (O.len s) (O.siz s)).siz s'=O.siz s:=by simp[setR]
   rw[this];exact k3
  have h2:=h1.claim (t:=s') (x:=.obj e k xs) (fun t x hx=>by
   obtain⟨_,y,hy,hyx⟩:=XV (f:=killRef s) hx;have:=c2 t y hy;rw[← hyx]
   cases hk:(killRef s y).refs s' with
   | false=>rfl
   | true=>rw[Vu hk]at this;cases this) hc4 (O.o true s) (O.len s) (O.siz s) (fun g hg=>⟨(h.own _ _ _ hg).1,(h.own _ _ _ hg).2,fun i c hh=>by
    exfalso;rw[Jw]at hh;split at hh
    ·cases hh
    ·rename_i hn
     exact hn (h.inj _ _ _ _ g hh hg)⟩) hS
  refine⟨_,⟨h2.size,h2.defers,h2.below,h2.hB,h2.cons,h2.ext,h2.old,h2.own,h2.inj,h2.fix,fun t x hx=>?_⟩⟩;rw[jq]at hx;split at hx
  ·rename_i e1;subst e1;cases hx;exact hS
  ·rename_i hts;obtain⟨hts',y,hy,hyx⟩:=XV hx;have hnr:=c2 t y hy
   rcases qcR s s' y with ⟨r1,r2⟩ | ⟨o,rfl,r2⟩ | ⟨e',k',off,m,rfl,r2⟩ | ⟨k',j,o,rfl,r2⟩ | r2 | ⟨cs,rfl,r2⟩ | ⟨cs,rfl,r2⟩
   ·rw[r2]at hyx;subst hyx
    have hEq:∀ c,c≠s→c≠s'→Gh.Eq1 O (setR (setO O true s none) s' (O.o true s) (O.len s) (O.siz s)) c:=fun c e1 e2=>by
     obtain⟨f1,f2,f3⟩:=jY (O:=O) (v:=none) e1;obtain⟨g1,g2,g3⟩:=Vn (O:=setO O true s none) (v:=O.o true s) (len:=O.len s) (siz:=O.siz s) e2;exact⟨g1.trans f1,g2.trans f2,g3.trans f3⟩
    refine (h.slots t _ hy).change2 (Sub.refl M) (fun _=>hEq t hts' hts) (fun c hcc=>hEq c (fun e=>by rw[e,r1]at hcc;cases hcc) (fun e=>by rw[e,hnr]at hcc;cases hcc)) (fun g _ _=>⟨rfl,fun _ hm=>hm⟩) fun c g hg=>⟨by simp[Qm,Jw,hg],rfl,fun _ hm=>hm⟩
   ·rw[r2]at hyx;subst hyx;obtain⟨g,p1,p2⟩:=h.slots t _ hy;exact⟨g,p1,by simp[Qm];exact p2⟩
   ·rw[r2]at hyx;subst hyx;exact SbOk.ren (h.slots t _ hy) (by simp[Qm]) (by simp[setR]) (by simp[setR])
   ·rw[r2]at hyx;subst hyx;obtain⟨g,p1,p2⟩:=h.slots t _ hy;exact⟨g,p1,by simp[Qm];exact p2⟩
   ·rw[r2]at hyx;subst hyx;exact⟨.top _,trivial⟩
   ·rw[r2]at hyx;subst hyx;obtain⟨g,cur,el,p1,p2,p3,p4,p5,p6⟩:=h.slots t _ hy
    have hOt:(setR (setO O true s none) s' (O.o true s) (O.len s) (O.siz s)).o true t=O.o true t:=by
     simp only[Qm,Jw];rw[if_neg (fun e1=>hts e1.2),if_neg (fun e1=>hts' e1.2)]
    refine⟨g,cur,el,p1,by rw[hOt];exact p2,p3,by simpa using p4,p5,fun j c u hc hu=>?_⟩;rw[A5]at hc
    cases hz:cs[j]? with
    | none=>rw[hz]at hc;cases hc
    | some z =>
     rw[hz]at hc;cases hc
     refine (p6 j z u hz hu).renC (by simp[Qm]) (by simp[setR]) (by simp[setR]) hOt fun id hid hne=>?_
     have hne':id≠s':=fun e1=>by
      subst e1
      have:(AV.bxg cs).refs id=true:=by
       simp only[AV.refs,List.any_eq_true];exact⟨z,D0 hz,hid⟩
      rw[hnr]at this;cases this
     obtain⟨f1,f2,f3⟩:=jY (O:=O) (v:=none) hne;obtain⟨g1,g2,g3⟩:=Vn (O:=setO O true s none) (v:=O.o true s) (len:=O.len s) (siz:=O.siz s) hne';exact⟨g1.trans f1,g2.trans f2,g3.trans f3⟩
   ·rw[r2]at hyx;subst hyx;obtain⟨us,p1,p2,p3⟩:=h.slots t _ hy;refine⟨us,p1,by simpa using p2,fun j c u hc hu=>?_⟩;rw[A5]at hc
    cases hz:cs[j]? with
    | none=>rw[hz]at hc;cases hc
    | some z =>
     rw[hz]at hc;cases hc;obtain⟨q1,q2,q3⟩:=p3 j z u hz hu
     have hO0:∀ c,(setR (setO O true s none) s' (O.o true s) (O.len s) (O.siz s)).o false c=O.o false c:=fun c=>by simp[Qm,Jw]
     refine⟨?_,qfK (q2.change fun c g _ hg=>⟨by rw[hO0];exact hg,rfl,fun _ hm=>hm⟩),qcS q3⟩
     refine (CellR.move0 q1 q3).renC (t:=s+s'+1) (by simp[Qm]) (by simp[setR]) (by simp[setR]) (by
      simp only[Qm,Jw]
      rw[if_neg (fun e=>by have:=e.2;omega),if_neg (fun e=>by have:=e.2;omega)]) (fun id hid hne=>?_) |>.move0 (qcS q3)
     have hne':id≠s':=fun e1=>by
      subst e1
      have:(AV.agr cs).refs id=true:=by
       simp only[AV.refs,List.any_eq_true];exact⟨z,D0 hz,hid⟩
      rw[hnr]at this;cases this
     obtain⟨f1,f2,f3⟩:=jY (O:=O) (v:=none) hne;obtain⟨g1,g2,g3⟩:=Vn (O:=setO O true s none) (v:=O.o true s) (len:=O.len s) (siz:=O.siz s) hne';exact⟨g1.trans f1,g2.trans f2,g3.trans f3⟩
 ·exact⟨O,h⟩
theorem qey {k m:Nat} {xs:List AV} (h:∀ x,x∈xs→x.cells.length=k):flat (snapA 0 m xs)=(flat xs).take (m * k):=by
 unfold snapA;rw[List.drop_zero,YC m h]
theorem Inv.trimObj (h:Inv bs n M O env a w) (q:Nat×Nat):∃ O',Inv bs n M O' (trimObj env q) a w:=by
 obtain⟨t,s⟩:=q;unfold AM.trimObj;simp only;split
 ·rename_i id e k m e' k' xs hlt hls hus;split
  ·rename_i hc;simp only[A1]at hc;obtain⟨hc1,hc2⟩:=hc;have hc1:=A2 hc1;have hc2:=A2 hc2;subst hc1;subst hc2;obtain⟨k0,k1,k2,k3⟩:=h.slots id _ hls;obtain⟨q1,q2⟩:=h.slots t _ hlt
   have hlen:(snapA 0 m xs).length=m:=by unfold snapA;simp;omega
   have hne:id≠t:=fun e1=>by rw[e1,hlt]at hls;cases hls
   have hty:∀ x,x∈xs→x.cells.length=k:=fun x hx=>(k1 x hx).1
   have hsub:∀ x,x∈snapA 0 m xs→x∈xs:=fun x hx=>by
    unfold snapA at hx;exact D1 (D6 hx)
   obtain⟨O1,hO1⟩:∃ O1,O1=setR O id (O.o true id) m (O.siz id):=⟨_,rfl⟩
   have hO:∀ i c,O1.o i c=O.o i c:=by
    intro i c;rw[hO1,Qm];split
    ·rename_i hh;rw[hh.1,hh.2]
    ·rfl
   have hL:O1.len id=m:=by rw[hO1];simp[setR]
   have hZ:∀ c,O1.siz c=O.siz c:=by
    intro c;rw[hO1];simp only[setR];split
    ·rename_i hh;rw[hh]
    ·rfl
   have hEq:∀ c,c≠id→Gh.Eq1 O O1 c:=fun c hc=>by rw[hO1];exact Vn hc
   refine⟨O1,h.size,h.defers,h.below,h.hB,h.cons,h.ext,h.old,fun i c g hg=>h.own i c g (by rw[← hO];exact hg),fun i i' c c' g h1 h2=>h.inj i i' c c' g (by rw[← hO];exact h1) (by rw[← hO];exact h2),⟨h.fix.1,fun c g1 g2=>?_⟩,fun r x hx=>?_⟩
   ·obtain⟨e1,e2,e3⟩:=h.fix.2 c g1 g2
    obtain⟨f1,f2,f3⟩:=hEq c fun e=>YP hus ⟨by omega,by omega⟩
    exact⟨f1.trans e1,f2.trans e2,f3.trans e3⟩
   ·rw[jq]at hx;split at hx
    ·rename_i e1;subst e1;cases hx;refine⟨k0,fun x hx=>k1 x (hsub x hx),by rw[hL,hlen],?_⟩;rw[hO,hZ]
     rcases k3 with ⟨rfl,hn⟩ | ⟨g,cur,f1,f2,f3,f4,f5,f6⟩
     ·exact .inl ⟨by simp[snapA],hn⟩
     ·refine .inr ⟨g,cur,f1,f2,f3,?_,f5,fun j c u hc hu=>?_⟩
      ·rw[hlen];have:m * k≤xs.length * k:=Nat.mul_le_mul_right _ (by omega);omega
      ·rw[qey hty,List.getElem?_take]at hc;split at hc
       ·exact f6 j c u hc hu
       ·cases hc
    ·rename_i hr;rw[jq]at hx;split at hx
     ·rename_i e1;subst e1;cases hx;refine⟨by rw[hL,hlen];omega,?_⟩;rw[hlen,hO,hZ];exact q2
     ·obtain⟨hrs,y,hy,rfl⟩:=Yd hx;have hnr:=Zf id y
      ·refine ((h.slots r _ hy).kill id).change2 (Sub.refl M) (fun _=>hEq r hrs) (fun c hcc=>hEq c fun e=>by rw[e,hnr]at hcc;cases hcc) (fun g _ _=>⟨rfl,fun _ hm=>hm⟩) fun c g hg=>⟨by rw[hO];exact hg,rfl,fun _ hm=>hm⟩
  ·exact⟨O,h⟩
 ·exact⟨O,h⟩
theorem qdN (s k:Nat) (xs:List AV) (y:AV):thaw s k xs y=.top∨(y.refs s=false∧thaw s k xs y=y)∨(∃ e off m,y=.sb s e k off m∧thaw s k xs y=.lst e k none (snapA off m xs))∨(∃ cs,y=.bxg cs∧thaw s k xs y=.bxg (cs.map (thawC s k xs)))∨∃ cs,y=.agr cs∧thaw s k xs y=.agr (cs.map (thawC s k xs)):=by
 cases y with
 | sb id e k' off m =>
  simp only[thaw];by_cases h:A0 id s=true
  ·rw[h];have:=A2 h;subst this;by_cases h2:A0 k' k=true
   ·have:=A2 h2;subst this;exact .inr (.inr (.inl ⟨e,off,m,rfl,by simp⟩))
   ·have h2':A0 k' k=false:=Bool.eq_false_iff.2 h2;exact .inl (by rw[h2'])
  ·have h':A0 id s=false:=Bool.eq_false_iff.2 h;exact .inr (.inl ⟨h',by rw[h']⟩)
 | pe id k' j o =>
  simp only[thaw];by_cases h:A0 id s=true
  ·exact .inl (by rw[h])
  ·have h':A0 id s=false:=Bool.eq_false_iff.2 h;exact .inr (.inl ⟨h',by rw[h']⟩)
 | pb id o =>
  simp only[thaw];by_cases h:A0 id s=true
  ·exact .inl (by rw[h])
  ·have h':A0 id s=false:=Bool.eq_false_iff.2 h;exact .inr (.inl ⟨h',by rw[h']⟩)
 | tpr id e k' off m rest =>
  simp only[thaw];by_cases h:A0 id s=true
  ·exact .inl (by rw[h])
  ·have h':A0 id s=false:=Bool.eq_false_iff.2 h;exact .inr (.inl ⟨h',by rw[h']⟩)
 | mb kd id =>
  simp only[thaw];by_cases h:A0 id s=true
  ·exact .inl (by rw[h])
  ·have h':A0 id s=false:=Bool.eq_false_iff.2 h;exact .inr (.inl ⟨h',by rw[h']⟩)
 | bxg cs=>exact .inr (.inr (.inr (.inl ⟨cs,rfl,rfl⟩)))
 | agr cs=>exact .inr (.inr (.inr (.inr ⟨cs,rfl,rfl⟩)))
 | clb f caps =>
  simp only[thaw];by_cases h:(AV.clb f caps).refs s=true
  ·exact .inl (by rw[h])
  ·have h':(AV.clb f caps).refs s=false:=Bool.eq_false_iff.2 h;exact .inr (.inl ⟨h',by rw[h']⟩)
 | _=>exact .inr (.inl ⟨rfl,rfl⟩)
theorem Inv.freezeObj (h:Inv bs n M O env a w) {s e k:Nat} {xs:List AV} (hl:look env s=some (.obj e k xs)) (hus:usable s=true) :
  ∃ M' O',Inv bs n M' O' ((env.filter fun p=>!A0 p.1 s).map fun p=>(p.1,thaw s k xs p.2)) a w:=by
 obtain⟨k0,k1,k2,k3⟩:=h.slots s _ hl
 have hty:∀ x,x∈xs→x.cells.length=k:=fun x hx=>(k1 x hx).1
 obtain⟨M',hsub,hM',hcell⟩:∃ M':Mem,Sub M M'∧(∀ b o,O.o true s≠some b→M' b o=M b o)∧Cons M' w∧∀ g,O.o true s=some g→∃ cur:Array Value,cur.size=O.siz s∧xs.length * k≤cur.size∧(∀ o,M' g o=cellsAt cur o)∧∀ (j:Nat) c u,(flat xs)[j]? = some c→cur[j]? = some u→R M c u:=by
  rcases k3 with ⟨_,hn⟩ | ⟨g,cur,f1,f2,f3,f4,f5,f6⟩
  ·exact⟨M,Sub.refl M,fun _ _ _=>rfl,h.cons,fun g hg=>by rw[hn]at hg;cases hg⟩
  ·refine⟨addRow M g cur,?_,fun b o hb=>?_,?_,fun g' hg=>?_⟩
   ·intro b o u hu;unfold addRow;split
    ·rename_i e1;subst e1;rw[f5]at hu;cases hu
    ·exact hu
   ·unfold addRow;rw[if_neg fun e1=>hb (by rw[e1];exact f1)]
   ·intro b o u hu;unfold addRow at hu;split at hu
    ·rename_i e1;subst e1;rw[mcRowAt f2];exact hu
    ·exact h.cons b o u hu
   ·have:g'=g:=by rw[f1]at hg;exact (Option.some.inj hg).symm
    subst this;exact⟨cur,f3,f4,fun o=>by simp[addRow],f6⟩
 obtain⟨hC,hcell⟩:=hcell
 have hOO:∀ i c g,(setO O true s none) i c=some g→O i c=some g∧¬ (i=true∧c=s):=by
  intro i c g hg;rw[Jw]at hg;split at hg
  ·cases hg
  ·rename_i hne;exact⟨hg,hne⟩
 refine⟨M',setO O true s none,h.size,h.defers,h.below,h.hB,hC,h.ext.trans hsub,fun b o hb=>?_,fun i c g hg=>h.own i c g (hOO i c g hg).1,fun i i' c c' g h1 h2=>h.inj i i' c c' g (hOO _ _ _ h1).1 (hOO _ _ _ h2).1,⟨h.fix.1,fun c g1 g2=>?_⟩,fun t x hx=>?_⟩
 ·rw[hM' b o fun hh=>(h.own _ _ _ hh).1 hb];exact h.old b o hb
 ·obtain⟨e1,e2,e3⟩:=h.fix.2 c g1 g2;exact⟨(jY (O:=O) (v:=none) (fun e=>YP hus ⟨by omega,by omega⟩:c≠s)).1.trans e1,e2,e3⟩
 ·obtain⟨hts,y,hy,hyx⟩:=XV hx
  have snap:∀ (e' off m:Nat) (v:Value),SbOk O s k off m v→R M' (.lst e' k none (snapA off m xs)) v:=by
   intro e' off m v hq;obtain⟨q1,q2⟩:=hq
   have hlen:(snapA off m xs).length=m:=by unfold snapA;simp;omega
   have hsubx:∀ x,x∈snapA off m xs→x∈xs:=fun x hx=>D1 (D6 hx)
   rcases q2 with ⟨rfl,ad,e1⟩ | ⟨g,cap,e1,r1,r2,r3,r4⟩
   ·rw[e1]
    have:snapA off 0 xs=[]:=by simp[snapA]
    rw[this]
    cases ad with
    | none=>exact .lstn _ _ _
    | some ad=>exact .lste _ _ _ _ _
   ·obtain⟨cur,c1,c2,c3,c4⟩:=hcell g r1
    have hj2:∀ (j:Nat) c,(flat (snapA off m xs))[j]? = some c→(flat xs)[off * k+j]? = some c:=by
     intro j c hj;unfold snapA at hj;rw[YC (k:=k) m (fun y hy=>hty y (D1 hy)),YD off hty,List.getElem?_take]at hj;split at hj
     ·rw[List.getElem?_drop]at hj;exact hj
     ·cases hj
    have hcur:∀ (j:Nat) c,(flat (snapA off m xs))[j]? = some c→cur[off * k+j]? = some (cur.getD (off * k+j) undef):=by
     intro j c hj;have hlt:=(List.getElem?_eq_some_iff.1 (hj2 j c hj)).1;rw[Jc hty]at hlt
     have:off * k+j<cur.size:=by omega
     simp[this]
    rw[e1];have:=R.lst (M:=M') (e:=e') (k:=k) (l:=none) (xs:=snapA off m xs) (b:=g) (off:=off * k) (cap:=cap) (fun j=>cur.getD (off * k+j) undef) (by rw[hlen];exact r3) (fun y hy=>hty y (hsubx y hy)) (fun y hy=>(k1 y (hsubx y hy)).2)
     (fun j c hj=>by rw[c3];exact JQ (hcur j c hj) (XJ ((c4 _ _ _ (hj2 j c hj) (hcur j c hj)).one (Vc (fun y hy=>(k1 y (hsubx y hy)).2) hj)))) (fun j c hj=>(c4 _ _ _ (hj2 j c hj) (hcur j c hj)).mono hsub)
    rw[hlen]at this;exact this
  have hrow:∀ i c g,O i c=some g→¬ (i=true∧c=s)→∀ o,M g o=none→M' g o=none:=by
   intro i c g hg hne o hm;rw[hM' g o fun e1=>hne (h.inj _ _ _ _ g hg e1)];exact hm
  rcases qdN s k xs y with hh | ⟨hnr,hh⟩ | ⟨e',off,m,rfl,hh⟩ | ⟨cs,rfl,hh⟩ | ⟨cs,rfl,hh⟩
  ·rw[hh]at hyx;subst hyx;exact⟨.top _,trivial⟩
  ·rw[hh]at hyx;subst hyx
   refine (h.slots t _ hy).change2 hsub (fun _=>jY hts) (fun c hcc=>jY fun e=>by rw[e,hnr]at hcc;cases hcc) (fun g _ hg=>⟨rfl,hrow true t g hg fun e=>hts e.2⟩) fun c g hg=>⟨by simp[Jw,hg],rfl,hrow false c g hg fun e=>by cases e.1⟩
  ·rw[hh]at hyx;subst hyx;exact⟨snap e' off m _ (h.slots t _ hy),trivial⟩
  ·rw[hh]at hyx;subst hyx;obtain⟨g,cur,el,p1,p2,p3,p4,p5,p6⟩:=h.slots t _ hy;have hOt:=(jY (O:=O) (v:=none) hts).1;refine⟨g,cur,el,p1,by rw[hOt];exact p2,p3,by simpa using p4,fun o=>hrow true t g p2 (fun e=>hts e.2) o (p5 o),fun j c u hc hu=>?_⟩;rw[A5]at hc
   cases hz:cs[j]? with
   | none=>rw[hz]at hc;cases hc
   | some z =>
    rw[hz]at hc;cases hc
    exact (p6 j z u hz hu).thawC hsub snap hOt fun id _ hne=>jY hne
  ·rw[hh]at hyx;subst hyx;obtain⟨us,p1,p2,p3⟩:=h.slots t _ hy;refine⟨us,p1,by simpa using p2,fun j c u hc hu=>?_⟩;rw[A5]at hc
   cases hz:cs[j]? with
   | none=>rw[hz]at hc;cases hc
   | some z =>
    rw[hz]at hc;cases hc;obtain⟨q1,q2,q3⟩:=p3 j z u hz hu;refine⟨?_,qej (q2.change fun c g _ hg=>⟨by simp[Jw,hg],rfl,hrow false c g hg fun e=>by cases e.1⟩),qaM q3⟩;exact ((CellR.move0 (t':=s+1) q1 q3).thawC hsub snap (jY (O:=O) (v:=none) (by omega)).1 fun id _ hne=>jY hne).move0 (qaM q3)
theorem qcC (s:Nat) (ks vs:List AV) (y:AV):thawM s ks vs y=.top∨(y.refs s=false∧thawM s ks vs y=y)∨(y=.mb 0 s∧thawM s ks vs y=.mpv ks vs)∨(∃ cs,y=.bxg cs∧thawM s ks vs y=.bxg (cs.map (thawCM s ks vs)))∨∃ cs,y=.agr cs∧thawM s ks vs y=.agr (cs.map (thawCM s ks vs)):=by
 have other:(∀ cs,y≠.bxg cs)→(∀ cs,y≠.agr cs)→thawM s ks vs y=killRef s y→thawM s ks vs y=.top∨(y.refs s=false∧thawM s ks vs y=y)∨(y=.mb 0 s∧thawM s ks vs y=.mpv ks vs)∨(∃ cs,y=.bxg cs∧thawM s ks vs y=.bxg (cs.map (thawCM s ks vs)))∨∃ cs,y=.agr cs∧thawM s ks vs y=.agr (cs.map (thawCM s ks vs)):=by
  intro hb hg h;rw[h];unfold killRef
  cases hr:y.refs s with
  | true =>
   cases y with
   | bxg cs=>exact absurd rfl (hb cs)
   | agr cs=>exact absurd rfl (hg cs)
   | _=>exact .inl rfl
  | false=>exact .inr (.inl ⟨rfl,rfl⟩)
 cases y with
 | mb kd id =>
  simp only[thawM];by_cases h:A0 id s=true
  ·rw[h];have:=A2 h;subst this
   cases kd with
   | zero=>exact .inr (.inr (.inl ⟨rfl,rfl⟩))
   | succ kd=>exact .inl rfl
  ·have h':A0 id s=false:=Bool.eq_false_iff.2 h;exact .inr (.inl ⟨h',by rw[h']⟩)
 | bxg cs=>exact .inr (.inr (.inr (.inl ⟨cs,rfl,rfl⟩)))
 | agr cs=>exact .inr (.inr (.inr (.inr ⟨cs,rfl,rfl⟩)))
 | _=>exact other (fun cs e=>by cases e) (fun cs e=>by cases e) rfl
theorem Inv.freezeMap (h:Inv bs n M O env a w) {s:Nat} {ks vs:List AV} (hl:look env s=some (.hob 0 ks vs)) (hus:usable s=true) :
  ∃ M' O',Inv bs n M' O' ((env.filter fun p=>!A0 p.1 s).map fun p=>(p.1,thawM s ks vs p.2)) a w:=by
 obtain⟨g,k1,k2,es,clock,k3,E⟩:=h.slots s _ hl
 obtain⟨M',hM⟩:∃ M':Mem,M'=fun b o=>if b=g then mc w g o else M b o:=⟨_,rfl⟩
 have hsub:Sub M M':=by
  intro b o u hu;rw[hM];simp only;split
  ·rename_i e1;subst e1;rw[k2]at hu;cases hu
  ·exact hu
 have hM':∀ b o,b≠g→M' b o=M b o:=fun b o hb=>by rw[hM];simp only;rw[if_neg hb]
 have hMg:M' g 0=some (mapCell es clock):=by rw[hM];simp only[if_true];exact Uo k3
 have hC:Cons M' w:=by
  intro b o u hu;rw[hM]at hu;simp only at hu;split at hu
  ·rename_i e1;subst e1;exact hu
  ·exact h.cons b o u hu
 have hOO:∀ i c g,(setO O true s none) i c=some g→O i c=some g∧¬ (i=true∧c=s):=by
  intro i c g hg;rw[Jw]at hg;split at hg
  ·cases hg
  ·rename_i hne;exact⟨hg,hne⟩
 refine⟨M',setO O true s none,h.size,h.defers,h.below,h.hB,hC,h.ext.trans hsub,fun b o hb=>?_,fun i c g hg=>h.own i c g (hOO i c g hg).1,fun i i' c c' g h1 h2=>h.inj i i' c c' g (hOO _ _ _ h1).1 (hOO _ _ _ h2).1,⟨h.fix.1,fun c g1 g2=>?_⟩,fun t x hx=>?_⟩
 ·rw[hM' b o fun e1=>(h.own _ _ _ k1).1 (by rw[← e1];exact hb)];exact h.old b o hb
 ·obtain⟨e1,e2,e3⟩:=h.fix.2 c g1 g2;exact⟨(jY (O:=O) (v:=none) (fun e=>YP hus ⟨by omega,by omega⟩:c≠s)).1.trans e1,e2,e3⟩
 ·obtain⟨hts,y,hy,hyx⟩:=XV hx
  have hrow:∀ i c g',O i c=some g'→¬ (i=true∧c=s)→∀ o,M g' o=none→M' g' o=none:=by
   intro i c g' hg hne o hm;rw[hM' g' o fun e1=>hne (h.inj _ _ _ _ g' hg (by rw[e1];exact k1))];exact hm
  have snap:∀ g',O true s=some g'→R M' (.mpv ks vs) (.map (some g')):=by
   intro g' q1
   have:g'=g:=by rw[k1]at q1;exact (Option.some.inj q1).symm
   subst this;obtain⟨E1,E2,E3,E4,E5,E6⟩:=E
   exact .mpv hMg E1 E2 E3 E4 E5 fun j v e hv he=>(E6 j v e hv he).mono hsub
  rcases qcC s ks vs y with hh | ⟨hnr,hh⟩ | ⟨rfl,hh⟩ | ⟨cs,rfl,hh⟩ | ⟨cs,rfl,hh⟩
  ·rw[hh]at hyx;subst hyx;exact⟨.top _,trivial⟩
  ·rw[hh]at hyx;subst hyx
   refine (h.slots t _ hy).change2 hsub (fun _=>jY hts) (fun c hcc=>jY fun e=>by rw[e,hnr]at hcc;cases hcc) (fun g _ hg=>⟨rfl,hrow true t g hg fun e=>hts e.2⟩) fun c g hg=>⟨by simp[Jw,hg],rfl,hrow false c g hg fun e=>by cases e.1⟩
  ·rw[hh]at hyx;subst hyx;obtain⟨g',q1,q2⟩:=h.slots t _ hy
   have:g'=g:=by rw[k1]at q1;exact (Option.some.inj q1).symm
   subst this;refine⟨?_,trivial⟩;rw[q2];exact snap g' k1
  ·rw[hh]at hyx;subst hyx;obtain⟨g1,cur,el,p1,p2,p3,p4,p5,p6⟩:=h.slots t _ hy;have hOt:=(jY (O:=O) (v:=none) hts).1;refine⟨g1,cur,el,p1,by rw[hOt];exact p2,p3,by simpa using p4,fun o=>hrow true t g1 p2 (fun e=>hts e.2) o (p5 o),fun j c u hc hu=>?_⟩;rw[A5]at hc
   cases hz:cs[j]? with
   | none=>rw[hz]at hc;cases hc
   | some z =>
    rw[hz]at hc;cases hc
    exact (p6 j z u hz hu).thawCM hsub snap hOt fun id _ hne=>jY hne
  ·rw[hh]at hyx;subst hyx;obtain⟨us,p1,p2,p3⟩:=h.slots t _ hy;refine⟨us,p1,by simpa using p2,fun j c u hc hu=>?_⟩;rw[A5]at hc
   cases hz:cs[j]? with
   | none=>rw[hz]at hc;cases hc
   | some z =>
    rw[hz]at hc;cases hc;obtain⟨q1,q2,q3⟩:=p3 j z u hz hu;refine⟨?_,qde (q2.change fun c g _ hg=>⟨by simp[Jw,hg],rfl,hrow false c g hg fun e=>by cases e.1⟩),Dp q3⟩;exact ((CellR.move0 (t':=s+1) q1 q3).thawCM hsub snap (jY (O:=O) (v:=none) (by omega)).1 fun id _ hne=>jY hne).move0 (Dp q3)
theorem Inv.slfCell (h:Inv bs n M O env a w) (s off:Nat):Inv bs n M O (slfCell env s off) a w:=by
 unfold AM.slfCell;split
 case h_2=>exact h
 rename_i cs hl;split
 case h_2=>exact h
 rename_i x hoff;obtain⟨g,cur,el,p1,p2,p3,p4,p5,p6⟩:=h.slots s _ hl;refine h.setVal ⟨g,cur,el,p1,p2,p3,by simpa using p4,p5,fun j c u hcj hu=>?_⟩;rw[List.getElem?_set]at hcj;split at hcj
 ·rename_i e1;subst e1;split at hcj
  ·cases hcj;have q:=(p6 _ _ u hoff hu).2;cases q;exact .inl rfl
  ·cases hcj
 ·exact p6 j c u hcj hu
theorem Inv.arrBox (h:Inv bs n M O env a w) (d:Nat):∃ O',Inv bs n M O' (arrBox env d) a w:=by
 unfold AM.arrBox;split
 ·rename_i cs hl hc;simp only[A1]at hc;obtain⟨hc,hd⟩:=hc;have hd:d<1000000:=A3 hd;obtain⟨c1,c2⟩:=JP hc;have h1:=h.forget (s:=d) (qaL (by omega));obtain⟨g,cur,el,p1,p2,p3,p4,p5,p6⟩:=h.slots d _ hl;have p1:=p1.resolve_right (by omega)
  have hS:HobOk (setR (setO O true d none) (1000000+d) (some g) 0 0) M w (1000000+d) 3 [] (cs.map AV.strip):=by
   refine⟨g,by simp[Qm],p5,cur,el,p3,by simpa using p4,fun j c u hcj hu=>?_⟩;rw[A5]at hcj
   cases hz:cs[j]? with
   | none=>rw[hz]at hcj;cases hcj
   | some z =>
    rw[hz]at hcj;cases hcj;obtain⟨q1,q2,_⟩:=p6 j z u hz hu;exact⟨Xa q1,Ya z,q2.strip⟩
  have h2:=h1.claim (t:=1000000+d) (x:=.hob 3 [] (cs.map AV.strip)) (fun t x hx=>by
   obtain⟨_,y,hy,hyx⟩:=Yd hx;have:=c2 t y hy;rw[hyx]
   cases hk:(killRef d y).refs (1000000+d) with
   | false=>rfl
   | true=>rw[Vu hk]at this;cases this) (by omega) (some g) 0 0 (fun g' e=>by
    cases e;refine⟨(h.own _ _ _ p2).1,(h.own _ _ _ p2).2,fun i c hh=>?_⟩;exfalso;rw[Jw]at hh;split at hh
    ·cases hh
    ·rename_i hn
     exact hn (h.inj _ _ _ _ g hh p2)) hS
  exact⟨_,h2.setVal (t:=d) (x:=.pb (1000000+d) 0) ⟨g,p1,by simp[Qm]⟩⟩
 ·exact⟨O,h⟩
end
end Go.AM
