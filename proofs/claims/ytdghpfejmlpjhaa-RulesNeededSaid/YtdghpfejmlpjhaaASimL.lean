/- s -/
import Derived.Test.YtdghpfejmlpjhaaASimK
set_option linter.unusedVariables false
set_option linter.unusedSimpArgs false
namespace Go.AM
open Go.RowKit
section
variable {n:Nat} {P:Program}
theorem qan (acc:Array Nat):∀ (l:List Edge) (s i:Nat),(l.foldl (fun s e=>if Region.binds .any e then s ||| 2 ^ e.on ||| acc.getD e.on 0 else s) s).testBit i=true →
    s.testBit i=true∨∃ e,e∈l∧Region.binds .any e=true∧(i=e.on∨(acc.getD e.on 0).testBit i=true)
  | [],s,i,h=>.inl h
  | e::l,s,i,h=>by
    simp only[List.foldl_cons]at h
    rcases qan acc l _ i h with h1 | ⟨e',he',h1,h2⟩
    · split at h1
      · rename_i hb
        simp only[Nat.testBit_or,Bool.or_eq_true]at h1
        rcases h1 with (h1 | h1) | h1
        · exact .inl h1
        · refine .inr ⟨e,List.mem_cons_self ..,hb,.inl ?_⟩
          rw[Nat.testBit_two_pow]at h1
          simpa using (of_decide_eq_true h1).symm
        · exact .inr ⟨e,List.mem_cons_self ..,hb,.inr h1⟩
      · exact .inl h1
    · exact .inr ⟨e',List.mem_cons_of_mem _ he',h1,h2⟩
def Jn (acc:Array Nat) (o:Oper):Array Nat :=
  acc.push (o.after.foldl (fun s e=>if Region.binds .any e then s ||| 2 ^ e.on ||| acc.getD e.on 0 else s) 0)
theorem qaC (all:List Oper):Region.before all.toArray=all.foldl Jn #[]:=by
  unfold Region.before;rw[← Array.foldl_toList];rfl
theorem YQ:∀ (l:List Oper) (acc:Array Nat),(l.foldl Jn acc).size=acc.size+l.length
  | [],acc=>rfl
  | o::l,acc=>by
    simp only[List.foldl_cons,List.length_cons];rw[YQ l]
    simp[Jn];omega
theorem Vt:∀ (l:List Oper) (acc:Array Nat) (j:Nat),j<acc.size→(l.foldl Jn acc).getD j 0=acc.getD j 0
  | [],acc,j,h=>rfl
  | o::l,acc,j,h=>by
    simp only[List.foldl_cons];rw[Vt l _ j (by simp[Jn];omega)]
    simp[Jn,Array.getElem?_push,Nat.ne_of_lt h]
theorem qfe (all:List Oper) {j:Nat} {o:Oper} (h:all[j]? = some o) :
    (all.foldl Jn #[]).getD j 0=o.after.toList.foldl (fun s e=>if Region.binds .any e then s ||| 2 ^ e.on ||| ((all.take j).foldl Jn #[]).getD e.on 0 else s) 0:=by
  have hj:=(List.getElem?_eq_some_iff.1 h).1
  have hsplit:all=all.take j++o::all.drop (j+1):=by
    have:=List.getElem?_eq_some_iff.1 h;rw[← this.2]
    simp
  have hs:((all.take j).foldl Jn #[]).size=j:=by rw[YQ];simp;omega
  conv=>lhs;rw[hsplit]
  rw[List.foldl_append,List.foldl_cons,Vt _ _ j (by simp[Jn,hs])];simp only[Jn];rw[Array.getD_eq_getD_getElem?,Array.getElem?_push,if_pos (by rw[hs])]
  simp
def Closed (all:List Oper) (S:Nat→Prop):Prop:=∀ j o,all[j]? = some o→S j→∀ e,e∈o.after.toList→Region.binds .any e=true→S e.on
theorem YY {all:List Oper} {S:Nat→Prop} (hc:Closed all S):∀ (j:Nat) (o:Oper),all[j]? = some o→(∀ e,e∈o.after.toList→Region.binds .any e=true→S e.on)→∀ i,((Region.before all.toArray).getD j 0).testBit i=true→S i:=by
  intro j
  induction j using Nat.strongRecOn with
  | _ j ih =>
    intro o ho he i hi;rw[qaC,qfe all ho]at hi
    rcases qan _ _ 0 i hi with h0 | ⟨e,hem,hb,h⟩
    · simp at h0
    · rcases h with rfl | h
      · exact he e hem hb
      · have hlt:e.on<j:=by
          refine Nat.lt_of_not_le fun hle=>?_
          have hs:((all.take j).foldl Jn #[]).size≤j:=by rw[YQ];simp;omega
          rw[Array.getD_eq_getD_getElem?,Array.getElem?_eq_none (by omega)]at h
          simp at h
        have hj:=(List.getElem?_eq_some_iff.1 ho).1;have ho':all[e.on]? = some (all[e.on]'(by omega)):=List.getElem?_eq_getElem _;refine ih e.on hlt _ ho' (hc e.on _ ho' (he e hem hb)) i ?_;rw[qaC];have h1:=Vt (all.drop j) ((all.take j).foldl Jn #[]) e.on (by rw[YQ];simp;omega);rw[← List.foldl_append,List.take_append_drop]at h1;rw[h1];exact h
theorem YN {o:Op} (h:memFree o=true):isEff o=false:=by
  unfold memFree at h;unfold isEff
  split at h <;> first | rfl | cases h
theorem DO {o:Op} (h:isStore o=true):isEff o=true:=by
  cases o <;> first | rfl | cases h
def Free (x y:Op):Prop:=(isEff x=false∧isEff y=false)∨(isStore x=true∧memFree y=true)∨(memFree x=true∧isStore y=true)
theorem UE {all:List Oper} (h:orderOk all.toArray=true) {i j:Nat} {x y:Oper} (hij:i<j) (hx:all[i]? = some x) (hy:all[j]? = some y) :
    ((Region.before all.toArray).getD j 0).testBit i=true∨(Free x.op y.op∧(∀ d,x.dst=some d→d ∉ namesOf all.toArray y)∧(∀ d,y.dst=some d→d ∉ namesOf all.toArray x)):=by
  unfold orderOk at h;simp only[List.all_eq_true,List.mem_range]at h;have hj:=(List.getElem?_eq_some_iff.1 hy).1;have:=h j (by simpa using hj) i hij;simp only[Bool.or_eq_true]at this
  rcases this with h1 | h1
  · exact .inl h1
  · refine .inr ?_
    have hx':all.toArray[i]? = some x:=by simpa using hx
    have hy':all.toArray[j]? = some y:=by simpa using hy
    rw[hx',hy']at h1;simp only[Bool.and_eq_true,Bool.or_eq_true,Bool.not_eq_true']at h1;obtain⟨⟨h1,h3⟩,h4⟩:=h1;refine⟨?_,fun d hd hm=>?_,fun d hd hm=>?_⟩
    · rcases h1 with (⟨h1,h2⟩ | h1) | h1
      · exact .inl ⟨h1,h2⟩
      · exact .inr (.inl h1)
      · exact .inr (.inr h1)
    · rw[hd]at h3
      simp only[Bool.not_eq_true',List.any_eq_false]at h3;exact h3 d hm (by simp)
    · rw[hd]at h4
      simp only[Bool.not_eq_true',List.any_eq_false]at h4;exact h4 d hm (by simp)
theorem qdG {all rest:List Oper} {e e':Env} {draw:Bool} (h:Chain P n draw all rest e e') (hd:draw=true):∃ es:Nat→Env,es 0=e∧es rest.length=e'∧∀ i o,rest[i]? = some o→StepOk P n draw all o (es i) (es (i+1)):=by
  induction h with
  | @nil e=>exact⟨fun _=>e,rfl,rfl,fun i o h=>by simp at h⟩
  | drop e0 hf _ _ _=>rw[hf]at hd;cases hd
  | @step o rest e e1 e' hs _ ih =>
    obtain⟨es,h1,h2,h3⟩:=ih;refine⟨fun i=>match i with | 0=>e | i+1=>es i,rfl,h2,fun i o' ho=>?_⟩
    cases i with
    | zero=>simp at ho;subst ho;show StepOk P n draw all o e (es 0);rw[h1];exact hs
    | succ i=>exact h3 i o' (by simpa using ho)
variable {all:List Oper} {es:Nat→Env}
def Wr (all:List Oper) (i t:Nat):Prop:=∃ o,all[i]? = some o∧((isEff o.op=true∧isStore o.op=false)∨o.dst=some t)
def WrE (all:List Oper) (i:Nat):Prop:=∃ o,all[i]? = some o∧isEff o.op=true
theorem Ym {d:Option Nat} {x:AV} {E:Env} {t:Nat} (h:d≠some t):look (insO d x E) t=look E t:=by
  cases d with
  | none=>rfl
  | some s =>
    simp only[insO];rw[qS,if_neg (fun e=>h (by rw[e]))]
theorem UJ {e:Env} {s t:Nat} {x x':AV} (hl:look e s=some x) (hk:x'.sk=x.sk):lookS (ins s x' e) t=lookS e t:=by
  unfold lookS;rw[qS]
  split
  · rename_i h;subst h
    rw[hl]
    simp[hk]
  · rfl
theorem stable (hes:∀ i o,all[i]? = some o→StepOk P n true all o (es i) (es (i+1))) {t:Nat} {i:Nat}:∀ j,i≤j→j≤all.length→(∀ k,i≤k→k<j→¬ Wr all k t)→lookS (es j) t=lookS (es i) t:=by
  intro j
  induction j with
  | zero =>
   intro h _ _;have:i=0:=by omega
   subst this;rfl
  | succ j ih =>
    intro h hl hw
    by_cases hij:i=j+1
    · subst hij;rfl
    · have hlt:j<all.length:=by omega
      have ho:all[j]? = some all[j]:=List.getElem?_eq_getElem hlt;have hn:=hw j (by omega) (by omega);rw[← ih (by omega) (by omega) (fun k h1 h2=>hw k h1 (by omega))]
      rcases (hes j _ ho).2 rfl with he | ⟨_,_,s,x,x',hx,_,_,hk,e1,_⟩ | ⟨_,x,hx,_⟩
      · exact absurd ⟨_,ho,.inl he.1⟩ hn
      · rw[e1]
        exact UJ hx hk
      · obtain⟨e1,_,_⟩:=JN hx
        rw[e1];unfold lookS;rw[Ym fun e=>hn ⟨_,ho,.inr e⟩]
theorem VG (e:Env):EA e e:=fun _ _ _ h=>h
theorem EA.trans {a b c:Env} (h:EA a b) (k:EA b c):EA a c:=fun s x hx hl=>k s x hx (h s x hx hl)
theorem qel {d:Option Nat} {x:AV} {e e1:Env} (hx:x.ent=false) (he:eput n d x e=some e1):EA e e1∧EA e1 e:=by
  obtain⟨e1',_,hno⟩:=JN he;subst e1'
  cases d with
  | none=>exact⟨VG _,VG _⟩
  | some t =>
    simp only[insO];refine⟨fun s y hy hl=>?_,fun s y hy hl=>?_⟩
    · rw[qS]
      split
      · rename_i h;subst h
        rw[hno s rfl y hl]at hy;cases hy
      · exact hl
    · rw[qS]at hl
      split at hl
      · cases hl
        rw[hx]at hy;cases hy
      · exact hl
theorem stableE (hes:∀ i o,all[i]? = some o→StepOk P n true all o (es i) (es (i+1))) {i:Nat}:∀ j,i≤j→j≤all.length→(∀ k,i≤k→k<j→¬ WrE all k)→EA (es i) (es j)∧EA (es j) (es i):=by
  intro j
  induction j with
  | zero =>
   intro h _ _;have:i=0:=by omega
   subst this;exact⟨VG _,VG _⟩
  | succ j ih =>
    intro h hl hw
    by_cases hij:i=j+1
    · subst hij;exact⟨VG _,VG _⟩
    · have hlt:j<all.length:=by omega
      have ho:all[j]? = some all[j]:=List.getElem?_eq_getElem hlt;have hn:=hw j (by omega) (by omega);obtain⟨h1,h2⟩:=ih (by omega) (by omega) (fun k h1 h2=>hw k h1 (by omega))
      rcases (hes j _ ho).2 rfl with he | ⟨hs,_⟩ | ⟨_,x,hx,hxe,_⟩
      · exact absurd ⟨_,ho,he.1.1⟩ hn
      · exact absurd ⟨_,ho,DO hs⟩ hn
      · obtain⟨k1,k2⟩:=qel hxe hx
        exact⟨h1.trans k1,k2.trans h2⟩
structure Match (all:List Oper) (es:Nat→Env) (S:Nat→Prop) (E:Env):Prop where
  s:∀ t j,j≤all.length→(∀ i,i<j→Wr all i t→S i)→(∀ i,j≤i→Wr all i t→¬ S i)→∀ y,lookS (es j) t=some y→lookS E t=some y
  e:∀ j,j≤all.length→(∀ i,i<j→WrE all i→S i)→(∀ i,j≤i→WrE all i→¬ S i)→EA (es j) E
end
end Go.AM
