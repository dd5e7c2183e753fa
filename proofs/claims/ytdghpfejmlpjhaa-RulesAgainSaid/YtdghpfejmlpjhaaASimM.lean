/- s -/
import Derived.Test.YtdghpfejmlpjhaaASimK
set_option linter.unusedVariables false
set_option linter.unusedSimpArgs false
namespace Go.AM
open Go.RowKit
section
variable {n:Nat} {P:Program}
theorem fold_bits (acc:Array Nat):∀ (l:List Edge) (s i:Nat),(l.foldl (fun s e=>if Region.binds .any e then s ||| 2 ^ e.on ||| acc.getD e.on 0 else s) s).testBit i=true →
    s.testBit i=true∨∃ e,e∈l∧Region.binds .any e=true∧(i=e.on∨(acc.getD e.on 0).testBit i=true)
  | [],s,i,h=>.inl h
  | e::l,s,i,h=>by
    simp only[List.foldl_cons]at h
    rcases fold_bits acc l _ i h with h1 | ⟨e',he',h1,h2⟩
    · split at h1
      · rename_i hb
        simp only[Nat.testBit_or,Bool.or_eq_true]at h1
        rcases h1 with (h1 | h1) | h1
        · exact .inl h1
        · refine .inr ⟨e,List.mem_cons_self ..,hb,.inl ?_⟩
          rw[Nat.testBit_two_pow]at h1
          simpa using (of_decide_eq_true h1).symm
        · exact .inr ⟨e,List.mem_cons_self ..,hb,.inr h1⟩
      · exact .inl h1
    · exact .inr ⟨e',List.mem_cons_of_mem _ he',h1,h2⟩
def Jf (acc:Array Nat) (o:Oper):Array Nat :=
  acc.push (o.after.foldl (fun s e=>if Region.binds .any e then s ||| 2 ^ e.on ||| acc.getD e.on 0 else s) 0)
theorem before_eq (all:List Oper):Region.before all.toArray=all.foldl Jf #[]:=by
  unfold Region.before;rw[← Array.foldl_toList];rfl
theorem YP:∀ (l:List Oper) (acc:Array Nat),(l.foldl Jf acc).size=acc.size+l.length
  | [],acc=>rfl
  | o::l,acc=>by
    simp only[List.foldl_cons,List.length_cons];rw[YP l]
    simp[Jf];omega
theorem before_keep:∀ (l:List Oper) (acc:Array Nat) (j:Nat),j<acc.size→(l.foldl Jf acc).getD j 0=acc.getD j 0
  | [],acc,j,h=>rfl
  | o::l,acc,j,h=>by
    simp only[List.foldl_cons];rw[before_keep l _ j (by simp[Jf];omega)]
    simp[Jf,Array.getElem?_push,Nat.ne_of_lt h]
theorem before_at (all:List Oper) {j:Nat} {o:Oper} (h:all[j]? = some o) :
    (all.foldl Jf #[]).getD j 0=o.after.toList.foldl (fun s e=>if Region.binds .any e then s ||| 2 ^ e.on ||| ((all.take j).foldl Jf #[]).getD e.on 0 else s) 0:=by
  have hj:=(List.getElem?_eq_some_iff.1 h).1
  have hsplit:all=all.take j++o::all.drop (j+1):=by
    have:=List.getElem?_eq_some_iff.1 h;rw[← this.2]
    simp
  have hs:((all.take j).foldl Jf #[]).size=j:=by rw[YP];simp;omega
  conv=>lhs;rw[hsplit]
  rw[List.foldl_append,List.foldl_cons,before_keep _ _ j (by simp[Jf,hs])];simp only[Jf];rw[Array.getD_eq_getD_getElem?,Array.getElem?_push,if_pos (by rw[hs])]
  simp
def Closed (all:List Oper) (S:Nat→Prop):Prop:=∀ j o,all[j]? = some o→S j→∀ e,e∈o.after.toList→Region.binds .any e=true→S e.on
theorem Xa {all:List Oper} {S:Nat→Prop} (hc:Closed all S):∀ (j:Nat) (o:Oper),all[j]? = some o→(∀ e,e∈o.after.toList→Region.binds .any e=true→S e.on)→∀ i,((Region.before all.toArray).getD j 0).testBit i=true→S i:=by
  intro j
  induction j using Nat.strongRecOn with
  | _ j ih =>
    intro o ho he i hi;rw[before_eq,before_at all ho]at hi
    rcases fold_bits _ _ 0 i hi with h0 | ⟨e,hem,hb,h⟩
    · simp at h0
    · rcases h with rfl | h
      · exact he e hem hb
      · have hlt:e.on<j:=by
          refine Nat.lt_of_not_le fun hle=>?_
          have hs:((all.take j).foldl Jf #[]).size≤j:=by rw[YP];simp;omega
          rw[Array.getD_eq_getD_getElem?,Array.getElem?_eq_none (by omega)]at h
          simp at h
        have hj:=(List.getElem?_eq_some_iff.1 ho).1;have ho':all[e.on]? = some (all[e.on]'(by omega)):=List.getElem?_eq_getElem _;refine ih e.on hlt _ ho' (hc e.on _ ho' (he e hem hb)) i ?_;rw[before_eq];have h1:=before_keep (all.drop j) ((all.take j).foldl Jf #[]) e.on (by rw[YP];simp;omega);rw[← List.foldl_append,List.take_append_drop]at h1;rw[h1];exact h
theorem YN {o:Op} (h:memFree o=true):isEff o=false:=by
  unfold memFree at h;unfold isEff
  split at h <;> first | rfl | cases h
theorem store_eff {o:Op} (h:isStore o=true):isEff o=true:=by
  cases o <;> first | rfl | cases h
def Free (x y:Op):Prop:=(isEff x=false∧isEff y=false)∨(isStore x=true∧memFree y=true)∨(memFree x=true∧isStore y=true)
theorem orderOk_spec {all:List Oper} (h:orderOk all.toArray=true) {i j:Nat} {x y:Oper} (hij:i<j) (hx:all[i]? = some x) (hy:all[j]? = some y) :
    ((Region.before all.toArray).getD j 0).testBit i=true∨(Free x.op y.op∧(∀ d,x.dst=some d→d ∉ namesOf all.toArray y)∧(∀ d,y.dst=some d→d ∉ namesOf all.toArray x)):=by
  unfold orderOk at h;simp only[List.all_eq_true,List.mem_range]at h;have hj:=(List.getElem?_eq_some_iff.1 hy).1;have:=h j (by simpa using hj) i hij;simp only[Bool.or_eq_true]at this
  rcases this with h1 | h1
  · exact .inl h1
  · refine .inr ?_
    have hx':all.toArray[i]? = some x:=by simpa using hx
    have hy':all.toArray[j]? = some y:=by simpa using hy
    rw[hx',hy']at h1;simp only[Bool.and_eq_true,Bool.or_eq_true,Bool.not_eq_true']at h1;obtain⟨⟨h1,h3⟩,h4⟩:=h1;refine⟨?_,fun d hd hm=>?_,fun d hd hm=>?_⟩
    · rcases h1 with (⟨h1,h2⟩ | h1) | h1
      · exact .inl ⟨h1,h2⟩
      · exact .inr (.inl h1)
      · exact .inr (.inr h1)
    · rw[hd]at h3
      simp only[Bool.not_eq_true',List.any_eq_false]at h3;exact h3 d hm (by simp)
    · rw[hd]at h4
      simp only[Bool.not_eq_true',List.any_eq_false]at h4;exact h4 d hm (by simp)
theorem chain_envs {all rest:List Oper} {e e':Env} {draw:Bool} (h:Chain P n draw all rest e e') (hd:draw=true):∃ es:Nat→Env,es 0=e∧es rest.length=e'∧∀ i o,rest[i]? = some o→StepOk P n draw all o (es i) (es (i+1)):=by
  induction h with
  | @nil e=>exact⟨fun _=>e,rfl,rfl,fun i o h=>by simp at h⟩
  | drop e0 hf _ _ _=>rw[hf]at hd;cases hd
  | @step o rest e e1 e' hs _ ih =>
    obtain⟨es,h1,h2,h3⟩:=ih;refine⟨fun i=>match i with | 0=>e | i+1=>es i,rfl,h2,fun i o' ho=>?_⟩
    cases i with
    | zero=>simp at ho;subst ho;show StepOk P n draw all o e (es 0);rw[h1];exact hs
    | succ i=>exact h3 i o' (by simpa using ho)
variable {all:List Oper} {es:Nat→Env}
def Wr (all:List Oper) (i t:Nat):Prop:=∃ o,all[i]? = some o∧((isEff o.op=true∧isStore o.op=false)∨o.dst=some t)
def WrE (all:List Oper) (i:Nat):Prop:=∃ o,all[i]? = some o∧isEff o.op=true
theorem Yl {d:Option Nat} {x:AV} {E:Env} {t:Nat} (h:d≠some t):look (insO d x E) t=look E t:=by
  cases d with
  | none=>rfl
  | some s =>
    simp only[insO];rw[qJ,if_neg (fun e=>h (by rw[e]))]
theorem lookS_ins_sk {e:Env} {s t:Nat} {x x':AV} (hl:look e s=some x) (hk:x'.sk=x.sk):lookS (ins s x' e) t=lookS e t:=by
  unfold lookS;rw[qJ]
  split
  · rename_i h;subst h
    rw[hl]
    simp[hk]
  · rfl
theorem stable (hes:∀ i o,all[i]? = some o→StepOk P n true all o (es i) (es (i+1))) {t:Nat} {i:Nat}:∀ j,i≤j→j≤all.length→(∀ k,i≤k→k<j→¬ Wr all k t)→lookS (es j) t=lookS (es i) t:=by
  intro j
  induction j with
  | zero =>
   intro h _ _;have:i=0:=by omega
   subst this;rfl
  | succ j ih =>
    intro h hl hw
    by_cases hij:i=j+1
    · subst hij;rfl
    · have hlt:j<all.length:=by omega
      have ho:all[j]? = some all[j]:=List.getElem?_eq_getElem hlt;have hn:=hw j (by omega) (by omega);rw[← ih (by omega) (by omega) (fun k h1 h2=>hw k h1 (by omega))]
      rcases (hes j _ ho).2 rfl with he | ⟨_,_,s,x,x',hx,_,_,hk,e1,_⟩ | ⟨_,x,hx,_⟩
      · exact absurd ⟨_,ho,.inl he.1⟩ hn
      · rw[e1]
        exact lookS_ins_sk hx hk
      · obtain⟨e1,_,_⟩:=JC hx
        rw[e1];unfold lookS;rw[Yl fun e=>hn ⟨_,ho,.inr e⟩]
theorem ea_refl (e:Env):EA e e:=fun _ _ _ h=>h
theorem EA.trans {a b c:Env} (h:EA a b) (k:EA b c):EA a c:=fun s x hx hl=>k s x hx (h s x hx hl)
theorem ea_insO {d:Option Nat} {x:AV} {e e1:Env} (hx:x.ent=false) (he:eput n d x e=some e1):EA e e1∧EA e1 e:=by
  obtain⟨e1',_,hno⟩:=JC he;subst e1'
  cases d with
  | none=>exact⟨ea_refl _,ea_refl _⟩
  | some t =>
    simp only[insO];refine⟨fun s y hy hl=>?_,fun s y hy hl=>?_⟩
    · rw[qJ]
      split
      · rename_i h;subst h
        rw[hno s rfl y hl]at hy;cases hy
      · exact hl
    · rw[qJ]at hl
      split at hl
      · cases hl
        rw[hx]at hy;cases hy
      · exact hl
theorem stableE (hes:∀ i o,all[i]? = some o→StepOk P n true all o (es i) (es (i+1))) {i:Nat}:∀ j,i≤j→j≤all.length→(∀ k,i≤k→k<j→¬ WrE all k)→EA (es i) (es j)∧EA (es j) (es i):=by
  intro j
  induction j with
  | zero =>
   intro h _ _;have:i=0:=by omega
   subst this;exact⟨ea_refl _,ea_refl _⟩
  | succ j ih =>
    intro h hl hw
    by_cases hij:i=j+1
    · subst hij;exact⟨ea_refl _,ea_refl _⟩
    · have hlt:j<all.length:=by omega
      have ho:all[j]? = some all[j]:=List.getElem?_eq_getElem hlt;have hn:=hw j (by omega) (by omega);obtain⟨h1,h2⟩:=ih (by omega) (by omega) (fun k h1 h2=>hw k h1 (by omega))
      rcases (hes j _ ho).2 rfl with he | ⟨hs,_⟩ | ⟨_,x,hx,hxe,_⟩
      · exact absurd ⟨_,ho,he.1.1⟩ hn
      · exact absurd ⟨_,ho,store_eff hs⟩ hn
      · obtain⟨k1,k2⟩:=ea_insO hxe hx
        exact⟨h1.trans k1,k2.trans h2⟩
structure Match (all:List Oper) (es:Nat→Env) (S:Nat→Prop) (E:Env):Prop where
  s:∀ t j,j≤all.length→(∀ i,i<j→Wr all i t→S i)→(∀ i,j≤i→Wr all i t→¬ S i)→∀ y,lookS (es j) t=some y→lookS E t=some y
  e:∀ j,j≤all.length→(∀ i,i<j→WrE all i→S i)→(∀ i,j≤i→WrE all i→¬ S i)→EA (es j) E
end
end Go.AM
namespace Go.AM
open Go.RowKit
section
variable {n:Nat} {P:Program} {all:List Oper} {es:Nat→Env}
theorem match_start {S:Nat→Prop} (hes:∀ i o,all[i]? = some o→StepOk P n true all o (es i) (es (i+1))) (hS:∀ i,i<all.length→¬ S i):Match all es S (es 0):=by
  refine⟨fun t j hj h1 h2 y hy=>?_,fun j hj h1 h2=>?_⟩
  · rw[← stable hes (i:=0) j (Nat.zero_le _) hj (fun k _ hk hw=>hS k (by omega) (h1 k hk hw))]
    exact hy
  · exact (stableE hes (i:=0) j (Nat.zero_le _) hj (fun k _ hk hw=>hS k (by omega) (h1 k hk hw))).2
theorem look_of_match {S:Nat→Prop} {E:Env} (hm:Match all es S E) {j:Nat} (hj:j≤all.length) (h1:∀ i,i<j→S i) (h2:∀ i,j≤i→i<all.length→¬ S i) {t:Nat} {x:AV} (hx:look (es j) t=some x):look E t=some x:=by
  have hlt:∀ i (o:Oper),all[i]? = some o→i<all.length:=fun i o ho=>(List.getElem?_eq_some_iff.1 ho).1
  cases he:x.ent with
  | true=>exact hm.e j hj (fun i hi _=>h1 i hi) (fun i hi ⟨o,ho,_⟩=>h2 i hi (hlt i o ho)) t x he hx
  | false =>
    have:=hm.s t j hj (fun i hi _=>h1 i hi) (fun i hi ⟨o,ho,_⟩=>h2 i hi (hlt i o ho)) x (by simp[lookS,hx,sk_eq he]);unfold lookS at this
    cases hL:look E t with
    | none=>rw[hL]at this;cases this
    | some Y =>
      rw[hL]at this;simp only[Option.map_some,Option.some.injEq]at this
      have hY:Y.ent=false:=by rw[← sk_ent,this];exact he
      rw[sk_eq hY]at this;rw[this]
theorem JF {x y:Op} (h:Free x y):¬ (isEff x=true∧isStore x=false)∧¬ (isEff y=true∧isStore y=false)∧¬ (isEff x=true∧isEff y=true)∧(isEff x=true→memFree y=true)∧(isEff y=true→memFree x=true):=by
  rcases h with ⟨h1,h2⟩ | ⟨h1,h2⟩ | ⟨h1,h2⟩
  · refine⟨fun h=>?_,fun h=>?_,fun h=>?_,fun h=>?_,fun h=>?_⟩ <;> simp_all
  · have:=YN h2
    refine⟨fun h=>?_,fun h=>?_,fun h=>?_,fun h=>h2,fun h=>?_⟩ <;> simp_all
  · have:=YN h1
    refine⟨fun h=>?_,fun h=>?_,fun h=>?_,fun h=>?_,fun h=>h1⟩ <;> simp_all
theorem countP_lt {α:Type} {p q:α→Bool}:∀ {l:List α} {x:α},(∀ y,y∈l→q y=true→p y=true)→x∈l→p x=true→q x=false→l.countP q<l.countP p
  | [],x,_,hx,_,_=>by cases hx
  | z::l,x,h,hx,hp,hq=>by
    have hle:l.countP q≤l.countP p:=List.countP_mono_left fun y hy=>h y (List.mem_cons_of_mem _ hy)
    rw[List.countP_cons,List.countP_cons]
    cases hx with
    | head=>rw[if_pos hp,if_neg (by rw[hq];exact Bool.false_ne_true)];omega
    | tail _ hx =>
      have:=countP_lt (fun y hy=>h y (List.mem_cons_of_mem _ hy)) hx hp hq
      by_cases hz:q z=true
      · rw[if_pos hz,if_pos (h z (List.mem_cons_self ..) hz)];omega
      · rw[if_neg hz];split <;> omega
def ji (N:Nat) (listed:Array Bool):Nat:=(List.range N).countP fun i=>!listed.getD i true
theorem Qr {listed:Array Bool} {i:Nat} (h:i<listed.size):listed.getD i true=listed.getD i false:=by
  simp[h]
theorem mem_names {all:List Oper} {o:Oper} {d:Nat} (h:o.dst=some d):d∈namesOf all.toArray o:=by
  unfold namesOf;rw[h]
  simp
theorem any_sound {bs:Base} {Q:Exit→Act→World→Prop} (hes:∀ i o,all[i]? = some o→StepOk P n true all o (es i) (es (i+1))) (hord:orderOk all.toArray=true) (hback:jl all.toArray=true)
    (hQ:∀ a' w' M' O',Inv bs n M' O' (es all.length) a' w'→Q .normal a' w') :
    ∀ (fuel:Nat) (listed:Array Bool) (a:Act) (w:World) (M:Mem) (O:Gh) (E:Env),listed.size=all.length→Closed all (fun i=>listed.getD i false=true)→Match all es (fun i=>listed.getD i false=true) E →
      ji all.length listed≤fuel→Inv bs n M O E a w→wpAny P .any all.toArray Q fuel listed a w:=by
  have done:∀ (listed:Array Bool) (a:Act) (w:World) (M:Mem) (O:Gh) (E:Env),listed.size=all.length→Match all es (fun i=>listed.getD i false=true) E→Inv bs n M O E a w →
      Region.ready .any all.toArray listed=[]→Q .normal a w:=by
    intro listed a w M O E hsz hm h hr
    have hall:∀ i,i<all.length→listed.getD i false=true:=by
      intro i
      induction i using Nat.strongRecOn with
      | _ i ih =>
        intro hi
        cases hv:listed.getD i false with
        | true=>rfl
        | false =>
          exfalso;have ho:all[i]? = some all[i]:=List.getElem?_eq_getElem hi
          have:i∈Region.ready .any all.toArray listed:=by
            rw[mem_ready];refine⟨by rw[Qr (by omega)];exact hv,all[i],by simp,fun e he hb=>?_⟩
            have hlt:e.on<i:=by
              unfold jl at hback;rw[List.all_eq_true]at hback
              have hmem:(all[i],i)∈all.toArray.toList.zipIdx:=by
                rw[List.mem_iff_getElem?];exact⟨i,by simp[List.getElem?_zipIdx,ho]⟩
              have:=hback _ hmem;rw[Array.all_eq_true_iff_forall_mem]at this;have:=this e he;simp only[Bool.or_eq_true,Bool.not_eq_true']at this
              rcases this with h1 | h1
              · rw[hb]at h1;cases h1
              · exact Nat.le_of_ble_eq_true h1
            exact ih e.on hlt (by omega)
          rw[hr]at this;cases this
    refine hQ a w M O (h.sub fun t y hy=>.inl (look_of_match hm (Nat.le_refl _) (fun i hi=>hall i hi) (fun i hi hw=>by omega) hy))
  intro fuel
  induction fuel with
  | zero =>
    intro listed a w M O E hsz hc hm hu h
    have hr:Region.ready .any all.toArray listed=[]:=by
      cases hr:Region.ready .any all.toArray listed with
      | nil=>rfl
      | cons i rs =>
        exfalso
        have hi:i∈Region.ready .any all.toArray listed:=by rw[hr];exact List.mem_cons_self ..
        rw[mem_ready]at hi;obtain⟨h0,o,ho,_⟩:=hi
        have hil:i<all.length:=by
          have:=(Array.getElem?_eq_some_iff.1 ho).1
          simpa using this
        have:0<ji all.length listed:=by
          unfold ji;rw[List.countP_pos_iff];exact⟨i,List.mem_range.2 hil,by rw[h0];rfl⟩
        omega
    exact⟨hr,done listed a w M O E hsz hm h hr⟩
  | succ fuel ih =>
    intro listed a w M O E hsz hc hm hu h;refine⟨fun hr=>done listed a w M O E hsz hm h hr,fun k hk=>?_⟩;rw[mem_ready]at hk;obtain⟨hk0,ok,hok,hkall⟩:=hk
    have hok':all[k]? = some ok:=by simpa using hok
    have hkl:k<all.length:=(List.getElem?_eq_some_iff.1 hok').1
    have hkf:listed.getD k false=false:=by rw[← Qr (by omega)];exact hk0
    have hdeps:∀ i,((Region.before all.toArray).getD k 0).testBit i=true→listed.getD i false=true :=
      Xa hc k ok hok' (fun e he hb=>hkall e (by simpa using he) hb)
    have hnot:∀ i,listed.getD i false=true→i<all.length→((Region.before all.toArray).getD i 0).testBit k=false:=by
      intro i hi hil
      cases hb:((Region.before all.toArray).getD i 0).testBit k with
      | false=>rfl
      | true =>
        have:=Xa hc i _ (List.getElem?_eq_getElem hil) (fun e he hb=>hc i _ (List.getElem?_eq_getElem hil) hi e he hb) k hb;simp only[hkf]at this;cases this
    have hsz':(listed.setIfInBounds k true).size=all.length:=by simp[hsz]
    have hset:∀ i,(listed.setIfInBounds k true).getD i false=true↔(i=k∨listed.getD i false=true):=by
      intro i
      by_cases hik:i=k
      · subst hik
        have hkk:i<listed.size:=by omega
        simp[hkk]
      · rw[getD_set_ne false (fun e=>hik e.symm)]
        simp[hik]
    have hc':Closed all (fun i=>(listed.setIfInBounds k true).getD i false=true):=by
      intro j o ho hj e he hb;rw[hset]at hj ⊢
      rcases hj with rfl | hj
      · rw[hok']at ho
        cases ho;exact .inr (hkall e (by simpa using he) hb)
      · exact .inr (hc j o ho hj e he hb)
    have hu':ji all.length (listed.setIfInBounds k true)≤fuel:=by
      have:ji all.length (listed.setIfInBounds k true)<ji all.length listed:=by
        unfold ji;refine countP_lt (x:=k) (fun i hi hq=>?_) (List.mem_range.2 hkl) (by rw[hk0];rfl) ?_
        · have hil:=List.mem_range.1 hi
          simp only[Bool.not_eq_true']at hq ⊢;rw[Qr (by omega)]at hq ⊢
          cases hv:listed.getD i false with
          | false=>rfl
          | true =>
            have:=(hset i).2 (.inr hv);rw[this]at hq;cases hq
        · have hkk:k<listed.size:=by omega
          simp[hkk]
      omega
    obtain⟨hsem,hpure⟩:=hes k ok hok'
    have hwp:∀ (K:Act→World→Prop),(if Region.wanted ok (yielded all.toArray a.tmps) then ok.wp P a w K Q else K (a.put ok.dst undef) w)→wpOp P all.toArray Q k K a w:=by
      intro K hK;unfold wpOp;rw[hok]
      simp only
      split
      · rename_i hw;rw[if_pos hw]at hK;exact .inl hK
      · rename_i hw;rw[if_neg hw]at hK;exact hK
    refine hwp _ ?_
    have P1:∀ i oi,all[i]? = some oi→i<k→listed.getD i false=true∨(Free oi.op ok.op∧(∀ d,oi.dst=some d→d ∉ namesOf all.toArray ok)∧(∀ d,ok.dst=some d→d ∉ namesOf all.toArray oi)):=by
      intro i oi hoi hi
      rcases orderOk_spec hord hi hoi hok' with h1 | h1
      · exact .inl (hdeps i h1)
      · exact .inr h1
    have P2:∀ i oi,all[i]? = some oi→k<i→listed.getD i false=true→(Free ok.op oi.op∧(∀ d,ok.dst=some d→d ∉ namesOf all.toArray oi)∧(∀ d,oi.dst=some d→d ∉ namesOf all.toArray ok)):=by
      intro i oi hoi hi hl
      rcases orderOk_spec hord hi hok' hoi with h1 | h1
      · rw[hnot i hl (List.getElem?_eq_some_iff.1 hoi).1]at h1;cases h1
      · exact h1
    have hNA:NA all ok (es k) E:=by
      intro t ht y hy;refine hm.s t k (by omega) (fun i hi hw=>?_) (fun i hi hw hl=>?_) y hy
      · obtain⟨oi,hoi,hwi⟩:=hw
        rcases P1 i oi hoi hi with h1 | ⟨h1,h2,_⟩
        · exact h1
        · rcases hwi with hwi | hwi
          · exact absurd hwi (JF h1).1
          · exact absurd ht (h2 t hwi)
      · obtain⟨oi,hoi,hwi⟩:=hw
        rcases Nat.lt_or_ge k i with hki | hki
        · obtain⟨h1,h2,h3⟩:=P2 i oi hoi hki hl
          rcases hwi with hwi | hwi
          · exact absurd hwi (JF h1).2.1
          · exact absurd ht (h3 t hwi)
        · have:i=k:=by omega
          subst this;simp only[hkf]at hl;cases hl
    have hEA:memFree ok.op=false→EA (es k) E:=by
      intro hmf;refine hm.e k (by omega) (fun i hi hw=>?_) (fun i hi hw hl=>?_)
      · obtain⟨oi,hoi,hwi⟩:=hw
        rcases P1 i oi hoi hi with h1 | ⟨h1,_⟩
        · exact h1
        · rw[(JF h1).2.2.2.1 hwi]at hmf;cases hmf
      · obtain⟨oi,hoi,hwi⟩:=hw
        rcases Nat.lt_or_ge k i with hki | hki
        · obtain⟨h1,_⟩:=P2 i oi hoi hki hl
          rw[(JF h1).2.2.2.2 hwi]at hmf;cases hmf
        · have:i=k:=by omega
          subst this;simp only[hkf]at hl;cases hl
    rcases hpure rfl with ⟨hhard,_⟩ | ⟨hst,hdn,s,x,x',hx,hxe,hxe',hsk,hes1,hstep⟩ | ⟨hcl,x,hx,hxe,hstep⟩
    ·
      have hbefore:∀ i,i<k→listed.getD i false=true:=by
        intro i hi
        rcases P1 i _ (List.getElem?_eq_getElem (by omega)) hi with h1 | ⟨h1,_⟩
        · exact h1
        · exact absurd hhard (JF h1).2.1
      have hafter:∀ i,k<i→i<all.length→¬ listed.getD i false=true:=by
        intro i hi hil hli;exact absurd hhard (JF (P2 i _ (List.getElem?_eq_getElem hil) hi hli).1).1
      have hE:Inv bs n M O (es k) a w:=h.sub fun t y hy=>.inl (look_of_match hm (by omega) hbefore (fun i hi hil hl=>by
        rcases Nat.lt_or_ge k i with h1 | h1
        · exact hafter i h1 hil hl
        · have:i=k:=by omega
          subst this;simp only[hkf]at hl
          cases hl) hy)
      refine hsem bs M O a w hE _ Q fun a' w' M' O' h'=>ih _ a' w' M' O' (es (k+1)) hsz' hc' ⟨fun t j hj h1 h2 y hy=>?_,fun j hj h1 h2=>?_⟩ hu' h'
      · have hkj:k<j:=by
          refine Nat.lt_of_not_le fun hle=>?_
          exact h2 k hle ⟨ok,hok',.inl hhard⟩ ((hset k).2 (.inl rfl))
        have hst:=stable hes (t:=t) (i:=k+1) j hkj hj (fun i hi1 hi2 hw=>by
          rcases (hset i).1 (h1 i hi2 hw) with e | e
          · omega
          · exact hafter i (by omega) (by omega) e)
        rw[hst]at hy;exact hy
      · have hkj:k<j:=by
          refine Nat.lt_of_not_le fun hle=>?_
          exact h2 k hle ⟨ok,hok',hhard.1⟩ ((hset k).2 (.inl rfl))
        exact (stableE hes (i:=k+1) j hkj hj (fun i hi1 hi2 hw=>by
          rcases (hset i).1 (h1 i hi2 hw) with e | e
          · omega
          · exact hafter i (by omega) (by omega) e)).2
    ·
      have heff:=store_eff hst
      have hmf:memFree ok.op=false:=by
        cases hv:memFree ok.op with
        | false=>rfl
        | true=>rw[YN hv]at heff;cases heff
      have hea:=hEA hmf;have hxE:look E s=some x:=hea s x hxe hx
      have hkw:∀ t,¬ Wr all k t:=by
        rintro t ⟨o',ho',hw'⟩
        rw[hok']at ho';cases ho'
        rcases hw' with hw' | hw'
        · rw[hst]at hw';cases hw'.2
        · rw[hdn]at hw';cases hw'
      refine hstep E hNA hxE bs M O a w h _ Q fun a' w' M' O' h'=>ih _ a' w' M' O' _ hsz' hc' ⟨fun t j hj h1 h2 y hy=>?_,fun j hj h1 h2=>?_⟩ hu' h'
      · rw[lookS_ins_sk hxE hsk]
        refine hm.s t j hj (fun i hi hw=>?_) (fun i hi hw hl=>h2 i hi hw ((hset i).2 (.inr hl))) y hy
        rcases (hset i).1 (h1 i hi hw) with e | e
        · subst e;exact absurd hw (hkw t)
        · exact e
      · have hkj:k<j:=by
          refine Nat.lt_of_not_le fun hle=>?_
          exact h2 k hle ⟨ok,hok',heff⟩ ((hset k).2 (.inl rfl))
        have hst2:=(stableE hes (i:=k+1) j hkj hj (fun i hi1 hi2 hw=>by
          rcases (hset i).1 (h1 i hi2 hw) with e | e
          · omega
          · obtain⟨oi,hoi,hwi⟩:=hw
            exact (JF (P2 i oi hoi (by omega) e).1).2.2.1 ⟨heff,hwi⟩)).2
        refine hst2.trans ?_;rw[hes1];intro t y hy hl;rw[qJ]at hl ⊢
        split
        · rename_i e
          rw[if_pos e]at hl;exact hl
        · rename_i e
          rw[if_neg e]at hl;exact hea t y hy hl
    ·
      obtain⟨hes1,hdn,hdent⟩:=JC hx
      have hnoth:¬ (isEff ok.op=true∧isStore ok.op=false):=by
        rintro⟨e1,e2⟩
        rcases hcl with e | e
        · rw[e]at e1;cases e1
        · rw[e]at e2;cases e2
      have hmem:memFree ok.op=true∨EA (es k) E:=by
        cases hv:memFree ok.op with
        | true=>exact .inl rfl
        | false=>exact .inr (hEA hv)
      refine hstep E hNA hmem bs M O a w h _ Q fun a' w' M' O' h'=>ih _ a' w' M' O' _ hsz' hc' ⟨fun t j hj h1 h2 y hy=>?_,fun j hj h1 h2=>?_⟩ hu' h'
      · by_cases hdt:ok.dst=some t
        · have hkw:Wr all k t:=⟨ok,hok',.inr hdt⟩
          have hkj:k<j:=by
            refine Nat.lt_of_not_le fun hle=>?_
            exact h2 k hle hkw ((hset k).2 (.inl rfl))
          have hst:=stable hes (t:=t) (i:=k+1) j hkj hj (fun i hi1 hi2 hw=>by
            rcases (hset i).1 (h1 i hi2 hw) with e | e
            · omega
            · obtain⟨oi,hoi,hwi⟩:=hw
              obtain⟨g1,g2,_⟩:=P2 i oi hoi (by omega) e
              rcases hwi with hwi | hwi
              · exact (JF g1).2.1 hwi
              · exact g2 t hdt (mem_names hwi))
          rw[hst,hes1,hdt]at hy;unfold lookS at hy ⊢;rw[hdt];simp only[insO]at hy ⊢;rw[qJ,if_pos rfl]at hy ⊢;exact hy
        · unfold lookS
          rw[Yl hdt]
          have hkw:¬ Wr all k t:=by
            rintro⟨o',ho',hw'⟩
            rw[hok']at ho';cases ho'
            rcases hw' with hw' | hw'
            · exact hnoth hw'
            · exact hdt hw'
          refine hm.s t j hj (fun i hi hw=>?_) (fun i hi hw hl=>h2 i hi hw ((hset i).2 (.inr hl))) y hy
          rcases (hset i).1 (h1 i hi hw) with e | e
          · subst e;exact absurd hw hkw
          · exact e
      ·
        have out:∀ {F:Env},EA F E→(∀ d,ok.dst=some d→∀ y,look F d=some y→y.ent=false)→EA F (insO ok.dst x E):=by
          intro F hF hno t y hy hl
          by_cases hdt:ok.dst=some t
          · rw[hno t hdt y hl]at hy;cases hy
          · rw[Yl hdt]
            exact hF t y hy hl
        by_cases hke:isEff ok.op=true
        · have hmf:memFree ok.op=false:=by
            cases hv:memFree ok.op with
            | false=>rfl
            | true=>rw[YN hv]at hke;cases hke
          have hkj:k<j:=by
            refine Nat.lt_of_not_le fun hle=>?_
            exact h2 k hle ⟨ok,hok',hke⟩ ((hset k).2 (.inl rfl))
          have hst2:=(stableE hes (i:=k+1) j hkj hj (fun i hi1 hi2 hw=>by
            rcases (hset i).1 (h1 i hi2 hw) with e | e
            · omega
            · obtain⟨oi,hoi,hwi⟩:=hw
              exact (JF (P2 i oi hoi (by omega) e).1).2.2.1 ⟨hke,hwi⟩)).2
          exact (hst2.trans (ea_insO hxe hx).2).trans (out (hEA hmf) hdent)
        · have hkw:¬ WrE all k:=by
            rintro⟨o',ho',hw'⟩
            rw[hok']at ho';cases ho';exact hke hw'
          have hej:EA (es j) E:=hm.e j hj (fun i hi hw=>by
            rcases (hset i).1 (h1 i hi hw) with e | e
            · subst e;exact absurd hw hkw
            · exact e) (fun i hi hw hl=>h2 i hi hw ((hset i).2 (.inr hl)))
          refine out hej fun d hd y hy=>?_
          rcases Nat.lt_or_ge k j with hkj | hkj
          ·
            have key:∀ i,k+1≤i→i≤j→∀ y,look (es i) d=some y→y.ent=false:=by
              intro i
              induction i with
              | zero=>intro h;omega
              | succ i ihi =>
                intro hi1 hi2 y hy
                by_cases hik:k=i
                · subst hik
                  rw[hes1,hd]at hy;simp only[insO]at hy;rw[qJ,if_pos rfl]at hy;cases hy;exact hxe
                · have hil:i<all.length:=by omega
                  have hoi:all[i]? = some all[i]:=List.getElem?_eq_getElem hil
                  rcases (hes i _ hoi).2 rfl with ⟨he,_⟩ | ⟨_,_,s',z,z',hz,hze,hze',_,e1,_⟩ | ⟨_,z,hz,hze,_⟩
                  · exfalso
                    rcases (hset i).1 (h1 i (by omega) ⟨_,hoi,he.1⟩) with e | e
                    · omega
                    · exact absurd he (JF (P2 i _ hoi (by omega) e).1).2.1
                  · rw[e1,qJ]at hy
                    split at hy
                    · rename_i e;subst e
                      have:=ihi (by omega) (by omega) z hz;rw[hze]at this;cases this
                    · exact ihi (by omega) (by omega) y hy
                  · obtain⟨e1,_,_⟩:=JC hz
                    rw[e1]at hy
                    by_cases hdi:all[i].dst=some d
                    · rw[hdi]at hy
                      simp only[insO]at hy;rw[qJ,if_pos rfl]at hy;cases hy;exact hze
                    · rw[Yl hdi]at hy
                      exact ihi (by omega) (by omega) y hy
            exact key j (by omega) (Nat.le_refl _) y hy
          ·
            cases hye:y.ent with
            | false=>rfl
            | true =>
              exfalso
              have key:∀ i,j≤i→i≤k→∃ z,look (es i) d=some z∧z.ent=true:=by
                intro i
                induction i with
                | zero =>
                 intro hi1 _;have:j=0:=by omega
                 subst this;exact⟨y,hy,hye⟩
                | succ i ihi =>
                  intro hi1 hi2
                  by_cases hij:j=i+1
                  · subst hij;exact⟨y,hy,hye⟩
                  · have hil:i<all.length:=by omega
                    have hoi:all[i]? = some all[i]:=List.getElem?_eq_getElem hil;obtain⟨z0,hz0,hze0⟩:=ihi (by omega) (by omega)
                    rcases (hes i _ hoi).2 rfl with ⟨he,_⟩ | ⟨_,_,s',z,z',hz,hze,hze',_,e1,_⟩ | ⟨_,z,hz,hze,_⟩
                    · exfalso
                      refine h2 i (by omega) ⟨_,hoi,he.1⟩ ((hset i).2 (.inr ?_))
                      rcases P1 i _ hoi (by omega) with e | ⟨e,_⟩
                      · exact e
                      · exact absurd he (JF e).1
                    · rw[e1,qJ]
                      split
                      · exact⟨z',rfl,hze'⟩
                      · exact⟨z0,hz0,hze0⟩
                    · obtain⟨e1,_,e3⟩:=JC hz
                      rw[e1]
                      by_cases hdi:all[i].dst=some d
                      · have:=e3 d hdi z0 hz0
                        rw[hze0]at this;cases this
                      · rw[Yl hdi]
                        exact⟨z0,hz0,hze0⟩
              obtain⟨z,hz,hze⟩:=key k hkj (Nat.le_refl _);have:=hdent d hd z hz;rw[hze]at this;cases this
theorem region_draw {bs:Base} {M:Mem} {O:Gh} {a:Act} {w:World} {id:Nat} {ops:Array Oper} {e e':Env} (hmix:P.follows .mixedOrders=true) (hord:orderOk ops=true) (hback:jl ops=true)
    (hc:Chain P n true ops.toList ops.toList e e') (h:Inv bs n M O e a w) {Q:Exit→Act→World→Prop} (hQ:∀ a' w' M' O',Inv bs n M' O' e' a' w'→Q .normal a' w'):(Code.region id ops true).wp P Q a w:=by
  obtain⟨es,h1,h2,h3⟩:=chain_envs hc rfl;have ea:ops.toList.toArray=ops:=Array.toArray_toList;refine wp_region_any hmix ?_;have hdr:Inv bs n M O e a { w with drawn:=w.drawn+1 }:=h.grown (row:=none) (fun g e=>by cases e) ⟨rfl,rfl,rfl,Nat.le_refl _,fun _ _ _=>rfl⟩ (Sub.refl M) (fun b o u hu=>h.cons b o u hu) (fun _ _ _ _=>rfl);have:=any_sound (P:=P) (n:=n) (all:=ops.toList) (es:=es) (bs:=bs) (Q:=Q) h3 (by rw[ea];exact hord) (by rw[ea];exact hback) (fun a' w' M' O' h'=>hQ a' w' M' O' (by rw[← h2];exact h')) ops.size (Array.replicate ops.size false) a { w with drawn:=w.drawn+1 } M O e (by simp)
    (fun j o ho hj=>by simp[Array.getElem?_replicate]at hj;split at hj <;> simp at hj)
    (by
      rw[← h1]
      exact match_start h3 (fun i hi hS=>by
        have:i<ops.size:=by simpa using hi
        simp[this]at hS))
    (by
      unfold ji;have:=List.countP_le_length (p:=fun i=>!(Array.replicate ops.size false).getD i true) (l:=List.range ops.toList.length)
      simpa using this) hdr
  rw[ea]at this;exact this
end
end Go.AM
