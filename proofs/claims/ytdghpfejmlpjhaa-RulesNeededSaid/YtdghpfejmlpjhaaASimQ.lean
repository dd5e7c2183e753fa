/- s -/
import Derived.Test.YtdghpfejmlpjhaaARun
import Derived.Test.YtdghpfejmlpjhaaASimW
set_option maxRecDepth 100000
set_option linter.unusedVariables false
set_option linter.unusedSimpArgs false
namespace Go.AM
open Go.RowKit
variable {P:Program} {n:Nat} {all:List Oper}
theorem qcM {o:Oper} {e e1:Env} {zv:AV} (hw:awanted all o e=some true) (he:aclear P o e zv=some e1):StepSem P n all o e e1:=by
 intro bs M O a w h K Q hK;rw[qZ h hw];simp only[if_true];exact Xe (qcr h he) hK
theorem qdF {draw:Bool} {e e1:Env} (hc:Chain P n draw all [] e e1):∀ (bs:Base) (M:Mem) (O:Gh) (a:Act) (w:World),Inv bs n M O e a w→∃ M' O',Inv bs n M' O' e1 a w:=by
 generalize hl:([]:List Oper)=l at hc
 induction hc with
 | nil=>intro bs M O a w h;exact⟨M,O,h⟩
 | drop e0 _ hw _ ih =>
  intro bs M O a w h;obtain⟨M',O',h'⟩:=hw bs M O a w h;exact ih hl bs M' O' a w h'
 | step=>cases hl
theorem qfb {draw:Bool} {o:Oper} {e e1:Env} (hc:Chain P n draw all [o] e e1):StepSem P n all o e e1:=by
 generalize hl:[o]=l at hc
 induction hc with
 | nil=>cases hl
 | drop e0 _ hw _ ih =>
  intro bs M O a w h K Q hK;obtain⟨M',O',h'⟩:=hw bs M O a w h;exact ih hl bs M' O' a w h' K Q hK
 | step h hr _ =>
  cases hl;intro bs M O a w hi K Q hK
  refine h.1 bs M O a w hi K Q fun a' w' M' O' h'=>?_
  obtain⟨M2,O2,h2⟩:=qdF hr bs M' O' a' w' h';exact hK a' w' M2 O2 h2
def AnyOk (P:Program) (n:Nat) (all:List Oper) (R:List Nat) (e e':Env):Prop :=
 ∀ (bs:Base) (Q:Exit→Act→World→Prop),Jg all.toArray=true→(∀ a' w' M' O',Inv bs n M' O' e' a' w'→Q .normal a' w') →
  ∀ (fuel:Nat) (listed:Array Bool) (a:Act) (w:World) (M:Mem) (O:Gh),listed.size=all.length→Closed all (fun i=>listed.getD i false=true)→R.Nodup→(∀ i,i∈R→i<all.length)→(∀ i,i<all.length→(i∈R↔listed.getD i false=false)) →
   JE all.length listed≤fuel→Inv bs n M O e a w→wpAny P .any all.toArray Q fuel listed a w
theorem qeK {listed:Array Bool} {R:List Nat} (hback:Jg all.toArray=true) (hsz:listed.size=all.length) (hlt:∀ i,i∈R→i<all.length) (hR:∀ i,i<all.length→(i∈R↔listed.getD i false=false)) (hr:Region.ready .any all.toArray listed=[]):R=[]:=by
 have hall:∀ i,i<all.length→listed.getD i false=true:=by
  intro i
  induction i using Nat.strongRecOn with
  | _ i ih =>
   intro hi
   cases hv:listed.getD i false with
   | true=>rfl
   | false =>
    exfalso;have ho:all[i]? = some all[i]:=List.getElem?_eq_getElem hi
    have:i∈Region.ready .any all.toArray listed:=by
     rw[mem_ready];refine⟨by rw[XN (by omega)];exact hv,all[i],by simp,fun e he hb=>?_⟩
     have hlt:e.on<i:=by
      unfold Jg at hback;rw[List.all_eq_true]at hback
      have hmem:(all[i],i)∈all.toArray.toList.zipIdx:=by
       rw[List.mem_iff_getElem?];exact⟨i,by simp[List.getElem?_zipIdx,ho]⟩
      have:=hback _ hmem;rw[Array.all_eq_true_iff_forall_mem]at this;have:=this e he;simp only[Bool.or_eq_true,Bool.not_eq_true']at this
      rcases this with h1 | h1
      ·rw[hb]at h1;cases h1
      ·exact Nat.le_of_ble_eq_true h1
     exact ih e.on hlt (by omega)
    rw[hr]at this;cases this
 cases R with
 | nil=>rfl
 | cons i R =>
  have hi:=hlt i (List.mem_cons_self ..);have:=(hR i hi).1 (List.mem_cons_self ..);rw[hall i hi]at this;cases this
theorem qfk {e:Env}:AnyOk P n all [] e e:=by
 intro bs Q hback hQ fuel listed a w M O hsz hc hnd hlt hR hu h
 have hr:Region.ready .any all.toArray listed=[]:=by
  cases hr:Region.ready .any all.toArray listed with
  | nil=>rfl
  | cons i rs =>
   exfalso
   have hi:i∈Region.ready .any all.toArray listed:=by rw[hr];exact List.mem_cons_self ..
   rw[mem_ready]at hi;obtain⟨h0,o,ho,_⟩:=hi
   have hil:i<all.length:=by
    have:=(Array.getElem?_eq_some_iff.1 ho).1
    simpa using this
   have:=(hR i hil).2 (by rw[← XN (by omega)];exact h0);cases this
 cases fuel with
 | zero=>exact⟨hr,hQ a w M O h⟩
 | succ fuel=>exact⟨fun _=>hQ a w M O h,fun k hk=>by rw[hr]at hk;cases hk⟩
theorem qdO {R:List Nat} {e e':Env} (F:Nat→Env) (hne:R≠[]) (hF:∀ k o,k∈R→all[k]? = some o→readyR all R k=true→StepSem P n all o e (F k)) (hrec:∀ k,k∈R→readyR all R k=true→AnyOk P n all (R.erase k) (F k) e'):AnyOk P n all R e e':=by
 intro bs Q hback hQ fuel listed a w M O hsz hc hnd hlt hR hu h
 have hno:Region.ready .any all.toArray listed≠[]:=fun hr=>hne (qeK hback hsz hlt hR hr)
 cases fuel with
 | zero =>
  exfalso
  cases hr:Region.ready .any all.toArray listed with
  | nil=>exact hno hr
  | cons i rs =>
   have hi:i∈Region.ready .any all.toArray listed:=by rw[hr];exact List.mem_cons_self ..
   rw[mem_ready]at hi;obtain⟨h0,o,ho,_⟩:=hi
   have hil:i<all.length:=by
    have:=(Array.getElem?_eq_some_iff.1 ho).1
    simpa using this
   have:0<JE all.length listed:=by
    unfold JE;rw[List.countP_pos_iff];exact⟨i,List.mem_range.2 hil,by rw[h0];rfl⟩
   omega
 | succ fuel =>
  refine⟨fun hr=>absurd hr hno,fun k hk=>?_⟩;rw[mem_ready]at hk;obtain⟨hk0,ok,hok,hkall⟩:=hk
  have hok':all[k]? = some ok:=by simpa using hok
  have hkl:k<all.length:=(List.getElem?_eq_some_iff.1 hok').1
  have hkf:listed.getD k false=false:=by rw[← XN (by omega)];exact hk0
  have hdeps:∀ i,((Region.before all.toArray).getD k 0).testBit i=true→listed.getD i false=true :=
   YY hc k ok hok' (fun e he hb=>hkall e (by simpa using he) hb)
  have hsz':(listed.setIfInBounds k true).size=all.length:=by simp[hsz]
  have hset:∀ i,(listed.setIfInBounds k true).getD i false=true↔(i=k∨listed.getD i false=true):=by
   intro i
   by_cases hik:i=k
   ·subst hik
    have hkk:i<listed.size:=by omega
    simp[hkk]
   ·rw[getD_set_ne false (fun e=>hik e.symm)]
    simp[hik]
  have hc':Closed all (fun i=>(listed.setIfInBounds k true).getD i false=true):=by
   intro j o ho hj e he hb;rw[hset]at hj ⊢
   rcases hj with rfl | hj
   ·rw[hok']at ho;cases ho;exact .inr (hkall e (by simpa using he) hb)
   ·exact .inr (hc j o ho hj e he hb)
  have hu':JE all.length (listed.setIfInBounds k true)≤fuel:=by
   have:JE all.length (listed.setIfInBounds k true)<JE all.length listed:=by
    unfold JE;refine Zq (x:=k) (fun i hi hq=>?_) (List.mem_range.2 hkl) (by rw[hk0];rfl) ?_
    ·have hil:=List.mem_range.1 hi;simp only[Bool.not_eq_true']at hq ⊢;rw[XN (by omega)]at hq ⊢
     cases hv:listed.getD i false with
     | false=>rfl
     | true =>
      have:=(hset i).2 (.inr hv);rw[this]at hq;cases hq
    ·have hkk:k<listed.size:=by omega
     simp[hkk]
   omega
  have hwp:∀ (K:Act→World→Prop),(if Region.wanted ok (yielded all.toArray a.tmps) then ok.wp P a w K Q else K (a.put ok.dst undef) w)→wpOp P all.toArray Q k K a w:=by
   intro K hK;unfold wpOp;rw[hok]
   simp only
   split
   ·rename_i hw;rw[if_pos hw]at hK;exact .inl hK
   ·rename_i hw;rw[if_neg hw]at hK;exact hK
  refine hwp _ ?_;have hkR:k∈R:=(hR k hkl).2 hkf
  have hrd:readyR all R k=true:=by
   unfold readyR;rw[List.all_eq_true];intro i hi
   cases hb:((Region.before all.toArray).getD k 0).testBit i with
   | false=>rfl
   | true =>
    have:=(hR i (hlt i hi)).1 hi;rw[hdeps i hb]at this;cases this
  refine hF k ok hkR hok' hrd bs M O a w h _ Q fun a' w' M' O' h'=>hrec k hkR hrd bs Q hback hQ fuel _ a' w' M' O' hsz' hc' (hnd.erase k) (fun i hi=>hlt i (List.mem_of_mem_erase hi)) (fun i hi=>?_) hu' h'
  have h1:=hR i hi;rw[hnd.mem_erase_iff]
  constructor
  ·rintro⟨hik,hm⟩
   cases hv:(listed.setIfInBounds k true).getD i false with
   | false=>rfl
   | true =>
    rcases (hset i).1 hv with e | e
    ·exact absurd e hik
    ·rw[h1.1 hm]at e;cases e
  ·intro hv
   have hik:i≠k:=fun e=>by rw[(hset i).2 (.inl e)]at hv;cases hv
   refine⟨hik,h1.2 ?_⟩
   cases hw:listed.getD i false with
   | false=>rfl
   | true=>rw[(hset i).2 (.inr hw)]at hv;cases hv
theorem qaW {bs:Base} {M:Mem} {O:Gh} {a:Act} {w:World} {id:Nat} {ops:Array Oper} {e e':Env} (hmix:P.follows .mixedOrders=true) (hback:Jg ops=true)
  (hc:AnyOk P n ops.toList (List.range ops.size) e e') (h:Inv bs n M O e a w) {Q:Exit→Act→World→Prop} (hQ:∀ a' w' M' O',Inv bs n M' O' e' a' w'→Q .normal a' w'):(Code.region id ops true).wp P Q a w:=by
 have ea:ops.toList.toArray=ops:=Array.toArray_toList;refine wp_region_any hmix ?_;have hdr:Inv bs n M O e a { w with drawn:=w.drawn+1 }:=h.grown (row:=none) (fun g e=>by cases e) ⟨rfl,rfl,rfl,Nat.le_refl _,fun _ _ _=>rfl⟩ (Sub.refl M) (fun b o u hu=>h.cons b o u hu) (fun _ _ _ _=>rfl);have:=hc bs Q (by rw[ea];exact hback) hQ ops.size (Array.replicate ops.size false) a { w with drawn:=w.drawn+1 } M O (by simp)
  (fun j o ho hj=>by simp[Array.getElem?_replicate]at hj;split at hj <;> simp at hj) List.nodup_range (fun i hi=>by simpa using List.mem_range.1 hi)
  (fun i hi=>⟨fun _=>by simp[Array.getElem?_replicate];split <;> simp,fun _=>List.mem_range.2 (by simpa using hi)⟩)
  (by
   unfold JE;have:=List.countP_le_length (p:=fun i=>!(Array.replicate ops.size false).getD i true) (l:=List.range ops.toList.length)
   simpa using this) hdr
 rw[ea]at this;exact this
end Go.AM
