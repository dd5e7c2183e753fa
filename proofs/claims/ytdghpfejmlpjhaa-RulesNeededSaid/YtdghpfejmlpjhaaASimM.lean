/- s -/
import Derived.Test.YtdghpfejmlpjhaaASimL
set_option linter.unusedVariables false
set_option linter.unusedSimpArgs false
namespace Go.AM
open Go.RowKit
section
variable {n:Nat} {P:Program} {all:List Oper} {es:Nat→Env}
theorem qbY {S:Nat→Prop} (hes:∀ i o,all[i]? = some o→StepOk P n true all o (es i) (es (i+1))) (hS:∀ i,i<all.length→¬ S i):Match all es S (es 0):=by
  refine⟨fun t j hj h1 h2 y hy=>?_,fun j hj h1 h2=>?_⟩
  · rw[← stable hes (i:=0) j (Nat.zero_le _) hj (fun k _ hk hw=>hS k (by omega) (h1 k hk hw))]
    exact hy
  · exact (stableE hes (i:=0) j (Nat.zero_le _) hj (fun k _ hk hw=>hS k (by omega) (h1 k hk hw))).2
theorem VV {S:Nat→Prop} {E:Env} (hm:Match all es S E) {j:Nat} (hj:j≤all.length) (h1:∀ i,i<j→S i) (h2:∀ i,j≤i→i<all.length→¬ S i) {t:Nat} {x:AV} (hx:look (es j) t=some x):look E t=some x:=by
  have hlt:∀ i (o:Oper),all[i]? = some o→i<all.length:=fun i o ho=>(List.getElem?_eq_some_iff.1 ho).1
  cases he:x.ent with
  | true=>exact hm.e j hj (fun i hi _=>h1 i hi) (fun i hi ⟨o,ho,_⟩=>h2 i hi (hlt i o ho)) t x he hx
  | false =>
    have:=hm.s t j hj (fun i hi _=>h1 i hi) (fun i hi ⟨o,ho,_⟩=>h2 i hi (hlt i o ho)) x (by simp[lookS,hx,qdS he]);unfold lookS at this
    cases hL:look E t with
    | none=>rw[hL]at this;cases this
    | some Y =>
      rw[hL]at this;simp only[Option.map_some,Option.some.injEq]at this
      have hY:Y.ent=false:=by rw[← qfw,this];exact he
      rw[qdS hY]at this;rw[this]
theorem JQ {x y:Op} (h:Free x y):¬ (isEff x=true∧isStore x=false)∧¬ (isEff y=true∧isStore y=false)∧¬ (isEff x=true∧isEff y=true)∧(isEff x=true→memFree y=true)∧(isEff y=true→memFree x=true):=by
  rcases h with ⟨h1,h2⟩ | ⟨h1,h2⟩ | ⟨h1,h2⟩
  · refine⟨fun h=>?_,fun h=>?_,fun h=>?_,fun h=>?_,fun h=>?_⟩ <;> simp_all
  · have:=YN h2
    refine⟨fun h=>?_,fun h=>?_,fun h=>?_,fun h=>h2,fun h=>?_⟩ <;> simp_all
  · have:=YN h1
    refine⟨fun h=>?_,fun h=>?_,fun h=>?_,fun h=>?_,fun h=>h1⟩ <;> simp_all
theorem Zq {α:Type} {p q:α→Bool}:∀ {l:List α} {x:α},(∀ y,y∈l→q y=true→p y=true)→x∈l→p x=true→q x=false→l.countP q<l.countP p
  | [],x,_,hx,_,_=>by cases hx
  | z::l,x,h,hx,hp,hq=>by
    have hle:l.countP q≤l.countP p:=List.countP_mono_left fun y hy=>h y (List.mem_cons_of_mem _ hy)
    rw[List.countP_cons,List.countP_cons]
    cases hx with
    | head=>rw[if_pos hp,if_neg (by rw[hq];exact Bool.false_ne_true)];omega
    | tail _ hx =>
      have:=Zq (fun y hy=>h y (List.mem_cons_of_mem _ hy)) hx hp hq
      by_cases hz:q z=true
      · rw[if_pos hz,if_pos (h z (List.mem_cons_self ..) hz)];omega
      · rw[if_neg hz];split <;> omega
def JE (N:Nat) (listed:Array Bool):Nat:=(List.range N).countP fun i=>!listed.getD i true
theorem XN {listed:Array Bool} {i:Nat} (h:i<listed.size):listed.getD i true=listed.getD i false:=by
  simp[h]
theorem qeM {all:List Oper} {o:Oper} {d:Nat} (h:o.dst=some d):d∈namesOf all.toArray o:=by
  unfold namesOf;rw[h]
  simp
theorem qfj {bs:Base} {Q:Exit→Act→World→Prop} (hes:∀ i o,all[i]? = some o→StepOk P n true all o (es i) (es (i+1))) (hord:orderOk all.toArray=true) (hback:Jg all.toArray=true)
    (hQ:∀ a' w' M' O',Inv bs n M' O' (es all.length) a' w'→Q .normal a' w') :
    ∀ (fuel:Nat) (listed:Array Bool) (a:Act) (w:World) (M:Mem) (O:Gh) (E:Env),listed.size=all.length→Closed all (fun i=>listed.getD i false=true)→Match all es (fun i=>listed.getD i false=true) E →
      JE all.length listed≤fuel→Inv bs n M O E a w→wpAny P .any all.toArray Q fuel listed a w:=by
  have done:∀ (listed:Array Bool) (a:Act) (w:World) (M:Mem) (O:Gh) (E:Env),listed.size=all.length→Match all es (fun i=>listed.getD i false=true) E→Inv bs n M O E a w →
      Region.ready .any all.toArray listed=[]→Q .normal a w:=by
    intro listed a w M O E hsz hm h hr
    have hall:∀ i,i<all.length→listed.getD i false=true:=by
      intro i
      induction i using Nat.strongRecOn with
      | _ i ih =>
        intro hi
        cases hv:listed.getD i false with
        | true=>rfl
        | false =>
          exfalso;have ho:all[i]? = some all[i]:=List.getElem?_eq_getElem hi
          have:i∈Region.ready .any all.toArray listed:=by
            rw[mem_ready];refine⟨by rw[XN (by omega)];exact hv,all[i],by simp,fun e he hb=>?_⟩
            have hlt:e.on<i:=by
              unfold Jg at hback;rw[List.all_eq_true]at hback
              have hmem:(all[i],i)∈all.toArray.toList.zipIdx:=by
                rw[List.mem_iff_getElem?];exact⟨i,by simp[List.getElem?_zipIdx,ho]⟩
              have:=hback _ hmem;rw[Array.all_eq_true_iff_forall_mem]at this;have:=this e he;simp only[Bool.or_eq_true,Bool.not_eq_true']at this
              rcases this with h1 | h1
              · rw[hb]at h1;cases h1
              · exact Nat.le_of_ble_eq_true h1
            exact ih e.on hlt (by omega)
          rw[hr]at this;cases this
    refine hQ a w M O (h.sub fun t y hy=>.inl (VV hm (Nat.le_refl _) (fun i hi=>hall i hi) (fun i hi hw=>by omega) hy))
  intro fuel
  induction fuel with
  | zero =>
    intro listed a w M O E hsz hc hm hu h
    have hr:Region.ready .any all.toArray listed=[]:=by
      cases hr:Region.ready .any all.toArray listed with
      | nil=>rfl
      | cons i rs =>
        exfalso
        have hi:i∈Region.ready .any all.toArray listed:=by rw[hr];exact List.mem_cons_self ..
        rw[mem_ready]at hi;obtain⟨h0,o,ho,_⟩:=hi
        have hil:i<all.length:=by
          have:=(Array.getElem?_eq_some_iff.1 ho).1
          simpa using this
        have:0<JE all.length listed:=by
          unfold JE;rw[List.countP_pos_iff];exact⟨i,List.mem_range.2 hil,by rw[h0];rfl⟩
        omega
    exact⟨hr,done listed a w M O E hsz hm h hr⟩
  | succ fuel ih =>
    intro listed a w M O E hsz hc hm hu h;refine⟨fun hr=>done listed a w M O E hsz hm h hr,fun k hk=>?_⟩;rw[mem_ready]at hk;obtain⟨hk0,ok,hok,hkall⟩:=hk
    have hok':all[k]? = some ok:=by simpa using hok
    have hkl:k<all.length:=(List.getElem?_eq_some_iff.1 hok').1
    have hkf:listed.getD k false=false:=by rw[← XN (by omega)];exact hk0
    have hdeps:∀ i,((Region.before all.toArray).getD k 0).testBit i=true→listed.getD i false=true :=
      YY hc k ok hok' (fun e he hb=>hkall e (by simpa using he) hb)
    have hnot:∀ i,listed.getD i false=true→i<all.length→((Region.before all.toArray).getD i 0).testBit k=false:=by
      intro i hi hil
      cases hb:((Region.before all.toArray).getD i 0).testBit k with
      | false=>rfl
      | true =>
        have:=YY hc i _ (List.getElem?_eq_getElem hil) (fun e he hb=>hc i _ (List.getElem?_eq_getElem hil) hi e he hb) k hb;simp only[hkf]at this;cases this
    have hsz':(listed.setIfInBounds k true).size=all.length:=by simp[hsz]
    have hset:∀ i,(listed.setIfInBounds k true).getD i false=true↔(i=k∨listed.getD i false=true):=by
      intro i
      by_cases hik:i=k
      · subst hik
        have hkk:i<listed.size:=by omega
        simp[hkk]
      · rw[getD_set_ne false (fun e=>hik e.symm)]
        simp[hik]
    have hc':Closed all (fun i=>(listed.setIfInBounds k true).getD i false=true):=by
      intro j o ho hj e he hb;rw[hset]at hj ⊢
      rcases hj with rfl | hj
      · rw[hok']at ho
        cases ho;exact .inr (hkall e (by simpa using he) hb)
      · exact .inr (hc j o ho hj e he hb)
    have hu':JE all.length (listed.setIfInBounds k true)≤fuel:=by
      have:JE all.length (listed.setIfInBounds k true)<JE all.length listed:=by
        unfold JE;refine Zq (x:=k) (fun i hi hq=>?_) (List.mem_range.2 hkl) (by rw[hk0];rfl) ?_
        · have hil:=List.mem_range.1 hi
          simp only[Bool.not_eq_true']at hq ⊢;rw[XN (by omega)]at hq ⊢
          cases hv:listed.getD i false with
          | false=>rfl
          | true =>
            have:=(hset i).2 (.inr hv);rw[this]at hq;cases hq
        · have hkk:k<listed.size:=by omega
          simp[hkk]
      omega
    obtain⟨hsem,hpure⟩:=hes k ok hok'
    have hwp:∀ (K:Act→World→Prop),(if Region.wanted ok (yielded all.toArray a.tmps) then ok.wp P a w K Q else K (a.put ok.dst undef) w)→wpOp P all.toArray Q k K a w:=by
      intro K hK;unfold wpOp;rw[hok]
      simp only
      split
      · rename_i hw;rw[if_pos hw]at hK;exact .inl hK
      · rename_i hw;rw[if_neg hw]at hK;exact hK
    refine hwp _ ?_
    have P1:∀ i oi,all[i]? = some oi→i<k→listed.getD i false=true∨(Free oi.op ok.op∧(∀ d,oi.dst=some d→d ∉ namesOf all.toArray ok)∧(∀ d,ok.dst=some d→d ∉ namesOf all.toArray oi)):=by
      intro i oi hoi hi
      rcases UE hord hi hoi hok' with h1 | h1
      · exact .inl (hdeps i h1)
      · exact .inr h1
    have P2:∀ i oi,all[i]? = some oi→k<i→listed.getD i false=true→(Free ok.op oi.op∧(∀ d,ok.dst=some d→d ∉ namesOf all.toArray oi)∧(∀ d,oi.dst=some d→d ∉ namesOf all.toArray ok)):=by
      intro i oi hoi hi hl
      rcases UE hord hi hok' hoi with h1 | h1
      · rw[hnot i hl (List.getElem?_eq_some_iff.1 hoi).1]at h1;cases h1
      · exact h1
    have hNA:NA all ok (es k) E:=by
      intro t ht y hy;refine hm.s t k (by omega) (fun i hi hw=>?_) (fun i hi hw hl=>?_) y hy
      · obtain⟨oi,hoi,hwi⟩:=hw
        rcases P1 i oi hoi hi with h1 | ⟨h1,h2,_⟩
        · exact h1
        · rcases hwi with hwi | hwi
          · exact absurd hwi (JQ h1).1
          · exact absurd ht (h2 t hwi)
      · obtain⟨oi,hoi,hwi⟩:=hw
        rcases Nat.lt_or_ge k i with hki | hki
        · obtain⟨h1,h2,h3⟩:=P2 i oi hoi hki hl
          rcases hwi with hwi | hwi
          · exact absurd hwi (JQ h1).2.1
          · exact absurd ht (h3 t hwi)
        · have:i=k:=by omega
          subst this;simp only[hkf]at hl;cases hl
    have hEA:memFree ok.op=false→EA (es k) E:=by
      intro hmf;refine hm.e k (by omega) (fun i hi hw=>?_) (fun i hi hw hl=>?_)
      · obtain⟨oi,hoi,hwi⟩:=hw
        rcases P1 i oi hoi hi with h1 | ⟨h1,_⟩
        · exact h1
        · rw[(JQ h1).2.2.2.1 hwi]at hmf;cases hmf
      · obtain⟨oi,hoi,hwi⟩:=hw
        rcases Nat.lt_or_ge k i with hki | hki
        · obtain⟨h1,_⟩:=P2 i oi hoi hki hl
          rw[(JQ h1).2.2.2.2 hwi]at hmf;cases hmf
        · have:i=k:=by omega
          subst this;simp only[hkf]at hl;cases hl
    rcases hpure rfl with ⟨hhard,_⟩ | ⟨hst,hdn,s,x,x',hx,hxe,hxe',hsk,hes1,hstep⟩ | ⟨hcl,x,hx,hxe,hstep⟩
    ·
      have hbefore:∀ i,i<k→listed.getD i false=true:=by
        intro i hi
        rcases P1 i _ (List.getElem?_eq_getElem (by omega)) hi with h1 | ⟨h1,_⟩
        · exact h1
        · exact absurd hhard (JQ h1).2.1
      have hafter:∀ i,k<i→i<all.length→¬ listed.getD i false=true:=by
        intro i hi hil hli;exact absurd hhard (JQ (P2 i _ (List.getElem?_eq_getElem hil) hi hli).1).1
      have hE:Inv bs n M O (es k) a w:=h.sub fun t y hy=>.inl (VV hm (by omega) hbefore (fun i hi hil hl=>by
        rcases Nat.lt_or_ge k i with h1 | h1
        · exact hafter i h1 hil hl
        · have:i=k:=by omega
          subst this;simp only[hkf]at hl
          cases hl) hy)
      refine hsem bs M O a w hE _ Q fun a' w' M' O' h'=>ih _ a' w' M' O' (es (k+1)) hsz' hc' ⟨fun t j hj h1 h2 y hy=>?_,fun j hj h1 h2=>?_⟩ hu' h'
      · have hkj:k<j:=by
          refine Nat.lt_of_not_le fun hle=>?_
          exact h2 k hle ⟨ok,hok',.inl hhard⟩ ((hset k).2 (.inl rfl))
        have hst:=stable hes (t:=t) (i:=k+1) j hkj hj (fun i hi1 hi2 hw=>by
          rcases (hset i).1 (h1 i hi2 hw) with e | e
          · omega
          · exact hafter i (by omega) (by omega) e)
        rw[hst]at hy;exact hy
      · have hkj:k<j:=by
          refine Nat.lt_of_not_le fun hle=>?_
          exact h2 k hle ⟨ok,hok',hhard.1⟩ ((hset k).2 (.inl rfl))
        exact (stableE hes (i:=k+1) j hkj hj (fun i hi1 hi2 hw=>by
          rcases (hset i).1 (h1 i hi2 hw) with e | e
          · omega
          · exact hafter i (by omega) (by omega) e)).2
    ·
      have heff:=DO hst
      have hmf:memFree ok.op=false:=by
        cases hv:memFree ok.op with
        | false=>rfl
        | true=>rw[YN hv]at heff;cases heff
      have hea:=hEA hmf;have hxE:look E s=some x:=hea s x hxe hx
      have hkw:∀ t,¬ Wr all k t:=by
        rintro t ⟨o',ho',hw'⟩
        rw[hok']at ho';cases ho'
        rcases hw' with hw' | hw'
        · rw[hst]at hw';cases hw'.2
        · rw[hdn]at hw';cases hw'
      refine hstep E hNA hxE bs M O a w h _ Q fun a' w' M' O' h'=>ih _ a' w' M' O' _ hsz' hc' ⟨fun t j hj h1 h2 y hy=>?_,fun j hj h1 h2=>?_⟩ hu' h'
      · rw[UJ hxE hsk]
        refine hm.s t j hj (fun i hi hw=>?_) (fun i hi hw hl=>h2 i hi hw ((hset i).2 (.inr hl))) y hy
        rcases (hset i).1 (h1 i hi hw) with e | e
        · subst e;exact absurd hw (hkw t)
        · exact e
      · have hkj:k<j:=by
          refine Nat.lt_of_not_le fun hle=>?_
          exact h2 k hle ⟨ok,hok',heff⟩ ((hset k).2 (.inl rfl))
        have hst2:=(stableE hes (i:=k+1) j hkj hj (fun i hi1 hi2 hw=>by
          rcases (hset i).1 (h1 i hi2 hw) with e | e
          · omega
          · obtain⟨oi,hoi,hwi⟩:=hw
            exact (JQ (P2 i oi hoi (by omega) e).1).2.2.1 ⟨heff,hwi⟩)).2
        refine hst2.trans ?_;rw[hes1];intro t y hy hl;rw[qS]at hl ⊢
        split
        · rename_i e
          rw[if_pos e]at hl;exact hl
        · rename_i e
          rw[if_neg e]at hl;exact hea t y hy hl
    ·
      obtain⟨hes1,hdn,hdent⟩:=JN hx
      have hnoth:¬ (isEff ok.op=true∧isStore ok.op=false):=by
        rintro⟨e1,e2⟩
        rcases hcl with e | e
        · rw[e]at e1;cases e1
        · rw[e]at e2;cases e2
      have hmem:memFree ok.op=true∨EA (es k) E:=by
        cases hv:memFree ok.op with
        | true=>exact .inl rfl
        | false=>exact .inr (hEA hv)
      refine hstep E hNA hmem bs M O a w h _ Q fun a' w' M' O' h'=>ih _ a' w' M' O' _ hsz' hc' ⟨fun t j hj h1 h2 y hy=>?_,fun j hj h1 h2=>?_⟩ hu' h'
      · by_cases hdt:ok.dst=some t
        · have hkw:Wr all k t:=⟨ok,hok',.inr hdt⟩
          have hkj:k<j:=by
            refine Nat.lt_of_not_le fun hle=>?_
            exact h2 k hle hkw ((hset k).2 (.inl rfl))
          have hst:=stable hes (t:=t) (i:=k+1) j hkj hj (fun i hi1 hi2 hw=>by
            rcases (hset i).1 (h1 i hi2 hw) with e | e
            · omega
            · obtain⟨oi,hoi,hwi⟩:=hw
              obtain⟨g1,g2,_⟩:=P2 i oi hoi (by omega) e
              rcases hwi with hwi | hwi
              · exact (JQ g1).2.1 hwi
              · exact g2 t hdt (qeM hwi))
          rw[hst,hes1,hdt]at hy;unfold lookS at hy ⊢;rw[hdt];simp only[insO]at hy ⊢;rw[qS,if_pos rfl]at hy ⊢;exact hy
        · unfold lookS
          rw[Ym hdt]
          have hkw:¬ Wr all k t:=by
            rintro⟨o',ho',hw'⟩
            rw[hok']at ho';cases ho'
            rcases hw' with hw' | hw'
            · exact hnoth hw'
            · exact hdt hw'
          refine hm.s t j hj (fun i hi hw=>?_) (fun i hi hw hl=>h2 i hi hw ((hset i).2 (.inr hl))) y hy
          rcases (hset i).1 (h1 i hi hw) with e | e
          · subst e;exact absurd hw hkw
          · exact e
      ·
        have out:∀ {F:Env},EA F E→(∀ d,ok.dst=some d→∀ y,look F d=some y→y.ent=false)→EA F (insO ok.dst x E):=by
          intro F hF hno t y hy hl
          by_cases hdt:ok.dst=some t
          · rw[hno t hdt y hl]at hy;cases hy
          · rw[Ym hdt]
            exact hF t y hy hl
        by_cases hke:isEff ok.op=true
        · have hmf:memFree ok.op=false:=by
            cases hv:memFree ok.op with
            | false=>rfl
            | true=>rw[YN hv]at hke;cases hke
          have hkj:k<j:=by
            refine Nat.lt_of_not_le fun hle=>?_
            exact h2 k hle ⟨ok,hok',hke⟩ ((hset k).2 (.inl rfl))
          have hst2:=(stableE hes (i:=k+1) j hkj hj (fun i hi1 hi2 hw=>by
            rcases (hset i).1 (h1 i hi2 hw) with e | e
            · omega
            · obtain⟨oi,hoi,hwi⟩:=hw
              exact (JQ (P2 i oi hoi (by omega) e).1).2.2.1 ⟨hke,hwi⟩)).2
          exact (hst2.trans (qel hxe hx).2).trans (out (hEA hmf) hdent)
        · have hkw:¬ WrE all k:=by
            rintro⟨o',ho',hw'⟩
            rw[hok']at ho';cases ho';exact hke hw'
          have hej:EA (es j) E:=hm.e j hj (fun i hi hw=>by
            rcases (hset i).1 (h1 i hi hw) with e | e
            · subst e;exact absurd hw hkw
            · exact e) (fun i hi hw hl=>h2 i hi hw ((hset i).2 (.inr hl)))
          refine out hej fun d hd y hy=>?_
          rcases Nat.lt_or_ge k j with hkj | hkj
          ·
            have key:∀ i,k+1≤i→i≤j→∀ y,look (es i) d=some y→y.ent=false:=by
              intro i
              induction i with
              | zero=>intro h;omega
              | succ i ihi =>
                intro hi1 hi2 y hy
                by_cases hik:k=i
                · subst hik
                  rw[hes1,hd]at hy;simp only[insO]at hy;rw[qS,if_pos rfl]at hy;cases hy;exact hxe
                · have hil:i<all.length:=by omega
                  have hoi:all[i]? = some all[i]:=List.getElem?_eq_getElem hil
                  rcases (hes i _ hoi).2 rfl with ⟨he,_⟩ | ⟨_,_,s',z,z',hz,hze,hze',_,e1,_⟩ | ⟨_,z,hz,hze,_⟩
                  · exfalso
                    rcases (hset i).1 (h1 i (by omega) ⟨_,hoi,he.1⟩) with e | e
                    · omega
                    · exact absurd he (JQ (P2 i _ hoi (by omega) e).1).2.1
                  · rw[e1,qS]at hy
                    split at hy
                    · rename_i e;subst e
                      have:=ihi (by omega) (by omega) z hz;rw[hze]at this;cases this
                    · exact ihi (by omega) (by omega) y hy
                  · obtain⟨e1,_,_⟩:=JN hz
                    rw[e1]at hy
                    by_cases hdi:all[i].dst=some d
                    · rw[hdi]at hy
                      simp only[insO]at hy;rw[qS,if_pos rfl]at hy;cases hy;exact hze
                    · rw[Ym hdi]at hy
                      exact ihi (by omega) (by omega) y hy
            exact key j (by omega) (Nat.le_refl _) y hy
          ·
            cases hye:y.ent with
            | false=>rfl
            | true =>
              exfalso
              have key:∀ i,j≤i→i≤k→∃ z,look (es i) d=some z∧z.ent=true:=by
                intro i
                induction i with
                | zero =>
                 intro hi1 _;have:j=0:=by omega
                 subst this;exact⟨y,hy,hye⟩
                | succ i ihi =>
                  intro hi1 hi2
                  by_cases hij:j=i+1
                  · subst hij;exact⟨y,hy,hye⟩
                  · have hil:i<all.length:=by omega
                    have hoi:all[i]? = some all[i]:=List.getElem?_eq_getElem hil;obtain⟨z0,hz0,hze0⟩:=ihi (by omega) (by omega)
                    rcases (hes i _ hoi).2 rfl with ⟨he,_⟩ | ⟨_,_,s',z,z',hz,hze,hze',_,e1,_⟩ | ⟨_,z,hz,hze,_⟩
                    · exfalso
                      refine h2 i (by omega) ⟨_,hoi,he.1⟩ ((hset i).2 (.inr ?_))
                      rcases P1 i _ hoi (by omega) with e | ⟨e,_⟩
                      · exact e
                      · exact absurd he (JQ e).1
                    · rw[e1,qS]
                      split
                      · exact⟨z',rfl,hze'⟩
                      · exact⟨z0,hz0,hze0⟩
                    · obtain⟨e1,_,e3⟩:=JN hz
                      rw[e1]
                      by_cases hdi:all[i].dst=some d
                      · have:=e3 d hdi z0 hz0
                        rw[hze0]at this;cases this
                      · rw[Ym hdi]
                        exact⟨z0,hz0,hze0⟩
              obtain⟨z,hz,hze⟩:=key k hkj (Nat.le_refl _);have:=hdent d hd z hz;rw[hze]at this;cases this
theorem qbN {bs:Base} {M:Mem} {O:Gh} {a:Act} {w:World} {id:Nat} {ops:Array Oper} {e e':Env} (hmix:P.follows .mixedOrders=true) (hord:orderOk ops=true) (hback:Jg ops=true)
    (hc:Chain P n true ops.toList ops.toList e e') (h:Inv bs n M O e a w) {Q:Exit→Act→World→Prop} (hQ:∀ a' w' M' O',Inv bs n M' O' e' a' w'→Q .normal a' w'):(Code.region id ops true).wp P Q a w:=by
  obtain⟨es,h1,h2,h3⟩:=qdG hc rfl;have ea:ops.toList.toArray=ops:=Array.toArray_toList;refine wp_region_any hmix ?_;have hdr:Inv bs n M O e a { w with drawn:=w.drawn+1 }:=h.grown (row:=none) (fun g e=>by cases e) ⟨rfl,rfl,rfl,Nat.le_refl _,fun _ _ _=>rfl⟩ (Sub.refl M) (fun b o u hu=>h.cons b o u hu) (fun _ _ _ _=>rfl);have:=qfj (P:=P) (n:=n) (all:=ops.toList) (es:=es) (bs:=bs) (Q:=Q) h3 (by rw[ea];exact hord) (by rw[ea];exact hback) (fun a' w' M' O' h'=>hQ a' w' M' O' (by rw[← h2];exact h')) ops.size (Array.replicate ops.size false) a { w with drawn:=w.drawn+1 } M O e (by simp)
    (fun j o ho hj=>by simp[Array.getElem?_replicate]at hj;split at hj <;> simp at hj)
    (by
      rw[← h1]
      exact qbY h3 (fun i hi hS=>by
        have:i<ops.size:=by simpa using hi
        simp[this]at hS))
    (by
      unfold JE;have:=List.countP_le_length (p:=fun i=>!(Array.replicate ops.size false).getD i true) (l:=List.range ops.toList.length)
      simpa using this) hdr
  rw[ea]at this;exact this
end
end Go.AM
