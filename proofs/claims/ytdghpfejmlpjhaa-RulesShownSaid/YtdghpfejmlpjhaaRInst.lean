import Derived.Test.YtdghpfejmlpjhaaRP1
set_option linter.all false
set_option maxRecDepth 100000
open Int renaming toNat→A0, natCast_nonneg→D8
open Nat renaming beq→A1, le_refl→A5, eq_of_beq_eq_true→C7, lt_or_ge→D1
open List renaming setIfInBounds_toArray→A2, set_cons_zero→A3, set_cons_succ→A4, getElem_toArray→A6, getElem_cons_succ→A7, getElem_cons_zero→A8, range→A9, getElem?_eq_getElem→B1, mem_cons_self→D3, drop_length→D4, replicate→D5, length_map→D6, drop_eq_getElem_cons→D7, mem_cons_of_mem→E7, length_erase_of_mem→E8, getElem?_eq_none→E9, drop_eq_nil_of_le→F6
open Go.Region renaming ready→C0, wanted→D2
open Bool renaming and_eq_true→D0
open Array renaming getElem?_replicate→D9
open Option renaming map_eq_some_iff→E0
namespace Go.AM
open Go.RowKit
variable {P:Program} {n:Nat} {env:Env}
variable {f:Nat} {args:LJ}
def CallS (P:Program) (f:Nat) (args:LJ) (S:AV->Prop):Prop :=
 ∀ (M:Mem) (w:World) (vs:LT),Glob M->Cons M w->args.length=vs.length->(∀ (j:Nat) c v,args[j]? = some c->vs[j]? = some v->R M c v) ->
  Calls P f vs.toArray w fun e w'=>∃ r v M',S r/\e=.returned v/\Below w.heap.size w w'/\Sub M M'/\Cons M' w'/\(∀ b o,b<w.heap.size->M' b o=M b o)/\R M' r v
theorem CallS.of {r:AV} {S:AV->Prop} (h:CallOk P f args r) (hs:S r):CallS P f args S:=by
 intro M w vs hG hC hl hR;refine Calls.mono (h M w vs hG hC hl hR) ?_
 rintro e w' ⟨v,M',h1,h2,h3,h4,h5,h6,_⟩
 exact⟨r,v,M',hs,h1,h2,h3,h4,h5,h6⟩
theorem CallS.mono {f:Nat} {args:LJ} {S S':AV->Prop} (h:CallS P f args S) (hs:∀ r,S r->S' r):CallS P f args S':=by
 intro M w vs hG hC hl hR;refine Calls.mono (h M w vs hG hC hl hR) ?_
 rintro e w' ⟨r,v,M',h0,h1⟩
 exact⟨r,v,M',hs r h0,h1⟩
def OpsP (P:Program) (n:Nat) (all ops:LF) (S:Env->Prop) (e:Env):Prop :=
 ∀ (bs:Base) (M:Mem) (O:Gh) (a:Act) (w:World),Inv bs n M O e a w->∀ (Q:Exit->Act->World->Prop),(∀ e' a' w' M' O',S e'->Inv bs n M' O' e' a' w'->Q .normal a' w')->wpList P all.toArray Q ops a w
theorem OpsP.of (hmix:P.follows .mixedOrders=true) {all ops:LF} {S:Env->Prop} (h:WO P n false all ops S env):OpsP P n all ops S env:=by
 obtain⟨e1,hr,hs⟩:=h;intro bs M O a w hi Q hQ
 exact Dv (YH hmix hr) hi (Q:=Q) fun a2 w2 M2 O2 h2=>hQ e1 a2 w2 M2 O2 hs h2
theorem CodeP.ops {id:Nat} {ops:Lh} {S:Ex->Env->Prop} (h:OpsP P n ops.toList ops.toList (S .normal) env):CodeP P n (.region id ops false) S env:=by
 intro bs M O a w hi Q hQ;refine wp_region_list ?_
 have:=h bs M O a w hi Q fun e' a' w' M' O' hs h'=>hQ .normal e' a' w' M' O' hs h'
 simpa using this
theorem OpsP.step {all rest:LF} {o:Oper} {S:Env->Prop} {e1:Env} (hs:StepSem P n all o env e1) (h:OpsP P n all rest S e1):OpsP P n all (o::rest) S env:=by
 intro bs M O a w hi Q hQ;simp only[wpList]
 have:=hs bs M O a w hi (fun a' w'=>wpList P all.toArray Q rest a' w') Q fun a' w' M' O' h'=>h bs M' O' a' w' h' Q hQ
 split at this
 .rename_i hw;rw[if_pos hw];exact .inl this
 rename_i hw;rw[if_neg hw];exact this
theorem OpsP.call {all rest:LF} {o:Oper} {S:Env->Prop} {f:Nat} {args:LJ} {T:AV->Prop} (hw:awanted all o env=some true) (hc:acallee P o env=some (f,args)) (hr:CallS P f args T) (h:∀ r,T r->∃ e1,eput n o.dst r.strip env=some e1/\OpsP P n all rest S e1):OpsP P n all (o::rest) S env:=by
 intro bs M O a w hi Q hQ;simp only[wpList];rw[qU hi hw];simp only[if_true];refine .inl ?_;obtain⟨vs,h1,h2,h3⟩:=NE hi hc;unfold Oper.wp;rw[h1];show Calls P f vs.toArray w _;refine Calls.mono (hr M w vs hi.glob hi.cons h2 h3) ?_
 rintro ed w' ⟨r,v,M',hT,rfl,hb,hs,hC,ho,hR⟩
 obtain⟨e1,he,hops⟩:=h r hT;exact hops bs M' O _ w' (XR (hi.grown (row:=none) (fun g e=>by cases e) (Um hb) hs hC (fun b o hb _=>ho b o hb)) (jO hR.strip (Xs r)) he) Q hQ
theorem CallS.one {r:AV} (hnl:∀ e k l xs,r≠.lst e k (some l) xs) (h:CallS P f args (fun x=>x=r)):CallOk P f args r:=by
 intro M w vs hG hC hl hR;refine Calls.mono (h M w vs hG hC hl hR) ?_
 rintro e w' ⟨r',v,M',rfl,h1,h2,h3,h4,h5,h6⟩
 refine⟨v,M',h1,h2,h3,h4,h5,h6,?_⟩;unfold OwnR;split
 .exact absurd rfl (hnl _ _ _ _)
 trivial
end Go.AM
namespace Go.AM
open Go.RowKit
variable {P:Program} {n:Nat} {all:LF}
variable {o:Oper} {e e1 e2 env:Env} {S:Ex->Env->Prop} {id:Nat} {c y:Code} {draw:Bool} {α σ:Type}
def AnyS (P:Program) (n:Nat) (all:LF) (R:LP) (S:Env->Prop) (e:Env):Prop :=
 ∀ (bs:Base) (Q:Exit->Act->World->Prop),ju all.toArray=true->(∀ e' a' w' M' O',S e'->Inv bs n M' O' e' a' w'->Q .normal a' w') ->
  ∀ (fuel:Nat) (listed:Array Bool) (a:Act) (w:World) (M:Mem) (O:Gh),listed.size=all.length->Closed all (fun i=>listed.getD i false=true)->R.Nodup->(∀ i,i∈R->i<all.length)->(∀ i,i<all.length->(i∈R↔listed.getD i false=false)) ->
   jw all.length listed<=fuel->Inv bs n M O e a w->wpAny P .any all.toArray Q fuel listed a w
def StepS (P:Program) (n:Nat) (all:LF) (o:Oper) (e:Env) (S:Env->Prop):Prop :=
 ∀ (bs:Base) (M:Mem) (O:Gh) (a:Act) (w:World),Inv bs n M O e a w->∀ (K:Act->World->Prop) (Q:Exit->Act->World->Prop),(∀ e1 a' w' M' O',S e1->Inv bs n M' O' e1 a' w'->K a' w')->(if D2 o (yielded all.toArray a.tmps) then o.wp P a w K Q else K (a.put o.dst undef) w)
theorem StepS.of {S:Env->Prop} (h:StepSem P n all o e e1) (hs:S e1):StepS P n all o e S :=
 fun bs M O a w hi K Q hK=>h bs M O a w hi K Q fun a' w' M' O' h'=>hK e1 a' w' M' O' hs h'
theorem StepS.call {o:Oper} {e:Env} {S:Env->Prop} {f:Nat} {args:LJ} {T:AV->Prop} (hw:awanted all o e=some true) (hc:acallee P o e=some (f,args)) (hr:CallS P f args T) (h:∀ r,T r->∃ e1,eput n o.dst r.strip e=some e1/\S e1):StepS P n all o e S:=by
 intro bs M O a w hi K Q hK;rw[qU hi hw];simp only[if_true];obtain⟨vs,h1,h2,h3⟩:=NE hi hc;unfold Oper.wp;rw[h1];show Calls P f vs.toArray w _;refine Calls.mono (hr M w vs hi.glob hi.cons h2 h3) ?_
 rintro ed w' ⟨r,v,M',hT,rfl,hb,hs,hC,ho,hR⟩
 obtain⟨e1,he,hops⟩:=h r hT;exact hK e1 _ w' M' O hops (XR (hi.grown (row:=none) (fun g e=>by cases e) (Um hb) hs hC (fun b o hb _=>ho b o hb)) (jO hR.strip (Xs r)) he)
theorem qfd {R:LP} {S:Env->Prop} (hne:R≠[]) (hF:∀ k o,k∈R->all[k]? = some o->readyR all R k=true->StepS P n all o e (fun e1=>AnyS P n all (R.erase k) S e1)):AnyS P n all R S e:=by
 intro bs Q hback hQ fuel listed a w M O hsz hc hnd hlt hR hu h
 have hno:C0 .any all.toArray listed≠[]:=fun hr=>hne (qev hback hsz hlt hR hr)
 cases fuel with
 | zero =>
  exfalso
  cases hr:C0 .any all.toArray listed with
  | nil=>exact hno hr
  | cons i rs =>
   have hi:i∈C0 .any all.toArray listed:=by rw[hr];exact D3 ..
   rw[mem_ready]at hi;obtain⟨h0,o,ho,_⟩:=hi
   have hil:i<all.length:=by
    have:=(Array.getElem?_eq_some_iff.1 ho).1
    simpa using this
   have:0<jw all.length listed:=by
    unfold jw;rw[List.countP_pos_iff];exact⟨i,List.mem_range.2 hil,by rw[h0];rfl⟩
   omega
 | succ fuel =>
  refine⟨fun hr=>absurd hr hno,fun k hk=>?_⟩;rw[mem_ready]at hk;obtain⟨hk0,ok,hok,hkall⟩:=hk
  have hok':all[k]? = some ok:=by simpa using hok
  have hkl:k<all.length:=(List.getElem?_eq_some_iff.1 hok').1
  have hkf:listed.getD k false=false:=by rw[<- Yh (by omega)];exact hk0
  have hdeps:∀ i,((Region.before all.toArray).getD k 0).testBit i=true->listed.getD i false=true :=
   ZK hc k ok hok' (fun e he hb=>hkall e (by simpa using he) hb)
  have hsz':(listed.setIfInBounds k true).size=all.length:=by simp[hsz]
  have hset:∀ i,(listed.setIfInBounds k true).getD i false=true↔(i=k\/listed.getD i false=true):=by
   intro i;by_cases hik:i=k
   .subst hik
    have hkk:i<listed.size:=by omega
    simp[hkk]
   rw[getD_set_ne false (fun e=>hik e.symm)];simp[hik]
  have hc':Closed all (fun i=>(listed.setIfInBounds k true).getD i false=true):=by
   intro j o ho hj e he hb;rw[hset]at hj ⊢
   rcases hj with rfl | hj
   .rw[hok']at ho;cases ho;exact .inr (hkall e (by simpa using he) hb)
   exact .inr (hc j o ho hj e he hb)
  have hu':jw all.length (listed.setIfInBounds k true)<=fuel:=by
   have:jw all.length (listed.setIfInBounds k true)<jw all.length listed:=by
    unfold jw;refine Du (x:=k) (fun i hi hq=>?_) (List.mem_range.2 hkl) (by rw[hk0];rfl) ?_
    .have hil:=List.mem_range.1 hi;simp only[Bool.not_eq_true']at hq ⊢;rw[Yh (by omega)]at hq ⊢
     cases hv:listed.getD i false with
     | false=>rfl
     | true =>
      have:=(hset i).2 (.inr hv);rw[this]at hq;cases hq
    have hkk:k<listed.size:=by omega
    simp[hkk]
   omega
  have hwp:∀ (K:Act->World->Prop),(if D2 ok (yielded all.toArray a.tmps) then ok.wp P a w K Q else K (a.put ok.dst undef) w)->wpOp P all.toArray Q k K a w:=by
   intro K hK;unfold wpOp;rw[hok];simp only;split
   .rename_i hw;rw[if_pos hw]at hK;exact .inl hK
   rename_i hw;rw[if_neg hw]at hK;exact hK
  refine hwp _ ?_;have hkR:k∈R:=(hR k hkl).2 hkf
  have hrd:readyR all R k=true:=by
   unfold readyR;rw[List.all_eq_true];intro i hi
   cases hb:((Region.before all.toArray).getD k 0).testBit i with
   | false=>rfl
   | true =>
    have:=(hR i (hlt i hi)).1 hi;rw[hdeps i hb]at this;cases this
  refine hF k ok hkR hok' hrd bs M O a w h _ Q fun e1 a' w' M' O' hS h'=>hS bs Q hback hQ fuel _ a' w' M' O' hsz' hc' (hnd.erase k) (fun i hi=>hlt i (List.mem_of_mem_erase hi)) (fun i hi=>?_) hu' h'
  have h1:=hR i hi;rw[hnd.mem_erase_iff];constructor
  .rintro⟨hik,hm⟩
   cases hv:(listed.setIfInBounds k true).getD i false with
   | false=>rfl
   | true =>
    rcases (hset i).1 hv with e | e
    .exact absurd e hik
    rw[h1.1 hm]at e;cases e
  intro hv
  have hik:i≠k:=fun e=>by rw[(hset i).2 (.inl e)]at hv;cases hv
  refine⟨hik,h1.2 ?_⟩
  cases hw:listed.getD i false with
  | false=>rfl
  | true=>rw[(hset i).2 (.inr hw)]at hv;cases hv
theorem AnyS.step {R:LP} {e:Env} {S:Env->Prop} (ks:LP) (hne:R.isEmpty=false) (h0:R.filter (readyR all R)=ks) (h:AllP (fun k=>∃ o,all[k]? = some o/\StepS P n all o e (fun e1=>AnyS P n all (R.erase k) S e1)) ks):AnyS P n all R S e:=by
 refine qfd (fun e=>by rw[e]at hne;cases hne) fun k o hk ho hd=>?_
 obtain⟨o',g1,g2⟩:=h.mem k (by rw[<- h0];exact List.mem_filter.2 ⟨hk,hd⟩);rw[ho]at g1;cases g1;exact g2
theorem StepS.one (hmix:P.follows .mixedOrders=true) (e1:Env) {S:Env->Prop} (hs:S e1) (h:WO P n false all [o] (fun x=>x=e1) e):StepS P n all o e S:=by
 obtain⟨e2,h1,rfl⟩:=h;exact .of (qeX (YH hmix h1)) hs
theorem AnyS.of (hmix:P.follows .mixedOrders=true) {R:LP} {e':Env} {S:Env->Prop} (h:Run P (.any n all R e e')) (hw:WO P n false all [] S e'):AnyS P n all R S e:=by
 obtain⟨e2,h1,h2⟩:=hw;intro bs Q hback hQ
 refine (YH hmix h:AnyOk P n all R e e') bs Q hback fun a' w' M' O' h'=>?_
 obtain⟨M2,O2,h3⟩:=qdu (YH hmix h1) bs M' O' a' w' h';exact hQ e2 a' w' M2 O2 h2 h3
theorem CodeP.regionS (hmix:P.follows .mixedOrders=true) {ops:Lh} (hback:ju ops=true) (hc:AnyS P n ops.toList (A9 ops.size) (S .normal) env):CodeP P n (.region id ops true) S env:=by
 intro bs M O a w h Q hQ;have ea:ops.toList.toArray=ops:=Array.toArray_toList;refine wp_region_any hmix ?_;have hdr:Inv bs n M O env a { w with drawn:=w.drawn+1 }:=h.grown (row:=none) (fun g e=>by cases e) ⟨rfl,rfl,rfl,A5 _,fun _ _ _=>rfl⟩ (Sub.refl M) (fun b o u hu=>h.cons b o u hu) (fun _ _ _ _=>rfl);have:=hc bs Q (by rw[ea];exact hback) (fun e' a' w' M' O' hs h'=>hQ .normal e' a' w' M' O' hs h') ops.size (Array.replicate ops.size false) a { w with drawn:=w.drawn+1 } M O (by simp)
  (fun j o ho hj=>by simp[D9]at hj;split at hj <;> simp at hj) List.nodup_range (fun i hi=>by simpa using List.mem_range.1 hi)
  (fun i hi=>⟨fun _=>by simp[D9];split <;> simp,fun _=>List.mem_range.2 (by simpa using hi)⟩)
  (by
   unfold jw;have:=List.countP_le_length (p:=fun i=>!(Array.replicate ops.size false).getD i true) (l:=A9 ops.toList.length)
   simpa using this) hdr
 rw[ea]at this;exact this
theorem Goes.weak {e e1:Env} (keep frz:LP) (nl:LW) (rl:Lk) (he:weakE keep frz nl rl e=e1):Goes n e e1:=by
 intro bs M O a w hi;obtain⟨M',O',h'⟩:=hi.freezeAll frz;obtain⟨O2,h2⟩:=Inv.relabAll rl ((Inv.nilAll nl h').drop keep);exact⟨M',O2,by rw[<- he];exact h2⟩
theorem CodeP.weakP (keep frz:LP) (nl:LW) (rl:Lk) {env':Env} (he:weakE keep frz nl rl e=env') (h:CodeP P n c S env'):CodeP P n c S e:=CodeP.goes (Goes.weak keep frz nl rl he) h
theorem WO.finP {ops:LF} (keep frz:LP) (nl:LW) (rl:Lk) (he:finE P n draw all ops keep frz nl rl env=some e2) (h:CodeP P n c S e2):WO P n draw all ops (fun e=>CodeP P n c S e) env:=by
 unfold finE at he;rw[E0]at he;obtain⟨e1,h1,h2⟩:=he;refine WO.steps ops.length h1 ?_;rw[D4];exact .nil (CodeP.weakP keep frz nl rl h2 h)
theorem W.regPT {ops:Lh} (keep frz:LP) (nl:LW) (rl:Lk) (hd:(!draw || (orderOk ops && ju ops))=true) (he:finE P n draw ops.toList ops.toList keep frz nl rl env=some e2) (h:CodeP P n y S e2):W P n (.region id ops draw) (ThenP y P n S) env :=
 W.region hd (WO.finP keep frz nl rl he h)
theorem qlA {R:LP} {S:Env->Prop} (T:α->Prop) (F:α->Env) (hk:∀ S:Env->Prop,(∀ x,T x->WO P n false all [] S (F x))->AnyS P n all R S e) (h:∀ x,T x->WO P n false all [] S (F x)):AnyS P n all R S e:=hk S h
theorem CodeP.join (E:σ->Env) (Pz:σ->Prop) (hrest:∀ s,Pz s->S .normal (E s)) (h:(∀ s,Pz s->S .normal (E s))->CodeP P n c S env):CodeP P n c S env:=h hrest
theorem Goes.trans (h:Goes n e e1) (k:Goes n e1 e2):Goes n e e2:=by
 intro bs M O a w hi;obtain⟨M',O',h'⟩:=h bs M O a w hi;exact k bs M' O' a w h'
def RoundS (N:Env->Prop) (S:Ex->Env->Prop):Ex->Env->Prop
 | .normal,e=>N e
 | ex,e=>S ex e
theorem CodeP.range (xs:List α) (E:Nat->σ->Env) (Pz:List α->Nat->σ->Prop)
  (hnil:∀ s,Pz [] xs.length s->CodeP P n c (RoundS (fun _=>False) S) (E xs.length s))
  (hcons:∀ x rest k s (N:Env->Prop),(∀ e e',Goes n e e'->N e'->N e)->xs[k]? = some x->k<xs.length->Pz (x::rest) k s->(∀ s',Pz rest (k+1) s'->N (E (k+1) s'))->CodeP P n c (RoundS N S) (E k s)) :
  ∀ s,Pz xs 0 s->CodeP P n (.loop c) S (E 0 s):=by
 intro s hs;refine CodeP.loop (I:=fun m e=>∃ k rest s,xs.drop k=rest/\rest.length=m/\k<=xs.length/\Pz rest k s/\Goes n e (E k s)) (fun m e hI=>?_) xs.length ⟨0,xs,s,rfl,rfl,Nat.zero_le _,hs,Goes.refl _⟩;obtain⟨k,rest,s,hd,hm,hk,hp,hg⟩:=hI;refine CodeP.goes hg ?_
 cases rest with
 | nil =>
  have:k=xs.length:=by
   have:=congrArg List.length hd;simp at this;omega
  subst this
  refine (hnil s hp).mono fun ex e h=>?_
  cases ex with
  | normal=>exact h.elim
  | ret=>exact h
  | exit i=>exact h
 | cons x rest =>
  have hx:xs[k]? = some x:=by
   have:=congrArg List.head? hd
   simpa[List.head?_drop] using this
  have hlt:k<xs.length:=(List.getElem?_eq_some_iff.1 hx).1
  refine (hcons x rest k s (fun e=>∃ s',Pz rest (k+1) s'/\Goes n e (E (k+1) s')) (fun e e' h ⟨s',h1,h2⟩=>⟨s',h1,h.trans h2⟩) hx hlt hp fun s' hp'=>⟨s',hp',Goes.refl _⟩).mono fun ex e h=>?_
  cases ex with
  | normal =>
   obtain⟨s',hp',hg'⟩:=h;refine⟨rest.length,by rw[<- hm];rfl,k+1,rest,s',?_,rfl,hlt,hp',hg'⟩
   have:xs.drop (k+1)=(xs.drop k).drop 1:=by rw[List.drop_drop]
   rw[this,hd];rfl
  | ret=>exact h
  | exit i=>exact h
theorem CodeP.seqW (hmix:P.follows .mixedOrders=true) {x:Code} (h:W P n x (ThenP y P n S) env):CodeP P n (.seq x y) S env:=CodeP.seq (CodeP.of hmix h)
end Go.AM
namespace Go.AM
open Go.RowKit
variable {P:Program} {n:Nat} {all:LF}
variable {E:LP->Env} {Rs:List LP}
def memB (k:Nat):LP->Bool
 | []=>false
 | x::r=>match A1 x k with | true=>true | false=>memB k r
def eqL:LP->LP->Bool
 | [],[]=>true
 | x::r,y::s=>match A1 x y with | true=>eqL r s | false=>false
 | _,_=>false
def memL (R:LP):List LP->Bool
 | []=>false
 | x::r=>match eqL x R with | true=>true | false=>memL R r
def delB (k:Nat):LP->LP
 | []=>[]
 | x::r=>match A1 x k with | true=>r | false=>x::delB k r
abbrev Goer:=List (Nat×(Env->Le))
def lkO:Goer->Nat->Option (Env->Le)
 | [],_=>none
 | p::r,k=>match A1 p.1 k with | true=>some p.2 | false=>lkO r k
theorem qll:∀ {a b:LP},eqL a b=true->a=b
 | [],[],_=>rfl
 | [],_::_,h=>by cases h
 | _::_,[],h=>by cases h
 | x::r,y::s,h=>by
  unfold eqL at h
  cases hb:A1 x y with
  | true=>rw[hb]at h;rw[C7 hb,qll h]
  | false=>rw[hb]at h;cases h
theorem UM {R:LP}:∀ {l:List LP},memL R l=true->R∈l
 | [],h=>by cases h
 | x::r,h=>by
  unfold memL at h
  cases hb:eqL x R with
  | true=>rw[qll hb];exact D3 ..
  | false=>rw[hb]at h;exact E7 _ (UM h)
theorem Zz (k:Nat):∀ (l:LP),delB k l=l.erase k
 | []=>rfl
 | x::r=>by
  unfold delB
  cases hb:A1 x k with
  | true=>rw[C7 hb,List.erase_cons_head]
  | false =>
   rw[List.erase_cons_tail (by simpa using Nat.ne_of_beq_eq_false hb),Zz k r]
theorem qiU {k:Nat}:∀ {l:LP},k∈l->memB k l=true
 | x::t,h=>by
  unfold memB
  cases hb:A1 x k with
  | true=>rfl
  | false =>
   rcases List.mem_cons.1 h with rfl | h
   .rw[Nat.beq_refl]at hb;cases hb
   exact qiU h
theorem qiW {k:Nat} {r:Env->Le}:∀ {l:Goer},lkO l k=some r->(k,r)∈l
 | [],h=>by cases h
 | p::t,h=>by
  unfold lkO at h
  cases hb:A1 p.1 k with
  | true =>
   rw[hb]at h;have h:some p.2=some r:=h;cases h;rw[<- C7 hb];exact D3 ..
  | false=>rw[hb]at h;exact E7 _ (qiW h)
def stepO (P:Program) (n:Nat) (all:LF) (orc:Goer) (e:Env) (k:Nat):Le :=
 match lkO orc k with
 | none=>stepA P n all e k
 | some f=>f e
def execO (P:Program) (n:Nat) (all:LF) (orc:Goer):LP->Env->Env
 | [],e=>e
 | k::r,e=>match stepO P n all orc e k with
  | some e'=>execO P n all orc r e'
  | none=>[]
def remE (P:Program) (n:Nat) (all:LF) (orc:Goer) (e0:Env) (R:LP):Env :=
 execO P n all orc ((A9 all.length).filter (fun k=>!memB k R)) e0
def prsO (all:LF):List LP->List (LP×Nat)
 | []=>[]
 | R::t=>(R.filter (readyR all R)).map (fun k=>(R,k))++prsO all t
theorem Hc {R:LP} {k:Nat}:∀ {l:List LP},R∈l->k∈R->readyR all R k=true->(R,k)∈prsO all l
 | x::t,h,hk,hr=>by
  unfold prsO
  rcases List.mem_cons.1 h with rfl | h
  .exact List.mem_append_left _ (List.mem_map.2 ⟨k,List.mem_filter.2 ⟨hk,hr⟩,rfl⟩)
  exact List.mem_append_right _ (Hc h hk hr)
def dedL:List LP->List LP
 | []=>[]
 | x::r=>match memL x r with | true=>dedL r | false=>x::dedL r
def reachO (all:LF):Nat->List LP->List LP
 | 0,_=>[]
 | f+1,l=>l++reachO all f (dedL ((prsO all l).map (fun p=>delB p.2 p.1)))
def statesO (all:LF):List LP:=reachO all (all.length+1) [A9 all.length]
theorem XM {α β:Type} {f g:α->β}:∀ {l:List α},l.map f=l.map g->∀ {x:α},x∈l->f x=g x
 | [],_,_,h=>by cases h
 | y::l,h,x,hx=>by
  rw[List.map_cons,List.map_cons,List.cons.injEq]at h
  rcases List.mem_cons.1 hx with rfl | hx
  .exact h.1
  exact XM h.2 hx
def atO (all:LF) (Rs:List LP) (k:Nat):List LP:=((prsO all Rs).filter (fun p=>A1 p.2 k)).map (·.1)
theorem qjj {R:LP} {k:Nat} {l:List LP} (h:R∈l) (hk:k∈R) (hr:readyR all R k=true):R∈atO all l k:=List.mem_map.2 ⟨(R,k),List.mem_filter.2 ⟨Hc h hk hr,Nat.beq_refl k⟩,rfl⟩
def GoesAt (P:Program) (n:Nat) (all:LF) (E:LP->Env) (Rs:List LP) (c:Nat×(Env->Le)):Prop :=
 ∀ R,R∈atO all Rs c.1->∀ o,all[c.1]? = some o->∀ e',c.2 (E R)=some e'->Run P (.ops n false all [o] (E R) e')
def callF (n:Nat) (all:LF) (k:Nat) (r:AV) (e:Env):Le:=match all[k]? with
 | some o=>callPut n false o.dst r e
 | none=>none
def pureF (n:Nat) (all:LF) (k:Nat) (v:AV) (e:Env):Le:=match all[k]? with
 | some o=>eput n o.dst v e
 | none=>none
def pureP (P:Program) (n:Nat) (all:LF) (k:Nat) (v:AV) (e:Env):Option Lc:=match all[k]? with
 | some o=>pureX P n false all 0 [o] e v
 | none=>none
def callP (all:LF) (k:Nat) (e:Env):Option (Nat×LJ×LJ):=match all[k]? with
 | some o=>callPre all o e
 | none=>none
def storeF {α:Type} (enc:α->AV) (s:Nat) (l:List α) (e:Env):Le:=some (ins s (.hob 3 [] (l.map enc)) e)
def storeP (P:Program) (all:LF) (k:Nat) (e:Env):Option (Nat×Nat×AV×LJ×Nat):=match all[k]? with
 | some o=>setPre P all o e
 | none=>none
theorem gcall {F:Nat} {l C:LJ} {r:AV} (k:Nat) (hr:Run P (.call F (l++C) r)) (hc:(atO all Rs k).map (fun R=>callP all k (E R))=(atO all Rs k).map (fun _=>some (F,l,C)):=by kernel_rfl) (hok:okFn P F=true:=by kernel_rfl):GoesAt P n all E Rs (k,callF n all k r):=by
 intro R hR o ho e' he;have g:=XM hc hR;simp only[callP,ho]at g;unfold callF at he;simp only[ho]at he;obtain⟨e2,k1,rfl⟩:=WO.callK (P:=P) (n:=n) (draw:=false) (all:=all) (ops:=[o]) (Q:=fun e=>e=e') (env:=E R) 0 g hok hr he (WO.nil rfl);exact k1
theorem gpure (k:Nat) (X:Lc) {v:AV} (hX:X=some v) (hc:(atO all Rs k).map (fun R=>pureP P n all k v (E R))=(atO all Rs k).map (fun _=>some X):=by kernel_rfl):GoesAt P n all E Rs (k,pureF n all k v):=by
 intro R hR o ho e' he;have g:=XM hc hR;simp only[pureP,ho]at g;unfold pureF at he;simp only[ho]at he;obtain⟨e2,k1,rfl⟩:=WO.pureK (P:=P) (n:=n) (draw:=false) (all:=all) (ops:=[o]) (Q:=fun e=>e=e') (env:=E R) (v:=v) 0 X g hX he (WO.nil rfl);exact k1
theorem gstore {α:Type} {enc:α->AV} {s sz:Nat} {l l':List α} (k:Nat) (hF:Flat enc) (hl:decide (l.length=sz/\l'.length=sz)=true)
  (hc:(atO all Rs k).map (fun R=>storeP P all k (E R))=(atO all Rs k).map (fun _=>some (s,0,.agg (l.map enc),l'.map enc,sz)):=by kernel_rfl):GoesAt P n all E Rs (k,storeF enc s l):=by
 intro R hR o ho e' he;have g:=XM hc hR;have h:=qfT (P:=P) (n:=n) (k:=k) (env:=E R) hF hl g;have he:some (ins s (.hob 3 [] (l.map enc)) (E R))=some e':=he;rw[he]at h;unfold stepA at h;have ho:all[k]? = some o:=ho;rw[ho]at h;simp only at h;split at h
 .rename_i hw;exact .op hw h .nil
 cases h
theorem qee {hd orc:Goer}
  (hh:Rs.all (fun R=>hd.all (fun c=>!memB c.1 R))=true) (h3:AllP (GoesAt P n all E Rs) orc) {R:LP} (hR:R∈Rs) {k:Nat} {o:Oper} (hk:k∈R) (ho:all[k]? = some o) (hr:readyR all R k=true) (h:stepO P n all (hd++orc) (E R) k=some (E (delB k R))):Run P (.ops n false all [o] (E R) (E (R.erase k))):=by
 simp only[Zz]at h;unfold stepO at h
 cases hl:lkO (hd++orc) k with
 | none =>
  rw[hl]at h;have h:stepA P n all (E R) k=some (E (R.erase k)):=h;unfold stepA at h;rw[ho]at h;simp only at h;split at h
  .rename_i hw;exact .op hw h .nil
  cases h
 | some f =>
  rw[hl]at h;have h:f (E R)=some (E (R.erase k)):=h
  rcases List.mem_append.1 (qiW hl) with hm | hm
  .exfalso;have h4:=List.all_eq_true.1 (List.all_eq_true.1 hh R hR) _ hm;have:=qiU hk;simp[this]at h4
  exact h3.mem _ hm R (qjj hR hk hr) o ho _ h
theorem anyG {e0:Env} {Rs:List LP} (hd orc:Goer) (h2:(prsO all Rs).map (fun p=>stepO P n all (hd++orc) (remE P n all (hd++orc) e0 p.1) p.2)=(prsO all Rs).map (fun p=>some (remE P n all (hd++orc) e0 (delB p.2 p.1))))
  (hh:Rs.all (fun R=>hd.all (fun c=>!memB c.1 R))=true) (h1:(prsO all Rs).all (fun p=>memL (delB p.2 p.1) Rs)=true) (h3:AllP (GoesAt P n all (remE P n all (hd++orc) e0) Rs) orc):∀ (m:Nat) (R:LP),R.length<=m->R∈Rs->Run P (.any n all R (remE P n all (hd++orc) e0 R) (remE P n all (hd++orc) e0 []))
 | m,[],_,_=>.anyNil
 | 0,_::_,h,_=>by cases h
 | m+1,x::t,hm,hR=>by
  refine .anyStep (fun k=>remE P n all (hd++orc) e0 ((x::t).erase k)) (fun h=>by cases h) (fun k o hk ho hr=>qee hh h3 hR hk ho hr (XM h2 (Hc hR hk hr))) (fun k hk hr=>?_);refine anyG hd orc h2 hh h1 h3 m _ ?_ ?_
  .rw[E8 hk];simp only[List.length_cons]at hm ⊢;omega
  rw[<- Zz];exact UM (List.all_eq_true.1 h1 _ (Hc hR hk hr))
theorem Run.anyG {e0 e1:Env} {orc:Goer} (h3:AllP (GoesAt P n all (remE P n all orc e0) (statesO all)) orc)
  (h2:(prsO all (statesO all)).map (fun p=>stepO P n all orc (remE P n all orc e0 p.1) p.2)=(prsO all (statesO all)).map (fun p=>some (remE P n all orc e0 (delB p.2 p.1))):=by kernel_rfl)
  (h1:(prsO all (statesO all)).all (fun p=>memL (delB p.2 p.1) (statesO all))=true:=by kernel_rfl) (h0:memL (A9 all.length) (statesO all)=true:=by kernel_rfl)
  (hs:remE P n all orc e0 (A9 all.length)=e0:=by kernel_rfl) (he:remE P n all orc e0 []=e1:=by kernel_rfl):Run P (.any n all (A9 all.length) e0 e1):=by
 have:=AM.anyG (P:=P) (n:=n) (all:=all) (e0:=e0) (Rs:=statesO all) [] orc h2 (List.all_eq_true.2 fun _ _=>rfl) h1 h3 _ _ (A5 _) (UM h0);rw[<- he];rw[show ([]++orc:Goer)=orc from rfl,hs]at this;exact this
def ansF (n:Nat) (all:LF) (k:Nat) (r:AV) (e:Env):Le:=match all[k]? with
 | some o=>eput n o.dst r.strip e
 | none=>none
def ansP (P:Program) (all:LF) (k:Nat) (e:Env):LD×Option (Nat×LJ):=match all[k]? with
 | some o=>(awanted all o e,acallee P o e)
 | none=>(none,none)
theorem anyT {α:Type} {e0:Env} {S:Env->Prop} {j f:Nat} {args:LJ} {T:α->Prop} {res:α->AV} {RJ RN:List LP} (hmix:P.follows .mixedOrders=true) (orc:Goer) (hcall:CallS P f args (fun x=>∃ w,T w/\x=res w))
  (hrun:∀ w,T w->∀ R,R∈RN->AnyS P n all R S (remE P n all ((j,ansF n all j (res w))::orc) e0 R))
  (h3:AllP (GoesAt P n all (remE P n all orc e0) RJ) orc)
  (h2:((prsO all RJ).filter (fun p=>!A1 p.2 j)).map (fun p=>stepO P n all orc (remE P n all orc e0 p.1) p.2)=((prsO all RJ).filter (fun p=>!A1 p.2 j)).map (fun p=>some (remE P n all orc e0 (delB p.2 p.1))))
  (h1:((prsO all RJ).filter (fun p=>!A1 p.2 j)).all (fun p=>memL (delB p.2 p.1) RJ)=true)
  (h4:(atO all RJ j).map (fun R=>ansP P all j (remE P n all orc e0 R))=(atO all RJ j).map (fun _=>(some true,some (f,args))))
  (h5:∀ w,(atO all RJ j).map (fun R=>ansF n all j (res w) (remE P n all orc e0 R))=(atO all RJ j).map (fun R=>some (remE P n all ((j,ansF n all j (res w))::orc) e0 (delB j R))))
  (h6:(atO all RJ j).all (fun R=>memL (delB j R) RN)=true) (h7:RJ.all (fun R=>!R.isEmpty)=true):∀ (m:Nat) (R:LP),R.length<=m->R∈RJ->AnyS P n all R S (remE P n all orc e0 R)
 | m,[],_,hR=>by have:=List.all_eq_true.1 h7 _ hR;cases this
 | 0,_::_,h,_=>by cases h
 | m+1,x::t,hm,hR=>by
  refine qfd (fun h=>by cases h) fun k o hk ho hr=>?_
  cases hj:A1 k j with
  | true =>
   have hj:=C7 hj;subst hj;have ha:=qjj hR hk hr;have g:=XM h4 ha;simp only[ansP,ho,Prod.mk.injEq]at g
   refine StepS.call g.1 g.2 hcall fun r hT=>?_
   obtain⟨w,hw,rfl⟩:=hT;have q:=XM (h5 w) ha;simp only[ansF,ho]at q;refine⟨_,q,?_⟩;rw[Zz];exact hrun w hw _ (by rw[<- Zz];exact UM (List.all_eq_true.1 h6 _ ha))
  | false =>
   have hp:((x::t,k):LP×Nat)∈(prsO all RJ).filter (fun p=>!A1 p.2 j):=List.mem_filter.2 ⟨Hc hR hk hr,by simp[hj]⟩;have hst:=qee (P:=P) (n:=n) (E:=remE P n all orc e0) (hd:=[]) (List.all_eq_true.2 fun _ _=>rfl) h3 hR hk ho hr (XM h2 hp);refine StepS.one hmix _ (anyT hmix orc hcall hrun h3 h2 h1 h4 h5 h6 h7 m _ ?_ ?_) ⟨_,hst,rfl⟩
   .rw[E8 hk];simp only[List.length_cons]at hm ⊢;omega
   rw[<- Zz];exact UM (List.all_eq_true.1 h1 _ hp)
def withJ (j:Nat) (l:List LP):List LP:=l.filter (fun R=>memB j R)
def sansJ (j:Nat) (l:List LP):List LP:=l.filter (fun R=>!memB j R)
theorem AnyS.anyG {α:Type} {e0:Env} {S:Env->Prop} {f:Nat} {args:LJ} {T:α->Prop} {EF:α->Env} {orc:Goer} (j:Nat) (res:α->AV) (hmix:P.follows .mixedOrders=true) (hcall:CallS P f args (fun x=>∃ w,T w/\x=res w)) (hfin:∀ w,T w->WO P n false all [] S (EF w))
  (h3:AllP (GoesAt P n all (remE P n all orc e0) (withJ j (statesO all))) orc)
  (g3:∀ w,AllP (GoesAt P n all (remE P n all ((j,ansF n all j (res w))::orc) e0) (sansJ j (statesO all))) orc)
  (h2:((prsO all (withJ j (statesO all))).filter (fun p=>!A1 p.2 j)).map (fun p=>stepO P n all orc (remE P n all orc e0 p.1) p.2)=((prsO all (withJ j (statesO all))).filter (fun p=>!A1 p.2 j)).map (fun p=>some (remE P n all orc e0 (delB p.2 p.1))):=by kernel_rfl)
  (g2:∀ w,(prsO all (sansJ j (statesO all))).map (fun p=>stepO P n all ((j,ansF n all j (res w))::orc) (remE P n all ((j,ansF n all j (res w))::orc) e0 p.1) p.2)=(prsO all (sansJ j (statesO all))).map (fun p=>some (remE P n all ((j,ansF n all j (res w))::orc) e0 (delB p.2 p.1))):=by intro w;kernel_rfl)
  (h1:((prsO all (withJ j (statesO all))).filter (fun p=>!A1 p.2 j)).all (fun p=>memL (delB p.2 p.1) (withJ j (statesO all)))=true:=by kernel_rfl)
  (g1:(prsO all (sansJ j (statesO all))).all (fun p=>memL (delB p.2 p.1) (sansJ j (statesO all)))=true:=by kernel_rfl)
  (gh:(sansJ j (statesO all)).all (fun R=>!memB j R)=true:=by kernel_rfl)
  (h4:(atO all (withJ j (statesO all)) j).map (fun R=>ansP P all j (remE P n all orc e0 R))=(atO all (withJ j (statesO all)) j).map (fun _=>(some true,some (f,args))):=by kernel_rfl)
  (h5:∀ w,(atO all (withJ j (statesO all)) j).map (fun R=>ansF n all j (res w) (remE P n all orc e0 R))=(atO all (withJ j (statesO all)) j).map (fun R=>some (remE P n all ((j,ansF n all j (res w))::orc) e0 (delB j R))):=by intro w;kernel_rfl)
  (h6:(atO all (withJ j (statesO all)) j).all (fun R=>memL (delB j R) (sansJ j (statesO all)))=true:=by kernel_rfl)
  (h7:(withJ j (statesO all)).all (fun R=>!R.isEmpty)=true:=by kernel_rfl) (h0:memL (A9 all.length) (withJ j (statesO all))=true:=by kernel_rfl)
  (hs:remE P n all orc e0 (A9 all.length)=e0:=by kernel_rfl)
  (he:∀ w,remE P n all ((j,ansF n all j (res w))::orc) e0 []=EF w:=by intro w;kernel_rfl):AnyS P n all (A9 all.length) S e0:=by
 have:=anyT (P:=P) (n:=n) (all:=all) (e0:=e0) (S:=S) (j:=j) (RJ:=withJ j (statesO all)) (RN:=sansJ j (statesO all)) hmix orc hcall (fun w hw R hR=>?_) h3 h2 h1 h4 h5 h6 h7 _ _ (A5 _) (UM h0)
 .rw[hs]at this;exact this
 refine AnyS.of hmix (e':=EF w) ?_ (hfin w hw);have g:=AM.anyG (P:=P) (n:=n) (all:=all) (e0:=e0) (Rs:=sansJ j (statesO all)) [(j,ansF n all j (res w))] orc (g2 w) ?_ g1 (g3 w) _ R (A5 _) hR
 .rw[<- he w];exact g
 refine List.all_eq_true.2 fun R hR=>?_
 have:=List.all_eq_true.1 gh R hR;simp[this]
end Go.AM
namespace Go.AM
open Go.Proofs
def qu (a2:qo) (a3:rufact) (v33:LA) (v34:LA):LZ :=
 (chk (decide (v33.length=8)) (chk (decide (v33.length=8/\v34.length=8)) (chk (decide (v33.length=8)) (some (v33,(a2.qc == a3.qn))))))
def qB (v9:LA) (N1:(LA->LA->LZ)) (v32:LA):LZ :=
 (N1 v32 v9)
def qx (x1:Int) (v8:LA) (v9:LA) (e14:Int) (K10:(LA->LZ)) (v24:Bool):LZ :=
 (bif v24 then (chk (decide (v8.length=8)) (chk (decide (v8.length=8/\v9.length=8)) (chk (decide (v8.length=8)) (some (v8,false))))) else (bif (decide (x1 >= 0)) then (chk (decide ((0:Int)<=x1/\x1<((8:Nat):Int)/\0<1)) (chk (decide ((0+A0 x1 * 1)<v8.length)) (K10 (v8.set (0+A0 x1 * 1) e14)))) else (K10 v8)))
def qq (a3:rufact) (K6:(LA->LA->LZ)):LA->Nat->LA->LA->LZ
 | [],k1,v8,v9=>(K6 v8 v9)
 | x1::r1,k1,v8,v9=>(chk (decide ((0:Int)<=(k1:Int)/\(k1:Int)<((2:Nat):Int))) ((([a3.f_a,a3.f_b]:LA)[A0 (k1:Int) * 1]?).bind fun e14=>(bif (decide (x1<0)) then (bif ((IntKind.wrap .i64 (0 - x1)) != e14) then ((qx x1 v8 v9 e14 (qB v9 (qq a3 K6 r1 (k1+1)))) true) else (bif (decide (x1 >= 0)) then (chk (decide ((0:Int)<=x1/\x1<((8:Nat):Int)/\0<1)) ((v8[(0+A0 x1 * 1)]?).bind fun e17=>(bif (e17 != 0) then (chk (decide ((0:Int)<=x1/\x1<((8:Nat):Int)/\0<1)) ((v8[(0+A0 x1 * 1)]?).bind fun e19=>((qx x1 v8 v9 e14 (qB v9 (qq a3 K6 r1 (k1+1)))) (e19 != e14)))) else ((qx x1 v8 v9 e14 (qB v9 (qq a3 K6 r1 (k1+1)))) false)))) else ((qx x1 v8 v9 e14 (qB v9 (qq a3 K6 r1 (k1+1)))) false))) else (bif (decide (x1 >= 0)) then (chk (decide ((0:Int)<=x1/\x1<((8:Nat):Int)/\0<1)) ((v8[(0+A0 x1 * 1)]?).bind fun e21=>(bif (e21 != 0) then (chk (decide ((0:Int)<=x1/\x1<((8:Nat):Int)/\0<1)) ((v8[(0+A0 x1 * 1)]?).bind fun e23=>((qx x1 v8 v9 e14 (qB v9 (qq a3 K6 r1 (k1+1)))) (e23 != e14)))) else ((qx x1 v8 v9 e14 (qB v9 (qq a3 K6 r1 (k1+1)))) false)))) else ((qx x1 v8 v9 e14 (qB v9 (qq a3 K6 r1 (k1+1)))) false)))))
def jn (a1:LA) (a2:qo) (a3:rufact):LZ :=
 (chk (!a1.isEmpty) (chk (lenOk a2.qa) (qq a3 (qu a2 a3) a2.qa 0 a1 (D5 8 0))))
theorem VD (a1:LA) (a2:qo) (a3:rufact) (r:(LA×Bool)) (h:jn a1 a2 a3=some r):Run Try.prog (.call 129 [.agg (M6 a1),.agg [I6 a2.qc,l3 none a2.qa],.agg [I6 a3.qn,I6 a3.f_a,I6 a3.f_b]] (.tup [.agg (M6 r.1),.bool r.2])):=by
 refine cW Try.func129 rfl (env0:=[(0,.agg (M6 a1)),(1,.agg [I6 a2.qc,l3 none a2.qa]),(2,.agg [I6 a3.qn,I6 a3.f_a,I6 a3.f_b])]) ?_;unfold jn at h;refine W.sr ?_;obtain⟨hc5,h⟩:=qm h;let z0:=fun t=>EN ((0,.agg (M6 a1))::(1,.agg [I6 a2.qc,l3 none a2.qa])::(2,.agg [I6 a3.qn,I6 a3.f_a,I6 a3.f_b])::(3,.pb 1000003 0)::t);refine WO.boxA (enc:=(AV.int .i64)) (l:=a1) (d:=3) 0 (qP .i64) hc5 (e1:=z0 [(1000003,.hob 3 [] (M6 a1))])<|WO.sl 3 ?_;let y0:Env:=[(1000003,.hob 3 [] (M6 a1)),(1000006,.hob 3 [] (M6 (D5 8 0)))];refine WO.mv [.arr 6] (env':=z0 ((4,.box [I6 a2.qc,l3 none a2.qa])::(5,.box [I6 a3.qn,I6 a3.f_a,I6 a3.f_b])::(6,.pb 1000006 0)::y0)) kR ?_;let z1:=fun t=>EN ((3,.pb 1000003 0)::(4,.ptr (.agg [I6 a2.qc,l3 none a2.qa]))::(5,.ptr (.agg [I6 a3.qn,I6 a3.f_a,I6 a3.f_b]))::(6,.pb 1000006 0)::t);refine WO.fi [3,4,5,6,1000003,1000006] [4,5] (e2:=z1 y0) ?_;refine W.seq<|W.join (σ:=(LA×LA)) (fun s=>z1 [(1000003,.hob 3 [] (M6 s.1)),(1000006,.hob 3 [] (M6 s.2))]) (fun s=>(qu a2 a3) s.1 s.2=some r) (fun s h=>?_) (fun hK6=>?_)
 .obtain⟨v33,v34⟩:=s;have h:(qu a2 a3) v33 v34=some r:=h;unfold qu at h;refine W.seq ?_;obtain⟨hc36,h⟩:=qm h;obtain⟨hc37,h⟩:=qm h;refine W.regionA (e1:=z1 [(7,.bool (a2.qc == a3.qn)),(60,.agg (M6 v33)),(61,.ptr (I6 a2.qc)),(62,I6 a2.qc),(63,.ptr (I6 a3.qn)),(64,I6 a3.qn),(65,.bool (a2.qc == a3.qn)),(1000003,.hob 3 [] (M6 v33)),(1000006,.hob 3 [] (M6 v33))]) kR ?_ ?_
  .exact Run.anyG (.cons (gpure 0 (cut Try.prog 178 (M6 v33) 0) (v:=.agg (M6 v33)) (Xx (qP .i64) (sz:=8) kR (of_decide_eq_true hc36))) (.cons (gstore 6 (enc:=(AV.int .i64)) (l:=v33) (l':=v34) (s:=1000006) (sz:=8) (qP .i64) hc37) .nil))
  let y1:Env:=[(7,.bool (a2.qc == a3.qn)),(1000006,.hob 3 [] (M6 v33))];refine WO.fn (e2:=((6,.pb 1000006 0)::y1)) ?_;refine W.wk (e:=((6,.pb 1000006 0)::y1)) ?_;obtain⟨hn38,h⟩:=qm h;have hr:jX Try.prog Try.f129 [(6,.pb 1000006 0),(7,.bool (a2.qc == a3.qn)),(1000006,.hob 3 [] (M6 v33))]=some (.tup [.agg (M6 v33),.bool (a2.qc == a3.qn)]):=(by kernel_rfl:jX Try.prog Try.f129 [(6,.pb 1000006 0),(7,.bool (a2.qc == a3.qn)),(1000006,.hob 3 [] (M6 v33))]=match optAll [(cut Try.prog 178 (M6 v33) 0).map AV.strip,some (.bool (a2.qc == a3.qn))] with | some l=>some (.tup (l.map AV.strip)) | none=>none).trans (by rw[Xx (qP .i64) (sz:=8) (by kernel_rfl) (of_decide_eq_true hn38)];rfl);cases h;exact W.ret hr
 refine W.sr<|WO.pq 2 (jM (.int .i64) a2.qa) ?_;let z2:=fun t=>z1 ((12,l3 none a2.qa)::(13,I6 (a2.qa.length:Int))::t);refine WO.fn (e2:=z2 ((14,.int .i64 0)::y0)) ?_;refine W.block ?_;obtain⟨hl1,h⟩:=qm h;refine W.wk<|W.range (σ:=(LA×LA)) a2.qa (fun k1 s=>z2 [(14,I6 (k1:Int)),(1000003,.hob 3 [] (M6 s.1)),(1000006,.hob 3 [] (M6 s.2))]) (fun r0 k0 s=>qq a3 (qu a2 a3) r0 k0 s.1 s.2=some r) (fun s h=>?_) (fun x1 r1 k1 s hx1 hk1 h hN1=>?_) (a1,(D5 8 0)) h
 .obtain⟨v8,v9⟩:=s;have h:qq a3 (qu a2 a3) [] (a2.qa).length v8 v9=some r:=h;rw[qq.eq_1]at h;refine W.sr<|WO.pq 0 (jB (ja (l:=a2.qa)))<|WO.fn (e2:=z2 [(14,I6 ((a2.qa).length:Int)),(15,.bool false),(1000003,.hob 3 [] (M6 v8)),(1000006,.hob 3 [] (M6 v9))]) ?_;exact W.seq<|W.cF<|W.exit<|W.wk (hK6 (v8,v9) h)
 obtain⟨v8,v9⟩:=s;have h:qq a3 (qu a2 a3) (x1::r1) k1 v8 v9=some r:=h;rw[qq.eq_2]at h;refine W.sr<|WO.pq 0 (jB (jy hk1)) ?_;let y2:Env:=[(1000003,.hob 3 [] (M6 v8)),(1000006,.hob 3 [] (M6 v9))];let z3:=fun t=>z2 ((14,I6 (k1:Int))::t);refine WO.fn (e2:=z3 ((15,.bool true)::y2)) ?_;refine W.seq<|W.cT ?_;let y3:Env:=(12,l3 none a2.qa)::(13,I6 (a2.qa.length:Int))::(14,I6 (k1:Int))::y2;refine W.sw (e:=z1 y3) ?_;refine W.seq ?_;let y4:Env:=[(1000006,.hob 3 [] (M6 v9))];refine W.join (σ:=(LA)) (fun s=>z3 ((1000003,.hob 3 [] (M6 s))::y4)) (fun s=>(qB v9 (qq a3 (qu a2 a3) r1 (k1+1))) s=some r) (fun v32 h=>?_) (fun hK10=>?_)
 .unfold qB at h;exact W.rg<|WO.pq 0 (jI (qN hl1 hk1))<|WO.fn (hN1 (v32,v9) h)
 refine W.block<|W.sr<|WO.pq 1 (jA (f:=(AV.int .i64)) hx1)<|WO.fn (e2:=z1 ((8,I6 (k1:Int))::(9,I6 x1)::y3)) ?_;refine W.sr ?_;obtain⟨hc13,h⟩:=qm h;obtain⟨e14,he14,h⟩:=qb h;refine WO.pk 6 (if (0:Int)<=(k1:Int)/\(k1:Int)<((2:Nat):Int) then cut Try.prog 3 (List.map AV.strip (M6 ([a3.f_a,a3.f_b]:LA))) (A0 (k1:Int) * 1) else none) (qjV (qP .i64) kR (of_decide_eq_true hc13) he14) ?_;let z4:=fun t=>z1 ((9,I6 x1)::(10,I6 e14)::t);refine WO.fn (e2:=z4 y3) ?_;refine W.block<|W.seq ?_;let z5:=fun t=>z4 ((12,l3 none a2.qa)::(13,I6 (a2.qa.length:Int))::(14,I6 (k1:Int))::t);refine W.join (σ:=(Bool)) (fun s=>z5 ((26,.bool s)::y2)) (fun s=>(qx x1 v8 v9 e14 (qB v9 (qq a3 (qu a2 a3) r1 (k1+1)))) s=some r) (fun v24 h=>?_) (fun hK15=>?_)
 .unfold qx at h;refine W.ch v24 h (fun h=>?_) (fun h=>?_)
  .refine W.sr ?_;obtain⟨hc26,h⟩:=qm h;refine WO.pk 0 (cut Try.prog 178 (M6 v8) 0) (Xx (qP .i64) (sz:=8) kR (of_decide_eq_true hc26)) ?_;obtain⟨hc27,h⟩:=qm h;refine WO.storeA (enc:=(AV.int .i64)) (l:=v8) (l':=v9) (s:=1000006) (sz:=8) 0 (qP .i64) hc27 (e1:=z5 [(26,.bool v24),(52,.agg (M6 v8)),(1000003,.hob 3 [] (M6 v8)),(1000006,.hob 3 [] (M6 v8))]) ?_;let z6:=fun t=>EN ((6,.pb 1000006 0)::(7,.bool false)::(1000006,.hob 3 [] (M6 v8))::t);refine WO.fn (e2:=z6 []) ?_;refine W.wk (e:=z6 []) ?_;obtain⟨hn28,h⟩:=qm h;have hr:jX Try.prog Try.f129 [(6,.pb 1000006 0),(7,.bool false),(1000006,.hob 3 [] (M6 v8))]=some (.tup [.agg (M6 v8),.bool false]):=(by kernel_rfl:jX Try.prog Try.f129 [(6,.pb 1000006 0),(7,.bool false),(1000006,.hob 3 [] (M6 v8))]=match optAll [(cut Try.prog 178 (M6 v8) 0).map AV.strip,some (.bool false)] with | some l=>some (.tup (l.map AV.strip)) | none=>none).trans (by rw[Xx (qP .i64) (sz:=8) (by kernel_rfl) (of_decide_eq_true hn28)];rfl);cases h;exact W.ret hr
  refine W.seq ?_;let z7:=fun t=>z5 ((53,.bool (decide (x1 >= 0)))::t);refine W.rt (e2:=z7 y2) ?_;refine W.ch (decide (x1 >= 0)) h (fun h=>?_) (fun h=>?_)
  .refine W.rg ?_;obtain⟨hc30,h⟩:=qm h;refine WO.pi 2 (v:=.pb 1000003 (0+A0 x1 * 1)) hc30 ?_;obtain⟨hc31,h⟩:=qm h;let y5:Env:=(1000003,.hob 3 [] (M6 (v8.set (0+A0 x1 * 1) e14)))::y4;exact WO.setA (enc:=(AV.int .i64)) (l:=v8) (x:=e14) (s:=1000003) (off:=(0+A0 x1 * 1)) 0 (qP .i64) hc31 (e1:=z7 ((56,I6 x1)::(57,I6 e14)::(58,.pb 1000003 (0+A0 x1 * 1))::y5))<|WO.fn (hK10 (v8.set (0+A0 x1 * 1) e14) h)
  exact W.sw (hK10 v8 h)
 refine W.rg ?_;let z8:=fun t=>z5 ((27,I6 x1)::t);refine WO.bh 3 (fun b=>z8 ((28,.bool b)::(29,.bool b)::y2)) (decide (x1<0)) h (fun h=>?_) (fun h=>?_)
 .let z9:=fun t=>z8 ((28,.bool true)::(29,.bool true)::(30,I6 x1)::(31,I6 (W6 (0 - x1)))::(32,I6 e14)::t);refine WO.bh 6 (fun b=>z9 ((33,.bool b)::(34,.bool b)::(35,.bool b)::y2)) ((W6 (0 - x1)) != e14) h (fun h=>?_) (fun h=>?_)
  .exact WO.fn (hK15 true h)
  let z10:=fun t=>z9 ((33,.bool false)::(34,.bool false)::(35,.bool false)::(36,I6 x1)::t);refine WO.bh 3 (fun b=>z10 ((37,.bool b)::(38,.bool b)::y2)) (decide (x1 >= 0)) h (fun h=>?_) (fun h=>?_)
  .obtain⟨hc16,h⟩:=qm h;refine WO.pi 1 (v:=.pb 1000003 (0+A0 x1 * 1)) hc16 ?_;obtain⟨e17,he17,h⟩:=qb h;refine WO.pk 0 (cut Try.prog 3 (M6 v8) (0+A0 x1 * 1)) (Uz (qP .i64) kR he17)<|WO.bh 3 (fun b=>z10 ((37,.bool true)::(38,.bool true)::(39,I6 x1)::(40,.pb 1000003 (0+A0 x1 * 1))::(41,I6 e17)::(42,.bool b)::(43,.bool b)::(44,.bool b)::y2)) (e17 != 0) h (fun h=>?_) (fun h=>?_)
   .obtain⟨hc18,h⟩:=qm h;refine WO.pi 1 (v:=.pb 1000003 (0+A0 x1 * 1)) hc18 ?_;obtain⟨e19,he19,h⟩:=qb h;exact WO.pk 0 (cut Try.prog 3 (M6 v8) (0+A0 x1 * 1)) (Uz (qP .i64) kR he19)<|WO.fn (hK15 (e19 != e14) h)
   exact WO.fn (hK15 false h)
  exact WO.fn (hK15 false h)
 let z11:=fun t=>z8 ((28,.bool false)::(29,.bool false)::(30,.und)::(31,.und)::(32,.und)::(33,.und)::(34,.bool false)::(35,.bool false)::(36,I6 x1)::t);refine WO.bh 9 (fun b=>z11 ((37,.bool b)::(38,.bool b)::y2)) (decide (x1 >= 0)) h (fun h=>?_) (fun h=>?_)
 .obtain⟨hc20,h⟩:=qm h;refine WO.pi 1 (v:=.pb 1000003 (0+A0 x1 * 1)) hc20 ?_;obtain⟨e21,he21,h⟩:=qb h;refine WO.pk 0 (cut Try.prog 3 (M6 v8) (0+A0 x1 * 1)) (Uz (qP .i64) kR he21)<|WO.bh 3 (fun b=>z11 ((37,.bool true)::(38,.bool true)::(39,I6 x1)::(40,.pb 1000003 (0+A0 x1 * 1))::(41,I6 e21)::(42,.bool b)::(43,.bool b)::(44,.bool b)::y2)) (e21 != 0) h (fun h=>?_) (fun h=>?_)
  .obtain⟨hc22,h⟩:=qm h;refine WO.pi 1 (v:=.pb 1000003 (0+A0 x1 * 1)) hc22 ?_;obtain⟨e23,he23,h⟩:=qb h;exact WO.pk 0 (cut Try.prog 3 (M6 v8) (0+A0 x1 * 1)) (Uz (qP .i64) kR he23)<|WO.fn (hK15 (e23 != e14) h)
  exact WO.fn (hK15 false h)
 exact WO.fn (hK15 false h)
end Go.AM
namespace Go.AM
abbrev lF (l:LI):AV:=.lst 127 3 none (l.map qh)
def wfF (f:rufact):Bool:=wfI .i64 f.qn && wfI .i64 f.f_a && wfI .i64 f.f_b
def freeP (no:LB) (v:LA):LQ->LD
 | []=>some true
 | x::body=>bif x.qw then (qA v x.qg).bind fun f=>chk (wfF f) (bif mget qf false f no then some false else freeP no v body) else freeP no v body
def fitL (k:LA->La) (a:qo) (v:LA):LI->La
 | []=>some []
 | g::gs=>(jn v a g).bind fun p=>(bif p.2 then k p.1 else some []).bind fun l=>(fitL k a v gs).bind fun m=>some (l++m)
def tryP (all:LQ) (no:LB) (bl:Lf):LQ->LA->La
 | [],v=>(freeP no v all).bind fun ok=>some (bif ok then [v] else [])
 | x::body,v=>bif x.qw then tryP all no bl body v else chk (wfI .i64 x.qg.qc) (fitL (tryP all no bl body) x.qg v (mget keq1 [] x.qg.qc bl))
abbrev valsV (v:LA):Value:=.agg (v.map (Value.int .i64)).toArray
abbrev factV (f:rufact):Value:=.agg #[.int .i64 f.qn,.int .i64 f.f_a,.int .i64 f.f_b]
end Go.AM
namespace Go.Proofs
open Go.RowKit Go.AM
open Go.ChangeMaps (setBlock)
variable {e k o:Nat} {xs:LJ} {u v:Value} {cs:LO} {t:TypeId} {rel x0 x1 x2:Int} {f:rufact}
abbrev retU:Ending:=.returned (.tuple #[])
structure CB (D:Li->Prop) (g:Nat) (caps:LO) (M0:Mem) (S:Li->Mem->World->Prop):Prop where
 pre:∀ {a b},D (a++b)->D a
 enter:∀ args w,(callFunc g args).run Try.prog w=.ok (.enter g args) w
 cons:∀ {d M w},S d M w->Cons M w/\Sub M0 M
 grow:∀ {d M M' w w'},S d M w->Below w.heap.size w w'->Sub M M'->(∀ b o,b<w.heap.size->M' b o=M b o)->Cons M' w'->S d M' w'
 down:∀ {d M M' w},S d M w->Sub M0 M'->Sub M' M->S d M' w
 call:∀ {d M w} (v:LA),v.length=8->D (d++[v])->S d M w->Calls Try.prog g (#[valsV v]++caps) w fun e w'=>e=retU/\S (d++[v]) M w'
def tryV (br bn bf bt bb:Nat):Value:=.func (.func 128) #[] #[.pointer (some ⟨br,0,none⟩),.pointer (some ⟨bn,0,none⟩),.pointer (some ⟨bf,0,none⟩),.pointer (some ⟨bt,0,none⟩),.pointer (some ⟨bb,0,none⟩)]
structure TE (M:Mem) (br bn bf bt bb:Nat) (body:LQ) (no:LB) (bl:Lf) (g:Nat) (caps:LO):Prop where
 r:∃ bv,M br 2=some bv/\R M (l56 none body) bv
 n:∃ mv,M bn 0=some mv/\R M (mpE qh AV.bool no) mv
 f:M bf 0=some (.func (.func g) #[] caps)
 t:M bt 0=some (tryV br bn bf bt bb)
 b:∃ mv,M bb 0=some mv/\R M (mpE (AV.int .i64) lF bl) mv
 len:body.length<=1000
theorem TE.mono {M M':Mem} {br bn bf bt bb:Nat} {body:LQ} {no:LB} {bl:Lf} {g:Nat} {caps:LO} (h:TE M br bn bf bt bb body no bl g caps) (hs:Sub M M'):TE M' br bn bf bt bb body no bl g caps:=by
 obtain⟨⟨bv,h1,h2⟩,⟨mv,h3,h4⟩,h5,h6,⟨mv2,h7,h8⟩,h9⟩:=h;exact⟨⟨bv,hs _ _ _ h1,h2.mono hs⟩,⟨mv,hs _ _ _ h3,h4.mono hs⟩,hs _ _ _ h5,hs _ _ _ h6,⟨mv2,hs _ _ _ h7,h8.mono hs⟩,h9⟩
theorem qbt {M:Mem} (h:R M (.lst e k none xs) v):∃ a cap,v=.slice a xs.length cap/\∀ i x,xs[i]? = some x->∃ b off,a=some ⟨b,off,none⟩/\∀ j c,x.cells[j]? = some c->∃ u,M b (off+(i * k+j))=some u/\R M c u:=by
 cases h with
 | lstn=>exact⟨none,0,rfl,fun i x hx=>by simp at hx⟩
 | lste _ _ _ ad cap=>exact⟨some ad,cap,rfl,fun i x hx=>by simp at hx⟩
 | lst us h1 h2 h5 h3 h4 =>
  rename_i b off cap;refine⟨some ⟨b,off,none⟩,cap,rfl,fun i x hx=>⟨b,off,rfl,fun j c hc=>?_⟩⟩;have hk:=h2 x (List.mem_of_getElem? hx)
  have hj:j<k:=by rw[<- hk];exact (List.getElem?_eq_some_iff.1 hc).1
  have hf:=(Yu h2 hx j hj).trans hc;exact⟨us (i * k+j),h3 _ _ hf,h4 _ _ hf⟩
theorem JF {M:Mem} {l:LR} (h:R M (.lst e k l xs) v):∃ a cap,v=.slice a xs.length cap:=by
 cases h with
 | lstn=>exact⟨none,0,rfl⟩
 | lste _ _ _ ad cap=>exact⟨some ad,cap,rfl⟩
 | lst us h1 h2 h5 h3 h4=>exact⟨_,_,rfl⟩
theorem qbC {M:Mem} {body:LQ} (h:R M (l56 none body) v):∃ a cap,v=.slice a body.length cap/\∀ i x,body[i]? = some x->∃ b off av,a=some ⟨b,off,none⟩/\M b (off+i * 3)=some (.bool x.qw)/\M b (off+i * 3+1)=some (.int .i64 x.qg.qc)/\M b (off+i * 3+2)=some av/\R M (l3 none x.qg.qa) av/\∃ aa ac,av=.slice aa x.qg.qa.length ac:=by
 obtain⟨a,cap,rfl,hc⟩:=qbt h;refine⟨a,cap,by rw[D6],fun i x hx=>?_⟩;obtain⟨b,off,rfl,hcell⟩:=hc i (XB x) (by simp[hx]);obtain⟨u0,h0,r0⟩:=hcell 0 _ rfl;obtain⟨u1,h1,r1⟩:=hcell 1 _ rfl;obtain⟨u2,h2,r2⟩:=hcell 2 _ rfl;cases r0;cases r1;obtain⟨aa,ac,e⟩:=JF r2;exact⟨b,off,u2,rfl,h0,h1,h2,r2,aa,ac,by rw[e,D6]⟩
theorem qdm {M:Mem} {l:LI} (h:R M (lF l) v):∃ a cap,v=.slice a l.length cap/\∀ i x,l[i]? = some x->∃ b off,a=some ⟨b,off,none⟩/\M b (off+i * 3)=some (.int .i64 x.qn)/\M b (off+i * 3+1)=some (.int .i64 x.f_a)/\M b (off+i * 3+2)=some (.int .i64 x.f_b):=by
 obtain⟨a,cap,rfl,hc⟩:=qbt h;refine⟨a,cap,by rw[D6],fun i x hx=>?_⟩;obtain⟨b,off,rfl,hcell⟩:=hc i (qh x) (by simp[hx]);obtain⟨u0,h0,r0⟩:=hcell 0 _ rfl;obtain⟨u1,h1,r1⟩:=hcell 1 _ rfl;obtain⟨u2,h2,r2⟩:=hcell 2 _ rfl;cases r0;cases r1;cases r2;exact⟨b,off,rfl,h0,h1,h2⟩
theorem qcs (M:Mem) (v:LA):R M (.agg (v.map (AV.int .i64))) (valsV v):=by
 refine .agg (by simp) fun j c u hc hu=>?_
 rw[List.getElem?_map,E0]at hc hu;obtain⟨x,h1,rfl⟩:=hc;obtain⟨y,h2,rfl⟩:=hu;rw[h1]at h2;cases h2;exact .int _ _
theorem qks {M:Mem} {v:LA} (h:R M (.agg (v.map (AV.int .i64))) u):u=valsV v:=by
 obtain⟨vs,rfl,hl,hr⟩:=h.agg_inv
 have:vs=v.map (Value.int .i64):=by
  refine List.ext_getElem? fun i=>?_
  rw[List.getElem?_map];by_cases hi:i<v.length
  .have hi2:i<vs.length:=by rw[<- hl];simpa using hi
   rw[B1 hi2,B1 hi];have:=hr i (AV.int .i64 v[i]) vs[i] (by simp[hi]) (B1 hi2);rw[this.int_inv];rfl
  rw[E9 (by rw[<- hl];simpa using hi),E9 (by omega)];rfl
 rw[this]
theorem eight {v:LA} (h:v.length=8):∃ a0 a1 a2 a3 a4 a5 a6 a7,v=[a0,a1,a2,a3,a4,a5,a6,a7]:=by
 match v,h with
 | [a0,a1,a2,a3,a4,a5,a6,a7],_=>exact⟨_,_,_,_,_,_,_,_,rfl⟩
def skipsOk (md:Region.Mode) (ops:Lh):LP->Array Bool->Act->Bool
 | [],_,_=>true
 | i::r,listed,a=>Region.free md ops listed i && (((C0 md ops listed).contains i) && (match ops[i]? with
  | some o=>!D2 o (yielded ops a.tmps) && skipsOk md ops r (listed.setIfInBounds i true) (a.put o.dst undef)
  | none=>false))
def skipL:LP->Array Bool->Array Bool
 | [],l=>l
 | i::r,l=>skipL r (l.setIfInBounds i true)
def skipA (ops:Lh):LP->Act->Act
 | [],a=>a
 | i::r,a=>skipA ops r (match ops[i]? with | some o=>a.put o.dst undef | none=>a)
theorem qar {P:Program} {ops:Lh} {Q:Exit->Act->World->Prop} {md:Region.Mode} {S:World->Prop} (hs:Region.noSelect ops=true) {w:World} (hS:S w) (hq:∀ c a d v w,Q (.panic c) (a.put d v) w->Q (.panic c) a w):∀ (L:LP) {fuel:Nat} {listed:Array Bool} {a:Act},skipsOk md ops L listed a=true ->
  wpAnyH P md ops Q S fuel (skipL L listed) (skipA ops L a) w->wpAnyH P md ops Q S (fuel+L.length) listed a w
 | [],fuel,listed,a,_,h=>h
 | i::r,fuel,listed,a,hk,h=>by
  simp only[skipsOk,D0]at hk;obtain⟨h1,h2,h3⟩:=hk
  cases ho:ops[i]? with
  | none=>rw[ho]at h3;cases h3
  | some o =>
   rw[ho]at h3;simp only[D0,Bool.not_eq_true']at h3
   have h4:wpAnyH P md ops Q S fuel (skipL r (listed.setIfInBounds i true)) (skipA ops r (a.put o.dst undef)) w:=by
    have:skipA ops (i::r) a=skipA ops r (a.put o.dst undef):=by simp only[skipA,ho]
    rw[<- this];exact h
   exact wpAnyH_take ho hs h1 h2 (fun c b w' hh=>hq _ _ _ _ _ hh) (Or.inr ⟨h3.1,rfl⟩) hS (qar hs hS hq r h3.2 h4)
def mbox (M:Mem) (b:Nat) (cs:LO):Mem:=fun b' o=>if b'=b then cs[o]? else M b' o
theorem Ui {M:Mem} {b:Nat}:mbox M b cs b o=cs[o]?:=by simp[mbox]
theorem Zn {M:Mem} {b b':Nat} (h:b'≠b):mbox M b cs b' o=M b' o:=by simp[mbox,h]
theorem Ys {M:Mem} {w:World} {b:Nat} (hC:Cons M w) (h:w.heap.size<=b):Sub M (mbox M b cs):=fun b' o u hu=>by
 have:=NJ (hC _ _ _ hu);rw[Zn (by omega)];exact hu
theorem Di {M:Mem} {w:World} {b:Nat} {fz:Nat×Nat} (hC:Cons M w) (h:w.heap[b]? = some (.cells cs t fz)) (hv:∀ (j:Nat) u,cs[j]? = some u->isTup u=false):Cons (mbox M b cs) w:=fun b' o u hu=>by
 unfold mbox at hu;split at hu
 .rename_i e;subst e;unfold mc;rw[h];exact Jy hu (hv _ _ hu)
 exact hC _ _ _ hu
theorem CB.box {D:Li->Prop} {g:Nat} {caps:LO} {M0:Mem} {S:Li->Mem->World->Prop} (hcb:CB D g caps M0 S) {d:Li} {M:Mem} {w:World} (hS:S d M w) (hv:∀ (j:Nat) u,cs[j]? = some u->isTup u=false):S d (mbox M w.heap.size cs) (w.alloc (.cells cs t)):=by
 obtain⟨hC,_⟩:=hcb.cons hS;exact hcb.grow hS ((Below.refl _ _).alloc (A5 _) _) (Ys hC (A5 _)) (fun b o hb=>Zn oM) (Di (hC.alloc _) (heap_alloc_new _ _) hv)
theorem tup8 {x3 x4 x5 x6 x7:Int}:∀ (j:Nat) u,(#[.int .i64 x0,.int .i64 x1,.int .i64 x2,.int .i64 x3,.int .i64 x4,.int .i64 x5,.int .i64 x6,.int .i64 x7]:LO)[j]? = some u->isTup u=false:=fun j u h=>by
 match j,h with
 | 0,h | 1,h | 2,h | 3,h | 4,h | 5,h | 6,h | 7,h=>cases h;rfl
theorem tup3 {x0:Bool} {aa:Option Addr} {n ac:Nat}:∀ (j:Nat) u,(#[.bool x0,.int .i64 x1,.slice aa n ac]:LO)[j]? = some u->isTup u=false:=fun j u h=>by
 match j,h with
 | 0,h | 1,h | 2,h=>cases h;rfl
theorem qhE {M:Mem} {no:LB} {mv:Value} (hm:R M (mpE qh AV.bool no) mv) (hf:wfF f=true):∀ w,Cons M w->(Instr.lookup 105 mv (.agg #[.int .i64 f.qn,.int .i64 f.f_a,.int .i64 f.f_b]) false).run Try.prog w=.ok (.bool (mget qf false f no)) w:=by
 intro w hC
 have hk:(qh f).keyV=some (.agg #[.int .i64 f.qn,.int .i64 f.f_a,.int .i64 f.f_b]):=by
  unfold wfF at hf;rw[D0,D0]at hf;simp only[qh,AV.keyV,keyVs,hf.1.1,hf.1.2,hf.2]
 have hr:=YG (P:=Try.prog) (t:=105) (kt:=127) (e:=4) (F:=qh) (G:=AV.bool) (eq:=qf) (l:=no) (k:=f) (z:=false) (by rw[hk];rfl) kR (fun x=>by kernel_rfl) (fun x y=>rfl) kR;obtain⟨v,h1,h2⟩:=qaF (kt:=127) (e:=4) (w:=w) hC hm kR hk hr;cases h2;exact h1
theorem Zc {M:Mem} {ks vs:LJ} (h:R M (.mpv ks vs) v):∃ mo,v=.map mo:=by
 generalize hx:AV.mpv ks vs=x at h
 cases h <;> first | exact⟨_,rfl⟩ | cases hx
theorem Hr {M:Mem} (h:R M (.agg [.int .i64 f.qn,.int .i64 f.f_a,.int .i64 f.f_b]) v):v=factV f:=by
 obtain⟨vs,rfl,hl,hr⟩:=h.agg_inv
 match vs,hl with
 | [u0,u1,u2],_ =>
  have r0:=hr 0 _ _ rfl rfl;have r1:=hr 1 _ _ rfl rfl;have r2:=hr 2 _ _ rfl rfl;rw[r0.int_inv,r1.int_inv,r2.int_inv]
theorem CB.drew {D:Li->Prop} {g:Nat} {caps:LO} {M0:Mem} {S:Li->Mem->World->Prop} (hcb:CB D g caps M0 S) {d:Li} {M:Mem} {w:World} (hS:S d M w):S d M w.drew :=
 hcb.grow hS ⟨rfl,rfl,rfl,A5 _,fun _ _=>rfl⟩ (Sub.refl M) (fun _ _ _=>rfl) (hcb.cons hS).1
theorem qG {M:Mem} {w:World} (hC:Cons M w) {b:Nat} (h:M b o=some v) (ht:isTup v=false):w.cell? ⟨b,o,none⟩=some v:=JS (hC _ _ _ h) ht
theorem qdB {M:Mem} {args:LA} {av:Value} (h:R M (l3 none args) av):R M (.agg [.int .i64 rel,l3 none args]) (.agg #[.int .i64 rel,av]):=by
 refine .agg (vs:=[.int .i64 rel,av]) rfl fun j c v hc hv=>?_
 match j,hc,hv with
 | 0,hc,hv=>cases hc;cases hv;exact .int _ _
 | 1,hc,hv=>cases hc;cases hv;exact h
set_option maxHeartbeats 4000000 in
theorem Try.leaf128 (D:Li->Prop) (g:Nat) (caps:LO) (M0:Mem) (S:Li->Mem->World->Prop) (hcb:CB D g caps M0 S) (br bn bf bt bb:Nat) (body:LQ) (no:LB) (bl:Lf) (ht:TE M0 br bn bf bt bb body no bl g caps)
  (v:LA) (out d:Li) (M:Mem) (w:World) (hv:v.length=8) (h:tryP body no bl [] v=some out) (hD:D (d++out)) (hS:S d M w) :
   Calls Try.prog 128 #[.int .i64 (body.length:Nat),valsV v,.pointer (some ⟨br,0,none⟩),.pointer (some ⟨bn,0,none⟩),.pointer (some ⟨bf,0,none⟩),.pointer (some ⟨bt,0,none⟩),.pointer (some ⟨bb,0,none⟩)] w fun e w'=>e=retU/\S (d++out) M w':=by
  have mixed:=mixedP;have⟨t3,a3,z3,v3,u3⟩:=Tf3;have⟨t4,a4,z4,v4,u4⟩:=Tf4;have⟨t50,a50,z50,v50,u50⟩:=Tf50;have⟨t52,a52,z52,v52,u52⟩:=Tf52;have⟨t54,a54,z54,v54,u54⟩:=Tf54;have⟨t56,a56,z56,v56,u56⟩:=Tf56;have⟨t105,a105,z105,v105,u105⟩:=Tf105;have⟨t127,a127,z127,v127,u127⟩:=Tf127;have⟨t150,a150,z150,v150,u150⟩:=Tf150;have⟨t178,a178,z178,v178,u178⟩:=Tf178;have⟨t180,a180,z180,v180,u180⟩:=Tf180;have⟨t191,a191,z191,v191,u191⟩:=Tf191;have⟨t192,a192,z192,v192,u192⟩:=Tf192;obtain⟨hC,hM0⟩:=hcb.cons hS;obtain⟨bv,q1,q2⟩:=ht.r;obtain⟨ba,bc,rfl,hbody⟩:=qbC q2;obtain⟨x0,x1,x2,x3,x4,x5,x6,x7,rfl⟩:=eight hv;have hlen:=ht.len
  have c1:∀ o,(w.alloc o).cell? ⟨br,2,none⟩=some (.slice ba body.length bc):=fun o=>JS ((hC.alloc o) _ _ _ (hM0 _ _ _ q1)) rfl
  obtain⟨ok,hok,h⟩:=qb h;obtain⟨w1,ew1⟩:∃ w1,w1=w.alloc (.cells #[.int .i64 x0,.int .i64 x1,.int .i64 x2,.int .i64 x3,.int .i64 x4,.int .i64 x5,.int .i64 x6,.int .i64 x7] 178):=⟨_,rfl⟩;obtain⟨M1,eM1⟩:∃ M1,M1=mbox M w.heap.size #[.int .i64 x0,.int .i64 x1,.int .i64 x2,.int .i64 x3,.int .i64 x4,.int .i64 x5,.int .i64 x6,.int .i64 x7]:=⟨_,rfl⟩
  have S1:S d M1 w1:=by rw[ew1,eM1];exact hcb.box hS tup8
  have s1:Sub M M1:=by rw[eM1];exact Ys hC (A5 _)
  have b8:∀ j:Nat,M1 w.heap.size j=(#[.int .i64 x0,.int .i64 x1,.int .i64 x2,.int .i64 x3,.int .i64 x4,.int .i64 x5,.int .i64 x6,.int .i64 x7]:LO)[j]?:=fun j=>by rw[eM1,Ui]
  have HW:=(show Hid (w1=_) from ew1);clear ew1 eM1
  go_enter Try.func128,Try.ntmps128
  go_wp2
  rw[<- HW.out]
  go_loopw [24] (fun i wr=>∃ k:Nat,k<=body.length/\i=.int .i64 k/\freeP no [x0,x1,x2,x3,x4,x5,x6,x7] (body.drop k)=some ok/\∃ M',Sub M1 M'/\S d M' wr)
   (fun i _=>body.length - (RowKit.intOf i).toNat)
  case atStart=>exact⟨0,Nat.zero_le _,rfl,hok,M1,Sub.refl _,S1⟩
  case round =>
   obtain⟨k,hk,rfl,hfr,M2,s2,S2⟩:=hrel;obtain⟨C2,_⟩:=hcb.cons S2
   rcases D1 k body.length with hk1 | hk1
   .obtain⟨b,off,av,rfl,e0,e1,e2,rav,aa,ac,rfl⟩:=hbody k _ (B1 hk1);rw[D7 hk1]at hfr;have j0:(0:Int)<=(k:Int):=D8 _
    have j1:(k:Int)<(body.length:Int):=by omega
    have sM:Sub M M2:=Sub.trans s1 s2;have f0:=JS (C2 _ _ _ (sM _ _ _ (hM0 _ _ _ e0))) rfl;have f1:=JS (C2 _ _ _ (sM _ _ _ (hM0 _ _ _ e1))) rfl;have f2:=JS (C2 _ _ _ (sM _ _ _ (hM0 _ _ _ e2))) rfl;generalize body[k]=x at hfr e0 e1 e2 rav f0 f1 f2;obtain⟨nt,⟨rel,args⟩⟩:=x;obtain⟨w2,ew2⟩:∃ w2,w2=wr.alloc (.cells #[.bool nt,.int .i64 rel,.slice aa args.length ac] 56):=⟨_,rfl⟩;obtain⟨M3,eM3⟩:∃ M3,M3=mbox M2 wr.heap.size #[.bool nt,.int .i64 rel,.slice aa args.length ac]:=⟨_,rfl⟩
    have S3:S d M3 w2:=by rw[ew2,eM3];exact hcb.box S2 tup3
    have s3:Sub M2 M3:=by rw[eM3];exact Ys C2 (A5 _)
    have b10:∀ j:Nat,M3 wr.heap.size j=(#[.bool nt,.int .i64 rel,.slice aa args.length ac]:LO)[j]?:=fun j=>by rw[eM3,Ui]
    have S4:=hcb.drew S3;obtain⟨C4,_⟩:=hcb.cons S4;have s0:Sub M0 M3:=Sub.trans hM0 (Sub.trans sM s3);obtain⟨mv,n1,n2⟩:=ht.n;obtain⟨mo,rfl⟩:=Zc n2
    have KK:∀ w' M',Sub M3 M'->Cons M' w'->w'.cell? ⟨wr.heap.size,0,none⟩=some (.bool nt)/\w'.cell? ⟨wr.heap.size,1,none⟩=some (.int .i64 rel)/\w'.cell? ⟨wr.heap.size,2,none⟩=some (.slice aa args.length ac)/\w'.cell? ⟨bn,0,none⟩=some (.map mo)/\w'.cell? ⟨w.heap.size,0,none⟩=some (.int .i64 x0)/\w'.cell? ⟨w.heap.size,1,none⟩=some (.int .i64 x1)/\w'.cell? ⟨w.heap.size,2,none⟩=some (.int .i64 x2)/\w'.cell? ⟨w.heap.size,3,none⟩=some (.int .i64 x3)/\w'.cell? ⟨w.heap.size,4,none⟩=some (.int .i64 x4)/\w'.cell? ⟨w.heap.size,5,none⟩=some (.int .i64 x5)/\w'.cell? ⟨w.heap.size,6,none⟩=some (.int .i64 x6)/\w'.cell? ⟨w.heap.size,7,none⟩=some (.int .i64 x7):=fun w' M' hs hC'=>⟨qG hC' (hs _ _ _ (b10 0)) rfl,qG hC' (hs _ _ _ (b10 1)) rfl,qG hC' (hs _ _ _ (b10 2)) rfl,qG hC' (hs _ _ _ (s0 _ _ _ n1)) rfl,qG hC' (hs _ _ _ (s3 _ _ _ (s2 _ _ _ (b8 0)))) rfl,qG hC' (hs _ _ _ (s3 _ _ _ (s2 _ _ _ (b8 1)))) rfl,qG hC' (hs _ _ _ (s3 _ _ _ (s2 _ _ _ (b8 2)))) rfl,qG hC' (hs _ _ _ (s3 _ _ _ (s2 _ _ _ (b8 3)))) rfl,qG hC' (hs _ _ _ (s3 _ _ _ (s2 _ _ _ (b8 4)))) rfl,qG hC' (hs _ _ _ (s3 _ _ _ (s2 _ _ _ (b8 5)))) rfl,qG hC' (hs _ _ _ (s3 _ _ _ (s2 _ _ _ (b8 6)))) rfl,qG hC' (hs _ _ _ (s3 _ _ _ (s2 _ _ _ (b8 7)))) rfl⟩
    have HW2:=(show Hid (w2=_) from ew2)
    have c118:=fun f (hgr:qA [x0,x1,x2,x3,x4,x5,x6,x7] ⟨rel,args⟩=some f)=>VE (JT [x0,x1,x2,x3,x4,x5,x6,x7] ⟨rel,args⟩ f hgr) M3 w2.drew [valsV [x0,x1,x2,x3,x4,x5,x6,x7],.agg #[.int .i64 rel,.slice aa args.length ac]] (glob0 M3) C4 rfl (fun j a b ha hb=>by
     match j,ha,hb with
     | 0,ha,hb=>cases ha;cases hb;exact qcs _ _
     | 1,ha,hb=>cases ha;cases hb;exact qdB (rav.mono s0))
    have h118:=(show Hid _ from c118);clear ew2 eM3 c118
    go_wp2
    rw[<- HW2.out]
    cases nt with
    | false =>
     have hfr:freeP no [x0,x1,x2,x3,x4,x5,x6,x7] (List.drop (k+1) body)=some ok:=hfr;have K0:=KK w2.drew M3 (Sub.refl _) C4;obtain⟨an,ean⟩:∃ an,an=args.length:=⟨_,rfl⟩;rw[<- ean]at K0 ⊢;refine wp_region_held_drew (S:=(fun w'=>w'.cell? ⟨wr.heap.size,0,none⟩=some (.bool false)/\w'.cell? ⟨wr.heap.size,1,none⟩=some (.int .i64 rel)/\w'.cell? ⟨wr.heap.size,2,none⟩=some (.slice aa an ac)/\w'.cell? ⟨bn,0,none⟩=some (.map mo)/\w'.cell? ⟨w.heap.size,0,none⟩=some (.int .i64 x0)/\w'.cell? ⟨w.heap.size,1,none⟩=some (.int .i64 x1)/\w'.cell? ⟨w.heap.size,2,none⟩=some (.int .i64 x2)/\w'.cell? ⟨w.heap.size,3,none⟩=some (.int .i64 x3)/\w'.cell? ⟨w.heap.size,4,none⟩=some (.int .i64 x4)/\w'.cell? ⟨w.heap.size,5,none⟩=some (.int .i64 x5)/\w'.cell? ⟨w.heap.size,6,none⟩=some (.int .i64 x6)/\w'.cell? ⟨w.heap.size,7,none⟩=some (.int .i64 x7))) kR K0 (fun hHeld=>?_);refine tkH (i:=0) (v:=.pointer (some ⟨wr.heap.size,0,none⟩)) rfl (Or.inl ⟨by kernel_rfl,fun w' hw'=>?_⟩) hHeld ?_
     .obtain⟨q0,q1,q2,q3,q4,q5,q6,q7,q8,q9,q10,q11⟩:=hw';go_simp
     simp only[Act.put,A6,A7,A8,A2,A3,A4];refine tkH (i:=1) (v:=.bool false) rfl (Or.inl ⟨by kernel_rfl,fun w' hw'=>?_⟩) hHeld ?_
     .obtain⟨q0,q1,q2,q3,q4,q5,q6,q7,q8,q9,q10,q11⟩:=hw';go_simp
     simp only[Act.put,A6,A7,A8,A2,A3,A4];refine tkH (i:=2) (v:=.bool false) rfl (Or.inl ⟨by kernel_rfl,fun w' hw'=>?_⟩) hHeld ?_
     .obtain⟨q0,q1,q2,q3,q4,q5,q6,q7,q8,q9,q10,q11⟩:=hw';go_simp
     simp only[Act.put,A6,A7,A8,A2,A3,A4];refine qar kR hHeld (fun _ _ d _ _ h=>by cases d <;> exact h) [3,4,5,6,7,8] (fuel:=1) kR ?_;simp only[skipL,skipA,Act.put,List.getElem?_toArray,List.getElem?_cons_succ,List.getElem?_cons_zero,A2,A3,A4];refine tkH (i:=9) (v:=.bool false) rfl (Or.inl ⟨by kernel_rfl,fun w' hw'=>?_⟩) hHeld ?_
     .obtain⟨q0,q1,q2,q3,q4,q5,q6,q7,q8,q9,q10,q11⟩:=hw';go_simp
     simp only[Act.put,A6,A7,A8,A2,A3,A4];refine wpAnyH_done kR ?_ _
     go_wp2
     go_roundw
     case rel=>exact⟨k+1,hk1,by go_num,hfr,M3,Sub.trans s2 s3,S4⟩
     case measure=>simp[RowKit.intOf];omega
    | true =>
     obtain⟨f,hgr,hfr⟩:=qb (show ((qA [x0,x1,x2,x3,x4,x5,x6,x7] ⟨rel,args⟩).bind _)=some ok from hfr);obtain⟨hwf,hfr⟩:=qm hfr
     have LK:=fun w' M' (hs:Sub M3 M') (hC':Cons M' w')=>qhE (n2.mono (Sub.trans s0 hs)) hwf w' hC'
     obtain⟨bq,ebq⟩:∃ bq,bq=mget qf false f no:=⟨_,rfl⟩;rw[<- ebq]at hfr LK;have K0:_/\_:=⟨LK w2.drew M3 (Sub.refl _) C4,KK w2.drew M3 (Sub.refl _) C4⟩;obtain⟨an,ean⟩:∃ an,an=args.length:=⟨_,rfl⟩;have c118:=h118.out f hgr;rw[<- ean]at K0 KK c118 ⊢;clear h118 ean;clear ebq;refine wp_region_held_drew (S:=(fun w'=>(Instr.lookup 105 (.map mo) (.agg #[.int .i64 f.qn,.int .i64 f.f_a,.int .i64 f.f_b]) false).run Try.prog w'=.ok (.bool bq) w'/\w'.cell? ⟨wr.heap.size,0,none⟩=some (.bool true)/\w'.cell? ⟨wr.heap.size,1,none⟩=some (.int .i64 rel)/\w'.cell? ⟨wr.heap.size,2,none⟩=some (.slice aa an ac)/\w'.cell? ⟨bn,0,none⟩=some (.map mo)/\w'.cell? ⟨w.heap.size,0,none⟩=some (.int .i64 x0)/\w'.cell? ⟨w.heap.size,1,none⟩=some (.int .i64 x1)/\w'.cell? ⟨w.heap.size,2,none⟩=some (.int .i64 x2)/\w'.cell? ⟨w.heap.size,3,none⟩=some (.int .i64 x3)/\w'.cell? ⟨w.heap.size,4,none⟩=some (.int .i64 x4)/\w'.cell? ⟨w.heap.size,5,none⟩=some (.int .i64 x5)/\w'.cell? ⟨w.heap.size,6,none⟩=some (.int .i64 x6)/\w'.cell? ⟨w.heap.size,7,none⟩=some (.int .i64 x7))) kR K0 (fun hHeld=>?_);refine tkH (i:=0) (v:=.pointer (some ⟨wr.heap.size,0,none⟩)) rfl (Or.inl ⟨by kernel_rfl,fun w' hw'=>?_⟩) hHeld ?_
     .obtain⟨q0,q1,q2,q3,q4,q5,q6,q7,q8,q9,q10,q11,q12⟩:=hw';go_simp
     simp only[Act.put,A6,A7,A8,A2,A3,A4];refine tkH (i:=1) (v:=.bool true) rfl (Or.inl ⟨by kernel_rfl,fun w' hw'=>?_⟩) hHeld ?_
     .obtain⟨q0,q1,q2,q3,q4,q5,q6,q7,q8,q9,q10,q11,q12⟩:=hw';go_simp
     simp only[Act.put,A6,A7,A8,A2,A3,A4];refine tkH (i:=2) (v:=.bool true) rfl (Or.inl ⟨by kernel_rfl,fun w' hw'=>?_⟩) hHeld ?_
     .obtain⟨q0,q1,q2,q3,q4,q5,q6,q7,q8,q9,q10,q11,q12⟩:=hw';go_simp
     simp only[Act.put,A6,A7,A8,A2,A3,A4];refine tkH (i:=3) (v:=.map mo) rfl (Or.inl ⟨by kernel_rfl,fun w' hw'=>?_⟩) hHeld ?_
     .obtain⟨q0,q1,q2,q3,q4,q5,q6,q7,q8,q9,q10,q11,q12⟩:=hw';go_simp
     simp only[Act.put,A6,A7,A8,A2,A3,A4];refine tkH (i:=4) (v:=.agg #[.int .i64 x0,.int .i64 x1,.int .i64 x2,.int .i64 x3,.int .i64 x4,.int .i64 x5,.int .i64 x6,.int .i64 x7]) rfl (Or.inl ⟨by kernel_rfl,fun w' hw'=>?_⟩) hHeld ?_
     .obtain⟨q0,q1,q2,q3,q4,q5,q6,q7,q8,q9,q10,q11,q12⟩:=hw';go_simp
     simp only[Act.put,A6,A7,A8,A2,A3,A4];refine tkH (i:=5) (v:=.pointer (some ⟨wr.heap.size,1,none⟩)) rfl (Or.inl ⟨by kernel_rfl,fun w' hw'=>?_⟩) hHeld ?_
     .obtain⟨q0,q1,q2,q3,q4,q5,q6,q7,q8,q9,q10,q11,q12⟩:=hw';go_simp
     simp only[Act.put,A6,A7,A8,A2,A3,A4];refine tkH (i:=6) (v:=.agg #[.int .i64 rel,.slice aa an ac]) rfl (Or.inl ⟨by kernel_rfl,fun w' hw'=>?_⟩) hHeld ?_
     .obtain⟨q0,q1,q2,q3,q4,q5,q6,q7,q8,q9,q10,q11,q12⟩:=hw';go_simp
     simp only[Act.put,A6,A7,A8,A2,A3,A4];refine wpAnyH_ready (rs:=[7]) kR (by simp) (AllReadyH.cons rfl (fun K hK=>?_) AllReadyH.nil);rw[if_pos (by kernel_rfl)];go_simp
     go_at_call 118
     refine Calls.mono c118 ?_
     rintro e w5 ⟨fv,M5,rfl,hB5,s5,C5,o5,r5,_⟩
     obtain rfl:=Hr r5;have S5:=hcb.grow S4 hB5 s5 o5 C5;have K5:_/\_:=⟨LK w5 M5 s5 C5,KK w5 M5 s5 C5⟩
     go_wp2_with fail
     refine hK.out _ _ K5 (fun hHeld=>?_);clear hK K;refine tkH (i:=8) (v:=.bool bq) rfl (Or.inl ⟨by kernel_rfl,fun w' hw'=>?_⟩) hHeld ?_
     .obtain⟨q0,q1,q2,q3,q4,q5,q6,q7,q8,q9,q10,q11,q12⟩:=hw';go_simp
     simp only[Act.put,A6,A7,A8,A2,A3,A4];refine tkH (i:=9) (v:=.bool bq) rfl (Or.inl ⟨by kernel_rfl,fun w' hw'=>?_⟩) hHeld ?_
     .obtain⟨q0,q1,q2,q3,q4,q5,q6,q7,q8,q9,q10,q11,q12⟩:=hw';go_simp
     simp only[Act.put,A6,A7,A8,A2,A3,A4];refine wpAnyH_done kR ?_ _
     cases bq with
     | true =>
      cases hfr;cases h
      go_wp2
      refine bodyPost_ret (results_none rfl _ _ _) rfl ?_;exact⟨rfl,by simpa using hcb.down S5 hM0 (Sub.trans sM (Sub.trans s3 s5))⟩
     | false =>
      go_wp2
      go_roundw
      case rel=>exact⟨k+1,hk1,by go_num,hfr,M5,Sub.trans s2 (Sub.trans s3 s5),S5⟩
      case measure=>simp[RowKit.intOf];omega
   have hkl:k=body.length:=by omega
   subst hkl;rw[D4]at hfr;cases hfr;cases h;have hcall:=hcb.call [x0,x1,x2,x3,x4,x5,x6,x7] rfl hD S2;have f1:=qG C2 (s2 _ _ _ (s1 _ _ _ (hM0 _ _ _ ht.f))) rfl;have hen:=hcb.enter
   have k8:∀ (j:Nat) u,(#[.int .i64 x0,.int .i64 x1,.int .i64 x2,.int .i64 x3,.int .i64 x4,.int .i64 x5,.int .i64 x6,.int .i64 x7]:LO)[j]? = some u->wr.cell? ⟨w.heap.size,j,none⟩=some u:=fun j u hu=>qG C2 (s2 _ _ _ ((b8 j).trans hu)) (tup8 j u hu)
   have k80:=k8 0 _ rfl;have k81:=k8 1 _ rfl;have k82:=k8 2 _ rfl;have k83:=k8 3 _ rfl;have k84:=k8 4 _ rfl;have k85:=k8 5 _ rfl;have k86:=k8 6 _ rfl;have k87:=k8 7 _ rfl
   go_wp2_with fail
   refine Calls.mono hcall ?_
   rintro e w5 ⟨rfl,S5⟩
   go_wp2
   refine bodyPost_ret (results_none rfl _ _ _) rfl ?_;exact⟨rfl,hcb.down S5 hM0 (Sub.trans s1 s2)⟩
theorem qgS (a3:rufact) (a2:qo):∀ (args:LA) (k1:Nat) (v8 v9:LA) (p:LA×Bool),qq a3 (qu a2 a3) args k1 v8 v9=some p->p.1.length=8:=by
 intro args
 induction args with
 | nil =>
  intro k1 v8 v9 p h;unfold qq qu at h;obtain⟨h1,h⟩:=qm h;obtain⟨h2,h⟩:=qm h;obtain⟨h3,h⟩:=qm h;cases h
  simpa using h1
 | cons x args ih =>
  intro k1 v8 v9 p h
  have key:∀ e14 v24,qx x v8 v9 e14 (qB v9 (qq a3 (qu a2 a3) args (k1+1))) v24=some p->p.1.length=8:=by
   intro e14 v24 h;unfold qx at h
   cases v24 with
   | true =>
    simp only[cT]at h;obtain⟨h1,h⟩:=qm h;obtain⟨h2,h⟩:=qm h;obtain⟨h3,h⟩:=qm h;cases h
    simpa using h1
   | false =>
    simp only[cN]at h
    cases hx:decide (x >= 0) with
    | true =>
     rw[hx]at h;simp only[cT]at h;obtain⟨h1,h⟩:=qm h;obtain⟨h2,h⟩:=qm h;exact ih _ _ _ _ h
    | false =>
     rw[hx]at h;simp only[cN]at h;exact ih _ _ _ _ h
  unfold qq at h;obtain⟨h1,h⟩:=qm h;obtain⟨e14,h2,h⟩:=qb h;have key:=key e14;generalize qx x v8 v9 e14 (qB v9 (qq a3 (qu a2 a3) args (k1+1)))=J at h key
  have kk:∀ (c:Bool) (A B:LZ),(bif c then A else B)=some p->A=some p\/B=some p:=fun c A B h=>by cases c;exact .inr h;exact .inl h
  rcases kk _ _ _ h with h | h
  .rcases kk _ _ _ h with h | h
   .exact key _ h
   rcases kk _ _ _ h with h | h
   .obtain⟨_,h⟩:=qm h;obtain⟨_,_,h⟩:=qb h
    rcases kk _ _ _ h with h | h
    .obtain⟨_,h⟩:=qm h;obtain⟨_,_,h⟩:=qb h;exact key _ h
    exact key _ h
   exact key _ h
  rcases kk _ _ _ h with h | h
  .obtain⟨_,h⟩:=qm h;obtain⟨_,_,h⟩:=qb h
   rcases kk _ _ _ h with h | h
   .obtain⟨_,h⟩:=qm h;obtain⟨_,_,h⟩:=qb h;exact key _ h
   exact key _ h
  exact key _ h
theorem qli {v:LA} {a:qo} {p:LA×Bool} (h:jn v a f=some p):p.1.length=8:=by
 unfold jn at h;obtain⟨_,h⟩:=qm h;obtain⟨_,h⟩:=qm h;exact qgS _ _ _ _ _ _ _ h
theorem tup3i:∀ (j:Nat) u,(#[.int .i64 x0,.int .i64 x1,.int .i64 x2]:LO)[j]? = some u->isTup u=false:=fun j u h=>by
 match j,h with
 | 0,h | 1,h | 2,h=>cases h;rfl
theorem qlk (M:Mem) (f:rufact):R M (.agg [.int .i64 f.qn,.int .i64 f.f_a,.int .i64 f.f_b]) (factV f):=by
 refine .agg (vs:=[.int .i64 f.qn,.int .i64 f.f_a,.int .i64 f.f_b]) rfl fun j c v hc hv=>?_
 match j,hc,hv with
 | 0,hc,hv | 1,hc,hv | 2,hc,hv=>cases hc;cases hv;exact .int _ _
theorem qlj {M:Mem} {v:LA} {b:Bool} (h:R M (.tup [.agg (v.map (AV.int .i64)),.bool b]) u):u=.tuple #[valsV v,.bool b]:=by
 generalize hx:AV.tup [.agg (v.map (AV.int .i64)),.bool b]=x at h;cases h <;> cases hx;rename_i vs hl hr
 match vs,hl with
 | [u0,u1],_ =>
  rw[qks (hr 0 _ _ rfl rfl),(hr 1 _ _ rfl rfl).bool_inv]
theorem qmj {M:Mem} {bl:Lf} {mv:Value} (hm:R M (mpE (AV.int .i64) lF bl) mv) (hf:wfI .i64 rel=true):∀ w,Cons M w->∃ v,(Instr.lookup 191 mv (.int .i64 rel) false).run Try.prog w=.ok v w/\R M (lF (mget keq1 [] rel bl)) v:=by
 intro w hC
 have hk:(AV.int .i64 rel).keyV=some (.int .i64 rel):=by
  simp only[AV.keyV,hf]
 have he:∀ x y:Int,akeq (AV.int .i64 x) (AV.int .i64 y)=keq1 x y:=fun x y=>by simp[akeq,keq1,kbeq]
 have ht:QI Try.prog 191=some (3,150):=by kernel_rfl
 have hal:∀ r,(match findA (AV.int .i64 rel) (bl.map fun p=>AV.int .i64 p.1) with | some j=>(bl.map fun p=>lF p.2)[j]? | none=>zeroA1 Try.prog 150)=some r->alookup Try.prog 191 [] (mpE (AV.int .i64) lF bl) (.int .i64 rel)=some r:=fun r hr=>by
  unfold alookup mpE;rw[ht];simp only[Zi];rw[show keyFits Try.prog 3 (AV.int .i64 rel)=true by kernel_rfl,hk,UR (P:=Try.prog) (kt:=3) (fun x=>by kernel_rfl) bl];exact hr
 rcases Zx (G:=lF) he [] rel bl with ⟨j,h1,h2⟩ | ⟨h1,h2⟩
 .exact qaF (kt:=3) (e:=150) (w:=w) hC hm kR hk (hal _ (by rw[h1];exact h2))
 obtain⟨v,g1,g2⟩:=qaF (kt:=3) (e:=150) (w:=w) (r:=lF []) hC hm kR hk (hal _ (by rw[h1];kernel_rfl));rw[h2];exact⟨v,g1,g2⟩
theorem Try.enter128:∀ args w,(callFunc 128 args).run Try.prog w=.ok (.enter 128 args) w:=fun args w=>by
 have h := Try.func128;have h1 : Try.f128.name ≠ "runtime.NumGoroutine" := of_decide_eq_true kR
 have h2:Try.f128.body≠none:=fun e=>absurd (show Try.f128.body.isNone=false by kernel_rfl) (by rw[e];decide)
 simp[callFunc,h,h1,h2]
set_option maxHeartbeats 4000000 in
theorem Try.node128 (D:Li->Prop) (g:Nat) (caps:LO) (M0:Mem) (S:Li->Mem->World->Prop) (hcb:CB D g caps M0 S) (br bn bf bt bb:Nat) (body:LQ) (no:LB) (bl:Lf) (ht:TE M0 br bn bf bt bb body no bl g caps) (hbl:∀ rel,(mget keq1 [] rel bl).length<=1000000)
  (k:Nat) (nt:Bool) (rel:Int) (args:LA) (rest:LQ) (hk:body.drop k=⟨nt,⟨rel,args⟩⟩::rest) (ih:∀ (v:LA) (out d:Li) (M:Mem) (w:World),v.length=8->tryP body no bl rest v=some out->D (d++out)->S d M w ->
   Calls Try.prog 128 #[.int .i64 ((k+1:Nat):Int),valsV v,.pointer (some ⟨br,0,none⟩),.pointer (some ⟨bn,0,none⟩),.pointer (some ⟨bf,0,none⟩),.pointer (some ⟨bt,0,none⟩),.pointer (some ⟨bb,0,none⟩)] w fun e w'=>e=retU/\S (d++out) M w')
  (v:LA) (out d:Li) (M:Mem) (w:World) (hv:v.length=8) (h:tryP body no bl (⟨nt,⟨rel,args⟩⟩::rest) v=some out) (hD:D (d++out)) (hS:S d M w) :
   Calls Try.prog 128 #[.int .i64 (k:Nat),valsV v,.pointer (some ⟨br,0,none⟩),.pointer (some ⟨bn,0,none⟩),.pointer (some ⟨bf,0,none⟩),.pointer (some ⟨bt,0,none⟩),.pointer (some ⟨bb,0,none⟩)] w fun e w'=>e=retU/\S (d++out) M w':=by
  have mixed:=mixedP;have⟨t3,a3,z3,v3,u3⟩:=Tf3;have⟨t4,a4,z4,v4,u4⟩:=Tf4;have⟨t50,a50,z50,v50,u50⟩:=Tf50;have⟨t52,a52,z52,v52,u52⟩:=Tf52;have⟨t54,a54,z54,v54,u54⟩:=Tf54;have⟨t56,a56,z56,v56,u56⟩:=Tf56;have⟨t105,a105,z105,v105,u105⟩:=Tf105;have⟨t127,a127,z127,v127,u127⟩:=Tf127;have⟨t150,a150,z150,v150,u150⟩:=Tf150;have⟨t178,a178,z178,v178,u178⟩:=Tf178;have⟨t180,a180,z180,v180,u180⟩:=Tf180;have⟨t183,a183,z183,v183,u183⟩:=Tf183;have⟨t191,a191,z191,v191,u191⟩:=Tf191;have⟨t192,a192,z192,v192,u192⟩:=Tf192;obtain⟨hC,hM0⟩:=hcb.cons hS;obtain⟨bv,q1,q2⟩:=ht.r;obtain⟨ba,bc,rfl,hbody⟩:=qbC q2;obtain⟨x0,x1,x2,x3,x4,x5,x6,x7,rfl⟩:=eight hv;have hlen:=ht.len
  have hk1:k<body.length:=by
   rcases D1 k body.length with h1 | h1
   .exact h1
   rw[F6 h1]at hk;cases hk
  have hkx:body[k]? = some ⟨nt,⟨rel,args⟩⟩:=by
   have:=congrArg (fun l=>l[0]?) hk
   simpa using this
  obtain⟨b,off,av,rfl,e0,e1,e2,rav,aa,ac,rfl⟩:=hbody k _ hkx;clear hbody
  have c1:∀ o,(w.alloc o).cell? ⟨br,2,none⟩=some (.slice (some ⟨b,off,none⟩) body.length bc):=fun o=>JS ((hC.alloc o) _ _ _ (hM0 _ _ _ q1)) rfl
  have c2:∀ o,(w.alloc o).cell? ⟨b,off+k * 3,none⟩=some (.bool nt):=fun o=>JS ((hC.alloc o) _ _ _ (hM0 _ _ _ e0)) rfl
  have c3:∀ o,(w.alloc o).cell? ⟨b,off+k * 3+1,none⟩=some (.int .i64 rel):=fun o=>JS ((hC.alloc o) _ _ _ (hM0 _ _ _ e1)) rfl
  have c4:∀ o,(w.alloc o).cell? ⟨b,off+k * 3+2,none⟩=some (.slice aa args.length ac):=fun o=>JS ((hC.alloc o) _ _ _ (hM0 _ _ _ e2)) rfl
  obtain⟨w1,ew1⟩:∃ w1,w1=w.alloc (.cells #[.int .i64 x0,.int .i64 x1,.int .i64 x2,.int .i64 x3,.int .i64 x4,.int .i64 x5,.int .i64 x6,.int .i64 x7] 178):=⟨_,rfl⟩;obtain⟨M1,eM1⟩:∃ M1,M1=mbox M w.heap.size #[.int .i64 x0,.int .i64 x1,.int .i64 x2,.int .i64 x3,.int .i64 x4,.int .i64 x5,.int .i64 x6,.int .i64 x7]:=⟨_,rfl⟩
  have S1:S d M1 w1:=by rw[ew1,eM1];exact hcb.box hS tup8
  have s1:Sub M M1:=by rw[eM1];exact Ys hC (A5 _)
  have b8:∀ j:Nat,M1 w.heap.size j=(#[.int .i64 x0,.int .i64 x1,.int .i64 x2,.int .i64 x3,.int .i64 x4,.int .i64 x5,.int .i64 x6,.int .i64 x7]:LO)[j]?:=fun j=>by rw[eM1,Ui]
  obtain⟨C1,_⟩:=hcb.cons S1
  have z1:w1.heap.size=w.heap.size+1:=by rw[ew1];simp
  obtain⟨w2,ew2⟩:∃ w2,w2=w1.alloc (.cells #[.bool nt,.int .i64 rel,.slice aa args.length ac] 56):=⟨_,rfl⟩;obtain⟨M2,eM2⟩:∃ M2,M2=mbox M1 w1.heap.size #[.bool nt,.int .i64 rel,.slice aa args.length ac]:=⟨_,rfl⟩
  have S2:S d M2 w2:=by rw[ew2,eM2];exact hcb.box S1 tup3
  have s2:Sub M1 M2:=by rw[eM2];exact Ys C1 (A5 _)
  have b11:∀ j:Nat,M2 (w.heap.size+1) j=(#[.bool nt,.int .i64 rel,.slice aa args.length ac]:LO)[j]?:=fun j=>by rw[eM2,z1,Ui]
  have HW:=(show Hid (w2=_) from ew2);have HW1:=(show Hid (w1=_) from ew1);have sM:Sub M M2:=Sub.trans s1 s2;have s0:Sub M0 M2:=Sub.trans hM0 sM;obtain⟨C2,_⟩:=hcb.cons S2
  have KK:∀ w' M',Sub M2 M'->Cons M' w'->(∀ (j:Nat) u,(#[.int .i64 x0,.int .i64 x1,.int .i64 x2,.int .i64 x3,.int .i64 x4,.int .i64 x5,.int .i64 x6,.int .i64 x7]:LO)[j]? = some u->w'.cell? ⟨w.heap.size,j,none⟩=some u)/\w'.cell? ⟨w.heap.size+1,0,none⟩=some (.bool nt)/\w'.cell? ⟨w.heap.size+1,1,none⟩=some (.int .i64 rel)/\w'.cell? ⟨w.heap.size+1,2,none⟩=some (.slice aa args.length ac)/\w'.cell? ⟨bt,0,none⟩=some (tryV br bn bf bt bb):=fun w' M' hs hC'=>⟨fun j u hu=>qG hC' (hs _ _ _ (s2 _ _ _ ((b8 j).trans hu))) (tup8 j u hu),qG hC' (hs _ _ _ (b11 0)) rfl,qG hC' (hs _ _ _ (b11 1)) rfl,qG hC' (hs _ _ _ (b11 2)) rfl,qG hC' (hs _ _ _ (s0 _ _ _ ht.t)) rfl⟩
  unfold tryV at KK;have en128:=Try.enter128
  have n1:((k:Int) == (body.length:Int))=false:=by simp;omega
  have n2:¬ (k:Int)=(body.length:Int):=by omega
  have j0:(0:Int)<=(k:Int):=D8 _
  have j1:(k:Int)<(body.length:Int):=by omega
  have ew12:=ew2;rw[ew1]at ew12;have HW2:=(show Hid (w2=_) from ew12);clear ew1 ew2 eM1 eM2 ew12
  cases nt with
  | true =>
   have hcall:=ih [x0,x1,x2,x3,x4,x5,x6,x7] out d M2 w2 rfl h hD S2;obtain⟨k8,k1,k2,k3,k4⟩:=KK w2 M2 (Sub.refl _) C2;have k80:=k8 0 _ rfl;have k81:=k8 1 _ rfl;have k82:=k8 2 _ rfl;have k83:=k8 3 _ rfl;have k84:=k8 4 _ rfl;have k85:=k8 5 _ rfl;have k86:=k8 6 _ rfl;have k87:=k8 7 _ rfl;rw[HW2.out]at k80 k81 k82 k83 k84 k85 k86 k87 k1 k2 k3 k4
   go_enter Try.func128,Try.ntmps128
   go_wp2_with fail
   rw[<- HW2.out];refine Calls.mono hcall ?_
   rintro e w5 ⟨rfl,S5⟩
   go_wp2
   refine bodyPost_ret (results_none rfl _ _ _) rfl ?_;exact⟨rfl,hcb.down S5 hM0 sM⟩
  | false =>
   obtain⟨hwr,h⟩:=qm (show chk (wfI .i64 rel) (fitL (tryP body no bl rest) ⟨rel,args⟩ [x0,x1,x2,x3,x4,x5,x6,x7] (mget keq1 [] rel bl))=some out from h);obtain⟨mv,r1,r2⟩:=ht.b;obtain⟨mo,rfl⟩:=Zc r2;obtain⟨lv,hlk,rlv⟩:=qmj r2 hwr w2 (fun b o u hu=>C2 _ _ _ (s0 _ _ _ hu));obtain⟨la,lc,rfl,hfacts⟩:=qdm rlv;have hgl:=hbl rel;generalize mget keq1 [] rel bl=gs at h hlk rlv hfacts hgl;have kb:=qG C2 (s0 _ _ _ r1) rfl;obtain⟨k8,k1,k2,k3,k4⟩:=KK w2 M2 (Sub.refl _) C2;have k80:=k8 0 _ rfl;have k81:=k8 1 _ rfl;have k82:=k8 2 _ rfl;have k83:=k8 3 _ rfl;have k84:=k8 4 _ rfl;have k85:=k8 5 _ rfl;have k86:=k8 6 _ rfl;have k87:=k8 7 _ rfl;rw[HW2.out]at k80 k81 k82 k83 k84 k85 k86 k87 k1 k2 k3 k4 kb hlk
   go_enter Try.func128,Try.ntmps128
   go_wp2
   rw[<- HW2.out];clear k80 k81 k82 k83 k84 k85 k86 k87 k1 k2 k3 k4 kb hlk c1 c2 c3 c4 k8
   go_loopw [60] (fun i wr=>∃ j:Nat,j<=gs.length/\i=.int .i64 j/\∃ done left M',out=done++left/\fitL (tryP body no bl rest) ⟨rel,args⟩ [x0,x1,x2,x3,x4,x5,x6,x7] (gs.drop j)=some left/\Sub M2 M'/\S (d++done) M' wr)
    (fun i _=>gs.length - (RowKit.intOf i).toNat)
   case atStart=>exact⟨0,Nat.zero_le _,rfl,[],out,M2,rfl,h,Sub.refl _,by simpa using S2⟩
   case round =>
    obtain⟨j,hj,rfl,done,left,M3,rfl,hf,s3,S3⟩:=hrel;obtain⟨C3,_⟩:=hcb.cons S3
    rcases D1 j gs.length with hj1 | hj1
    .obtain⟨fb,fo,rfl,g0,g1,g2⟩:=hfacts j _ (B1 hj1);rw[D7 hj1]at hf;have i0:(0:Int)<=(j:Int):=D8 _
     have i1:(j:Int)<(gs.length:Int):=by omega
     have f0:=qG C3 (s3 _ _ _ (s0 _ _ _ g0)) rfl;have f1:=qG C3 (s3 _ _ _ (s0 _ _ _ g1)) rfl;have f2:=qG C3 (s3 _ _ _ (s0 _ _ _ g2)) rfl;generalize gs[j]=x at hf g0 g1 g2 f0 f1 f2;obtain⟨frel,fa,fb2⟩:=x;obtain⟨p,hp,hf⟩:=qb (show ((jn [x0,x1,x2,x3,x4,x5,x6,x7] ⟨rel,args⟩ ⟨frel,fa,fb2⟩).bind _)=some left from hf);obtain⟨l1,hl1,hf⟩:=qb hf;obtain⟨l2,hl2,hf⟩:=qb hf;cases hf;have hpl:=qli hp;obtain⟨pv,pb⟩:=p;obtain⟨y0,y1,y2,y3,y4,y5,y6,y7,rfl⟩:=eight hpl;obtain⟨w3,ew3⟩:∃ w3,w3=wr.alloc (.cells #[.int .i64 frel,.int .i64 fa,.int .i64 fb2] 127):=⟨_,rfl⟩;obtain⟨M4,eM4⟩:∃ M4,M4=mbox M3 wr.heap.size #[.int .i64 frel,.int .i64 fa,.int .i64 fb2]:=⟨_,rfl⟩
     have S4:S (d++done) M4 w3:=by rw[ew3,eM4];exact hcb.box S3 tup3i
     have s4:Sub M3 M4:=by rw[eM4];exact Ys C3 (A5 _)
     obtain⟨C4,_⟩:=hcb.cons S4;obtain⟨k8,k1,k2,k3,k4⟩:=KK w3 M4 (Sub.trans s3 s4) C4;have k80:=k8 0 _ rfl;have k81:=k8 1 _ rfl;have k82:=k8 2 _ rfl;have k83:=k8 3 _ rfl;have k84:=k8 4 _ rfl;have k85:=k8 5 _ rfl;have k86:=k8 6 _ rfl;have k87:=k8 7 _ rfl
     have c129:=VE (VD [x0,x1,x2,x3,x4,x5,x6,x7] ⟨rel,args⟩ ⟨frel,fa,fb2⟩ _ hp) M4 w3 [valsV [x0,x1,x2,x3,x4,x5,x6,x7],.agg #[.int .i64 rel,.slice aa args.length ac],factV ⟨frel,fa,fb2⟩] (glob0 M4) C4 rfl (fun j a b ha hb=>by
      match j,ha,hb with
      | 0,ha,hb=>cases ha;cases hb;exact qcs _ _
      | 1,ha,hb=>cases ha;cases hb;exact qdB (R.mono (Sub.trans s0 (Sub.trans s3 s4)) rav)
      | 2,ha,hb=>cases ha;cases hb;exact qlk _ _)
     have HW3:=(show Hid (w3=_) from ew3);rw[ew3]at k80 k81 k82 k83 k84 k85 k86 k87 k1 k2 k3 k4;have HC:=(show Hid _ from c129);clear ew3 eM4 c129 hfacts
     go_wp2_with fail
     rw[<- HW3.out];refine Calls.mono HC.out ?_
     rintro e w5 ⟨pv,M5,rfl,hB5,s5,C5,o5,r5,_⟩
     obtain rfl:=qlj r5;have S5:=hcb.grow S4 hB5 s5 o5 C5;obtain⟨w6,ew6⟩:∃ w6,w6=w5.alloc (.cells #[.int .i64 y0,.int .i64 y1,.int .i64 y2,.int .i64 y3,.int .i64 y4,.int .i64 y5,.int .i64 y6,.int .i64 y7] 178):=⟨_,rfl⟩;obtain⟨M6,eM6⟩:∃ M6,M6=mbox M5 w5.heap.size #[.int .i64 y0,.int .i64 y1,.int .i64 y2,.int .i64 y3,.int .i64 y4,.int .i64 y5,.int .i64 y6,.int .i64 y7]:=⟨_,rfl⟩
     have S6:S (d++done) M6 w6:=by rw[ew6,eM6];exact hcb.box S5 tup8
     have s6:Sub M5 M6:=by rw[eM6];exact Ys C5 (A5 _)
     have b14:∀ j:Nat,M6 w5.heap.size j=(#[.int .i64 y0,.int .i64 y1,.int .i64 y2,.int .i64 y3,.int .i64 y4,.int .i64 y5,.int .i64 y6,.int .i64 y7]:LO)[j]?:=fun j=>by rw[eM6,Ui]
     have s26:Sub M2 M6:=Sub.trans s3 (Sub.trans s4 (Sub.trans s5 s6));obtain⟨C6,_⟩:=hcb.cons S6;obtain⟨k8,k1,k2,k3,k4⟩:=KK w6 M6 s26 C6
     have m8:∀ (j:Nat) u,(#[.int .i64 y0,.int .i64 y1,.int .i64 y2,.int .i64 y3,.int .i64 y4,.int .i64 y5,.int .i64 y6,.int .i64 y7]:LO)[j]? = some u->w6.cell? ⟨w5.heap.size,j,none⟩=some u:=fun j u hu=>qG C6 ((b14 j).trans hu) (tup8 j u hu)
     have m80:=m8 0 _ rfl;have m81:=m8 1 _ rfl;have m82:=m8 2 _ rfl;have m83:=m8 3 _ rfl;have m84:=m8 4 _ rfl;have m85:=m8 5 _ rfl;have m86:=m8 6 _ rfl;have m87:=m8 7 _ rfl;have HW6:=(show Hid (w6=_) from ew6);clear eM6 k80 k81 k82 k83 k84 k85 k86 k87
     cases pb with
     | false =>
      cases hl1;clear k1 k2 k3 k4 m80 m81 m82 m83 m84 m85 m86 m87 ew6
      go_wp2
      rw[<- HW6.out]
      go_roundw
      case rel=>exact⟨j+1,hj1,by go_num,done,l2,M6,by simp,hl2,s26,S6⟩
      case measure=>simp[RowKit.intOf];omega
     | true =>
      have hcall:=ih _ l1 _ M6 w6 rfl hl1 (by have h9:=hD;rw[<- List.append_assoc,<- List.append_assoc]at h9;exact hcb.pre h9) S6;rw[ew6]at k1 k2 k3 k4 m80 m81 m82 m83 m84 m85 m86 m87;clear ew6
      go_wp2_with fail
      rw[<- HW6.out];refine Calls.mono hcall ?_
      rintro e w7 ⟨rfl,S7⟩
      go_wp2
      go_roundw
      case rel=>exact⟨j+1,hj1,by go_num,done++l1,l2,M6,by simp,hl2,s26,by simpa using S7⟩
      case measure=>simp[RowKit.intOf];omega
    have hjl:j=gs.length:=by omega
    subst hjl;rw[D4]at hf;cases hf
    go_wp2
    refine bodyPost_end (results_none rfl _ _ _) rfl ?_;exact⟨rfl,by simpa using hcb.down S3 hM0 (Sub.trans sM s3)⟩
theorem Try.try128 (D:Li->Prop) (g:Nat) (caps:LO) (M0:Mem) (S:Li->Mem->World->Prop) (hcb:CB D g caps M0 S) (br bn bf bt bb:Nat) (body:LQ) (no:LB) (bl:Lf) (ht:TE M0 br bn bf bt bb body no bl g caps) (hbl:∀ rel,(mget keq1 [] rel bl).length<=1000000) :
  ∀ (rest:LQ) (k:Nat) (v:LA) (out d:Li) (M:Mem) (w:World),body.drop k=rest->k<=body.length->v.length=8->tryP body no bl rest v=some out->D (d++out)->S d M w ->
   Calls Try.prog 128 #[.int .i64 (k:Nat),valsV v,.pointer (some ⟨br,0,none⟩),.pointer (some ⟨bn,0,none⟩),.pointer (some ⟨bf,0,none⟩),.pointer (some ⟨bt,0,none⟩),.pointer (some ⟨bb,0,none⟩)] w fun e w'=>e=retU/\S (d++out) M w':=by
 intro rest
 induction rest with
 | nil =>
  intro k v out d M w hk hkl hv h hD hS
  have hkk:k=body.length:=by
   have:=congrArg List.length hk;rw[List.length_drop]at this;simp at this;omega
  subst hkk;exact Try.leaf128 D g caps M0 S hcb br bn bf bt bb body no bl ht v out d M w hv h hD hS
 | cons x rest ih =>
  intro k v out d M w hk hkl hv h hD hS
  have hk1:k<body.length:=by
   rcases D1 k body.length with h1 | h1
   .exact h1
   rw[F6 h1]at hk;cases hk
  have hd:body.drop (k+1)=rest:=by
   rw[D7 hk1]at hk;exact (List.cons.inj hk).2
  obtain⟨nt,⟨rel,args⟩⟩:=x;exact Try.node128 D g caps M0 S hcb br bn bf bt bb body no bl ht hbl k nt rel args rest hk (fun v out d M w h1 h2 h3 h4=>ih (k+1) v out d M w hd hk1 h1 h2 h3 h4) v out d M w hv h hD hS
end Go.Proofs
