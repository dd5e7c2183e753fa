import Derived.Test.YtdghpfejmlpjhaaAClose
import Derived.Sort.Grow
import Derived.Test.YtdghpfejmlpjhaaChecked
import Derived.BigCall
import Derived.Deep.RegionHeld3
import Derived.Deep.RegionHeldLaw
import Derived.Deep.AppendLies
import Derived.Deep.OwnRows
import Derived.OneCell
import Derived.Laws.Rows
set_option linter.all false
set_option maxRecDepth 100000
open Int renaming toNat→A0
open Go.IntKind renaming wrap→A1, i64→D3
open Go.World renaming cell?→A2, frozen?→D6
open List renaming replicate→A3, map→A4, range→A5, getElem_cons_zero→A6, getElem_cons_succ→A7, getElem_toArray→A8, setIfInBounds_toArray→A9, set_cons_zero→B1, set_cons_succ→C0, length_map→D2, getElem?_eq_getElem→D5, length_eraseIdx→D9, getElem?_eraseIdx→E0, map_cons→E7, eq_nil_of_length_eq_zero→F6, getD_eq_getElem?_getD→F7
open Go.Sem renaming run→C7
open Go.Result renaming andThen→D0
open Nat renaming le_refl→D1, eq_of_beq_eq_true→F8, le_of_ble_eq_true→F9
open Array renaming getElem?_eq_getElem→D4, toList_filter→D8, length_toList→E8, getElem?_toList→E9
open Bool renaming false_eq_true→D7
open Go.MapKept renaming run_getObj_map→G0
namespace Go.AM
open Go.RowKit
open Go.ChangeMaps (setBlock)
open Go.MapKept (heap_set)
variable {seen:Array Nat} {es:LX} {id j:Nat} {ks vs:LJ} {c:Code} {S:Ex->Env->Prop} {e e':Env}
section
variable {bs:Base} {n:Nat} {M:Mem} {O:Gh} {env:Env} {a:Act} {w:World} {P:Program}
theorem qga (ty:TypeId) {g bm since c0:Nat} {clock:Nat} (hg:w.heap[g]? = some (.mapIter (some bm) since seen c0)) (hb:w.heap[bm]? = some (.map es clock)) (hold:∀ x∈es.toList,x.born<since) (hsc:since<=c0) :
  ((leftOf es seen).size=0/\(Instr.next (.pointer (some ⟨g,0,none⟩)) false ty).run P w=.ok (.tuple #[.bool false]) w) \/
  ∃ (j:Nat) (hj:j<(leftOf es seen).size) (w1:World),(w1=w\/w1=w.drew)/\(Instr.next (.pointer (some ⟨g,0,none⟩)) false ty).run P w=.ok (.tuple #[.bool true,(leftOf es seen)[j].key,(leftOf es seen)[j].val]) (setBlock w1 g (.mapIter (some bm) since (seen.push (leftOf es seen)[j].born) clock)):=by
 simp only[Instr.next,getObj,Sem.run_bind,C7,hg,hb,D0,next_test_false seen es since c0 hold hsc,D7,if_false];unfold leftOf
 have hmem:∀ x∈(Array.filter (fun e=>!seen.contains e.born) es).toList,x.born<since:=fun x hx=>hold x (by simp at hx ⊢;exact hx.1)
 generalize Array.filter (fun e=>!seen.contains e.born) es=L at hmem ⊢;have e1:L.filter (fun x=>decide (x.born<since))=L:=Array.filter_eq_self.2 (fun x hx=>by simpa using hmem x (by simpa using hx))
 have e2:L.filter (fun x=>decide (x.born >= since))=#[]:=by
  rw[Array.filter_eq_empty_iff];intro x hx;have:=hmem x (by simpa using hx);simp;omega
 simp only[e1,e2,Array.append_empty];by_cases h0:L.size=0
 .left;have:L=#[]:=Array.eq_empty_of_size_eq_zero h0;subst this;refine⟨rfl,?_⟩;simp[choose,C7,Question.forced]
 right
 have hne:L.isEmpty=false:=by simp[Array.isEmpty,h0]
 simp only[hne,D7,if_false,Array.empty_append,Array.size_map]
 have hch:∃ (j:Nat) (w1:World),j<L.size/\(w1=w\/w1=w.drew)/\(choose (Question.mapNext L.size)).run P w=.ok j w1:=by
  by_cases hf:L.size<=1
  .exact⟨0,w,by omega,.inl rfl,by simp[choose,C7,Question.forced,hf]⟩
  exact⟨_,w.drew,Nat.mod_lt _ oM,.inr rfl,by
   simp only[choose,C7,Question.forced,decide_eq_true_eq,hf,if_false,Question.cut]
   rfl⟩
 obtain⟨j,w1,hj,hw1,hrun⟩:=hch;refine⟨j,hj,w1,hw1,?_⟩
 have hg1:w1.heap[g]? = some (.mapIter (some bm) since seen c0):=by
  rcases hw1 with rfl | rfl
  .exact hg
  exact hg
 have hset:∀ o':Obj,(setObj g o').run P w1=.ok () (setBlock w1 g o'):=fun o'=>by
  simp only[setObj,C7,hg1];rfl
 simp only[hrun,Array.getElem?_map,D4 hj,Option.map_some,Sem.run_bind,hset,D0];rfl
theorem qaP {α:Type} (f:α->Nat):∀ (l:List α) (j:Nat) (hj:j<l.length),(l.map f).Nodup->l.filter (fun x=>f x != f l[j])=l.eraseIdx j
 | [],j,hj,_=>by simp at hj
 | x::l,0,hj,hn=>by
  have hn':=List.nodup_cons.1 hn;rw[List.filter_cons];simp only[A6,bne_self_eq_false,D7,if_false,List.eraseIdx_cons_zero];rw[List.filter_eq_self];intro y hy;simp only[bne_iff_ne,ne_eq]
  exact fun e=>hn'.1 (by rw[<- e];exact List.mem_map.2 ⟨y,hy,rfl⟩)
 | x::l,j+1,hj,hn=>by
  have hn':=List.nodup_cons.1 hn
  have hj':j<l.length:=by simpa using hj
  rw[List.filter_cons];simp only[A7,List.eraseIdx_cons_succ]
  have:(f x != f l[j])=true:=by
   simp only[bne_iff_ne,ne_eq]
   exact fun e=>hn'.1 (by rw[e];exact List.mem_map.2 ⟨l[j],List.getElem_mem hj',rfl⟩)
  rw[if_pos this,qaP f l j hj' hn'.2]
theorem qbP (hn:(es.toList.map (·.born)).Nodup) (hj:j<(leftOf es seen).size):(leftOf es (seen.push (leftOf es seen)[j].born)).toList=(leftOf es seen).toList.eraseIdx j:=by
 have hnl:((leftOf es seen).toList.map (·.born)).Nodup:=by
  unfold leftOf;rw[D8];exact hn.sublist (List.filter_sublist.map _)
 have h:=qaP (fun e:MapEntry=>e.born) (leftOf es seen).toList j (by simpa using hj) hnl;rw[<- h]
 have hb:(leftOf es seen).toList[j]'(by simpa using hj)=(leftOf es seen)[j]:=by simp
 rw[hb];generalize (leftOf es seen)[j].born=b;unfold leftOf;rw[D8,D8,List.filter_filter]
 refine List.filter_congr fun x _=>?_
 simp only[Array.contains_push,Bool.not_or];rw[Bool.and_comm];rfl
theorem LeftOk0.erase (h:LeftOk0 M es seen ks vs) (hn:(es.toList.map (·.born)).Nodup) (hj:j<(leftOf es seen).size):LeftOk0 M es (seen.push (leftOf es seen)[j].born) (ks.eraseIdx j) (vs.eraseIdx j):=by
 obtain⟨h1,h2,h3,h4⟩:=h;have hl:=qbP hn hj
 have hsz:(leftOf es (seen.push (leftOf es seen)[j].born)).size=(leftOf es seen).size - 1:=by
  rw[<- E8,hl,D9,if_pos (by simpa using hj),E8]
 have hat:∀ i e,(leftOf es (seen.push (leftOf es seen)[j].born))[i]? = some e->(leftOf es seen)[if i<j then i else i+1]? = some e:=by
  intro i e he;rw[<- E9,hl,E0]at he;rw[<- E9];split at he
  .rename_i hij;rw[if_pos hij];exact he
  rename_i hij;rw[if_neg hij];exact he
 refine⟨by rw[D9,if_pos (by omega),hsz,h1],by rw[D9,if_pos (by omega),hsz,h2],fun i k e hk he=>?_,fun i v e hv he=>?_⟩
 .rw[E0]at hk;refine h3 (if i<j then i else i+1) k e ?_ (hat i e he);split at hk
  .rename_i hij;rw[if_pos hij];exact hk
  rename_i hij;rw[if_neg hij];exact hk
 rw[E0]at hv;refine h4 (if i<j then i else i+1) v e ?_ (hat i e he);split at hv
 .rename_i hij;rw[if_pos hij];exact hv
 rename_i hij;rw[if_neg hij];exact hv
def leftE:AV->Option (LJ×LJ)
 | .hob 1 ks vs=>some (ks,vs)
 | .hob 2 (_::ks) (_::vs)=>some (ks,vs)
 | _=>none
def nextEnt (ks vs:LJ) (j:Nat):AV:=.hob 2 (ks.getD j .und::ks.eraseIdx j) (vs.getD j .und::vs.eraseIdx j)
theorem qhZ (h:Inv bs n M O env a w) {o:Oper} {x:Operand} (ho:o.op=.next x false) {y:AV} (hx:aop env x=some (.mb 1 id)) (hl:look env id=some y) (hy:leftE y=some (ks,vs))
  {envF:Env} (hF:eput n o.dst (.tup [.bool false]) env=some envF) {envT:Nat->Env} (hT:∀ j,j<ks.length->eput n o.dst (.tup [.bool true,.top,.top]) (ins id (nextEnt ks vs j) env)=some (envT j)) :
  (ks=[]/\vs=[]/\Leads P bs n o a w envF)\/∃ j,j<ks.length/\ks.length=vs.length/\Leads P bs n o a w (envT j):=by
 obtain⟨g,g1,g2⟩:=qv h hx;have hs:=h.slots id _ hl
 have hex:execOp a.eval o=vS (Instr.next (a.eval x) false o.type):=by unfold execOp;rw[ho];rfl
 have hfalse:R M (.tup [.bool false]) (.tuple #[.bool false]):=R.tup (vs:=[.bool false]) rfl fun j c v hc hv=>by
  match j,hc,hv with
  | 0,hc,hv=>cases hc;cases hv;exact .bool _
 have htrue:∀ k v:Value,R M (.tup [.bool true,.top,.top]) (.tuple #[.bool true,k,v]):=fun k v=>R.tup (vs:=[.bool true,k,v]) rfl fun j c u hc hu=>by
  match j,hc,hu with
  | 0,hc,hu=>cases hc;cases hu;exact .bool _
  | 1,hc,hu=>cases hc;exact .top _
  | 2,hc,hu=>cases hc;exact .top _
 obtain⟨yk,hyk,key⟩:∃ kd,O true id=some g/\(∀ o,M g o=none)/\y.ent=true/\((∃ c s,w.heap[g]? = some (.mapIter none c s 0)/\ks=[]/\vs=[]) \/
   ∃ (b:Nat) (es:LX) (clock:Nat) (seen:Array Nat) (last:Nat),w.heap[g]? = some (.mapIter (some b) clock seen last)/\clock<=last/\M b 0=some (mapCell es clock)/\MapKept.Stamped es clock/\LeftOk M es seen ks vs)/\kd=():=by
  unfold leftE at hy;split at hy
  .cases hy;obtain⟨g',k1,k2,k3⟩:=hs
   have:g'=g:=by rw[k1]at g1;exact Option.some.inj g1
   subst this;exact⟨(),k1,k2,rfl,k3,rfl⟩
  .cases hy;obtain⟨g',k1,k2,b,es,clock,seen,e,k,v,ks',vs',q1,q2,q3,q4,q5,q6,q7,q8,q9⟩:=hs
   have:g'=g:=by rw[k1]at g1;exact Option.some.inj g1
   subst this;cases q1;cases q2;exact⟨(),k1,k2,rfl,.inr ⟨b,es,clock,_,clock,q3,D1 _,q4,q5,q9⟩,rfl⟩
  cases hy
 obtain⟨k2,k3,key,_⟩:=key
 rcases key with ⟨c,s,q1,rfl,rfl⟩ | ⟨b,es,clock,seen,last,q1,q2,q3,q4,q5⟩
 .left;refine⟨rfl,rfl,.tuple #[.bool false],w,M,O,.inl ?_,XR h (x:=.tup [.bool false]) ⟨hfalse,trivial⟩ hF⟩;rw[hex,g2];refine NI ?_;simp[Instr.next,getObj,C7,q1,D0]
 have hb:=ZW (h.cons _ _ _ q3);obtain⟨hb1,hb2,hb3⟩:=q4
 rcases qga (P:=P) o.type q1 hb hb1 q2 with ⟨r1,r2⟩ | ⟨j,hj,w1,hw1,r2⟩
 .left;obtain⟨ks',vs',hp,l1,l2,_,_⟩:=q5;have hl:=hp.length;have hl2:=hp.1;refine⟨F6 oM,F6 oM,.tuple #[.bool false],w,M,O,.inl ?_,XR h (x:=.tup [.bool false]) ⟨hfalse,trivial⟩ hF⟩;rw[hex,g2];exact NI r2
 right;obtain⟨ks',vs',hp,l1,l2,l3,l4⟩:=q5
 have hjk:j<ks'.length:=by omega
 have hjv:j<vs'.length:=by omega
 obtain⟨i,hi,ei,ev,hpe⟩:=hp.take hjk;rw[D5 hjk]at ei;rw[D5 hjv]at ev;refine⟨i,hi,hp.1,?_⟩
 have hg1:w1.heap[g]? = some (.mapIter (some b) clock seen last):=by
  rcases hw1 with rfl | rfl
  .exact q1
  exact q1
 have hgr:w.grownBy (setBlock w1 g (.mapIter (some b) clock (seen.push (leftOf es seen)[j].born) clock)) (some g):=by
  rcases hw1 with rfl | rfl
  .exact XE q1
  obtain⟨t1,t2,t3,t4,t5⟩:=XE (o':=.mapIter (some b) clock (seen.push (leftOf es seen)[j].born) clock) hg1;exact⟨t1,t2,t3,t4,t5⟩
 have hkat:ks.getD i .und=ks'[j]:=by rw[F7,ei];rfl
 have hvat:vs.getD i .und=vs'[j]:=by rw[F7,ev];rfl
 have hent:Inv bs n M O (ins id (nextEnt ks vs i) env) a (setBlock w1 g (.mapIter (some b) clock (seen.push (leftOf es seen)[j].born) clock)):=by
  refine h.setEnt hl k3 rfl hyk hgr k2 ⟨g,hyk,k2,b,es,clock,seen,(leftOf es seen)[j],ks'[j],vs'[j],ks.eraseIdx i,vs.eraseIdx i,by rw[hkat],by rw[hvat],(heap_set hg1).1,q3,⟨hb1,hb2,hb3⟩,?_,?_,?_,⟨_,_,hpe,LeftOk0.erase ⟨l1,l2,l3,l4⟩ hb2 hj⟩⟩
  .have hm:(leftOf es seen)[j]∈leftOf es seen:=Array.getElem_mem hj;unfold leftOf at hm;have:=(Array.mem_filter.1 hm).1;exact Array.mem_toList_iff.2 this
  .exact l3 j _ _ (D5 hjk) (D4 hj)
  exact l4 j _ _ (D5 hjv) (D4 hj)
 refine⟨.tuple #[.bool true,(leftOf es seen)[j].key,(leftOf es seen)[j].val],_,M,O,.inl ?_,XR hent (x:=.tup [.bool true,.top,.top]) ⟨htrue _ _,trivial⟩ (hT i hi)⟩;rw[hex,g2];exact NI r2
def CodeP (P:Program) (n:Nat) (c:Code) (S:Ex->Env->Prop) (e:Env):Prop :=
 ∀ (bs:Base) (M:Mem) (O:Gh) (a:Act) (w:World),Inv bs n M O e a w->∀ (Q:Exit->Act->World->Prop),(∀ ex e' a' w' M' O',S ex e'->Inv bs n M' O' e' a' w'->Q (toExit ex) a' w')->c.wp P Q a w
theorem CodeP.of (hmix:P.follows .mixedOrders=true) (h:W P n c S env):CodeP P n c S env:=by
 obtain⟨ex,e1,hr,hs⟩:=h;intro bs M O a w hi Q hQ
 exact (YH hmix hr).1 bs M O a w hi Q fun a' w' M' O' h'=>hQ ex e1 a' w' M' O' hs h'
def ThenP (c:Code) (P:Program) (n:Nat) (S:Ex->Env->Prop):Ex->Env->Prop
 | .normal,e=>CodeP P n c S e
 | ex,e=>S ex e
theorem CodeP.seq {x y:Code} {S:Ex->Env->Prop} (h:CodeP P n x (ThenP y P n S) env):CodeP P n (.seq x y) S env:=by
 intro bs M O a w hi Q hQ;refine wp_seq (h bs M O a w hi _ fun ex e' a' w' M' O' hs h'=>?_)
 cases ex with
 | normal=>exact hs bs M' O' a' w' h' Q hQ
 | ret=>exact hQ .ret e' a' w' M' O' hs h'
 | exit i=>exact hQ (.exit i) e' a' w' M' O' hs h'
theorem CodeP.mono {S':Ex->Env->Prop} (h:CodeP P n c S env) (hs:∀ ex e,S ex e->S' ex e):CodeP P n c S' env:=by
 intro bs M O a w hi Q hQ
 exact h bs M O a w hi Q fun ex e' a' w' M' O' h1 h'=>hQ ex e' a' w' M' O' (hs _ _ h1) h'
theorem CodeP.block {id:Nat} {c:Code} {S:Ex->Env->Prop} (h:CodeP P n c (fun ex e=>S (ex.unblock id) e) env):CodeP P n (.block id c) S env:=by
 intro bs M O a w hi Q hQ;refine wp_block (h bs M O a w hi _ fun ex e' a' w' M' O' hs h'=>?_);have:=hQ _ e' a' w' M' O' hs h'
 cases ex with
 | normal=>exact this
 | ret=>exact this
 | exit i =>
  simp only[toExit,Exit.inBlock];simp only[Ex.unblock]at this;split at this
  .rename_i hb;rw[if_pos (F8 hb)];exact this
  rename_i hb;rw[if_neg (fun e=>by subst e;simp at hb)];exact this
theorem CodeP.cond {c:Operand} {x y:Code} {S:Ex->Env->Prop} (b:Bool) (hc:aop env c=some (.bool b)) (ht:b=true->CodeP P n x S env) (hf:b=false->CodeP P n y S env):CodeP P n (.cond c x y) S env:=by
 intro bs M O a w hi Q hQ;have hv:=(qv hi hc).1.bool_inv;refine wp_cond hv ?_
 cases b with
 | true=>exact ht rfl bs M O a w hi Q hQ
 | false=>exact hf rfl bs M O a w hi Q hQ
def LoopS (I:Nat->Env->Prop) (S:Ex->Env->Prop) (k:Nat):Ex->Env->Prop
 | .normal,e=>∃ k',k=k'+1/\I k' e
 | ex,e=>S ex e
theorem CodeP.loop {c:Code} {S:Ex->Env->Prop} {I:Nat->Env->Prop} (hs:∀ k e,I k e->CodeP P n c (LoopS I S k) e):∀ (k:Nat) {env:Env},I k env->CodeP P n (.loop c) S env:=by
 intro k env hI
 have key:∀ (k:Nat) (e:Env),I k e->∀ (bs:Base) (M:Mem) (O:Gh) (a:Act) (w:World),Inv bs n M O e a w->∀ (Q:Exit->Act->World->Prop),(∀ ex e' a' w' M' O',S ex e'->Inv bs n M' O' e' a' w'->Q (toExit ex) a' w')->Code.rounds P c Q (k+1) a w:=by
  intro k
  induction k with
  | zero =>
   intro e hI bs M O a w hi Q hQ;rw[rounds_succ]
   refine hs 0 e hI bs M O a w hi _ fun ex e' a' w' M' O' h1 h'=>?_
   cases ex with
   | normal=>obtain⟨k',h2,_⟩:=h1;omega
   | ret=>exact hQ .ret e' a' w' M' O' h1 h'
   | exit i=>exact hQ (.exit i) e' a' w' M' O' h1 h'
  | succ k ih =>
   intro e hI bs M O a w hi Q hQ;rw[rounds_succ]
   refine hs (k+1) e hI bs M O a w hi _ fun ex e' a' w' M' O' h1 h'=>?_
   cases ex with
   | normal =>
    obtain⟨k',h2,h3⟩:=h1
    obtain rfl:k'=k:=by omega
    exact ih e' h3 bs M' O' a' w' h' Q hQ
   | ret=>exact hQ .ret e' a' w' M' O' h1 h'
   | exit i=>exact hQ (.exit i) e' a' w' M' O' h1 h'
 intro bs M O a w hi Q hQ;exact wp_loop_rounds (k+1) (key k env hI bs M O a w hi Q hQ)
theorem CodeP.next (hmix:P.follows .mixedOrders=true) {id:Nat} {ops:Lh} {S:Ex->Env->Prop} {o:Oper} {rest:LF} (hops:ops.toList=o::rest) {x:Operand} (ho:o.op=.next x false) (hw:awanted ops.toList o env=some true) {it:Nat} {y:AV} {ks vs:LJ}
  (hx:aop env x=some (.mb 1 it)) (hl:look env it=some y) (hy:leftE y=some (ks,vs)) {envF:Env} (hF:eput n o.dst (.tup [.bool false]) env=some envF) {envT:Nat->Env} (hT:∀ j,j<ks.length->eput n o.dst (.tup [.bool true,.top,.top]) (ins it (nextEnt ks vs j) env)=some (envT j))
  (h0:ks=[]->vs=[]->WO P n false ops.toList rest (S .normal) envF) (h1:∀ j,j<ks.length->ks.length=vs.length->WO P n false ops.toList rest (S .normal) (envT j)):CodeP P n (.region id ops false) S env:=by
 intro bs M O a w hi Q hQ;refine wp_region_list ?_;rw[hops]
 have hfin:∀ env1,WO P n false ops.toList rest (S .normal) env1->∀ a' w' M' O',Inv bs n M' O' env1 a' w'->wpList P ops Q rest a' w':=by
  intro env1 hwo a' w' M' O' h';obtain⟨e1,hr,hs⟩:=hwo
  have:=Dv (YH hmix hr) h' (Q:=Q) fun a2 w2 M2 O2 h2=>hQ .normal e1 a2 w2 M2 O2 hs h2
  simpa using this
 simp only[wpList];rw[show yielded ops a.tmps=yielded ops.toList.toArray a.tmps by simp,qU hi hw];simp only[if_true]
 rcases qhZ hi ho hx hl hy hF hT with ⟨e1,e2,hL⟩ | ⟨j,hj,hj2,hL⟩
 .exact .inl <| Zg hL fun a' w' M' O' h'=>hfin _ (h0 e1 e2) a' w' M' O' h'
 exact .inl <| Zg hL fun a' w' M' O' h'=>hfin _ (h1 j hj hj2) a' w' M' O' h'
def Goes (n:Nat) (e e':Env):Prop:=∀ (bs:Base) (M:Mem) (O:Gh) (a:Act) (w:World),Inv bs n M O e a w->∃ M' O',Inv bs n M' O' e' a w
theorem Goes.refl (e:Env):Goes n e e:=fun bs M O a w hi=>⟨M,O,hi⟩
theorem Goes.wk {e1:Env} (h:Goes n e1 e') (he:weakE (e1.map Prod.fst) [] [] [] e=e1:=by kernel_rfl):Goes n e e':=by
 intro bs M O a w hi;obtain⟨M',O',h'⟩:=hi.freezeAll [];obtain⟨O2,h2⟩:=Inv.relabAll [] ((Inv.nilAll [] h').drop (e1.map Prod.fst))
 have h3:Inv bs n M' O2 e1 a w:=by
  rw[<- he];exact h2
 exact h bs M' O2 a w h3
theorem Goes.mv {e e1 e':Env} (q:List Mv) (h:Goes n e1 e') (he:mvAll e q=e1:=by kernel_rfl):Goes n e e':=by
 subst he;intro bs M O a w hi;obtain⟨M',O',h'⟩:=hi.mvAll q;exact h bs M' O' a w h'
theorem CodeP.goes (hg:Goes n e e') (h:CodeP P n c S e'):CodeP P n c S e:=by
 intro bs M O a w hi Q hQ;obtain⟨M',O',h'⟩:=hg bs M O a w hi;exact h bs M' O' a w h' Q hQ
theorem CodeP.wk {c:Code} {S:Ex->Env->Prop} {env':Env} (h:CodeP P n c S env') (he:weakE (env'.map Prod.fst) [] [] [] env=env':=by kernel_rfl):CodeP P n c S env:=CodeP.goes (Goes.wk (Goes.refl _) he) h
theorem CodeP.mv {c:Code} {S:Ex->Env->Prop} {env':Env} (q:List Mv) (h:CodeP P n c S env') (he:mvAll env q=env':=by kernel_rfl):CodeP P n c S env:=CodeP.goes (Goes.mv q (Goes.refl _) he) h
theorem CodeP.reg (hmix:P.follows .mixedOrders=true) {ops:Lh} {draw:Bool} {e2:Env} (h:S .normal e2) (hd:(!draw || (orderOk ops && ju ops))=true:=by kernel_rfl) (he:stepsK P n draw ops.toList ops.toList.length ops.toList env=some e2:=by kernel_rfl):CodeP P n (.region id ops draw) S env :=
 CodeP.of hmix (W.region hd (WO.end0 he h))
def PostP (P:Program) (fn:Func) (r:AV):Ex->Env->Prop
 | .exit _,_=>False
 | _,e=>jX P fn e=some r
theorem qbY {f:Nat} {args:LJ} {r:AV} {fn:Func} (hf:P.funcs[f]? = some fn) (hb:fn.body=some c) (hlen:(Nat.ble args.length fn.ntmps && Nat.ble fn.ntmps 1000000)=true) (hnl:∀ e k l xs,r≠.lst e k (some l) xs) (h:CodeP P fn.ntmps c (PostP P fn r) (argsEnv 0 (args.map AV.strip))):CallOk P f args r:=by
 intro M w vs hG hC hl hR;refine calls_of_wp hf hb ?_
 have hsz:vs.toArray.size=vs.length:=by simp
 simp only[Bool.and_eq_true]at hlen;have hle:=F9 hlen.1;have hsm:=F9 hlen.2
 have hinv:Inv ⟨fun k=>k<w.heap.size,M,w,⟨fun _ _=>none,fun _=>0,fun _=>0⟩,hG⟩ fn.ntmps M ⟨fun _ _=>none,fun _=>0,fun _=>0⟩ (argsEnv 0 (args.map AV.strip)) { tmps:=vs.toArray++Array.replicate (fn.ntmps - vs.toArray.size) undef,defers:=[] } w:=by
  refine⟨by simp;omega,rfl,BelowD.refl _ _,fun k hk=>hk,hC,Sub.refl M,fun _ _ _=>rfl,fun i c g e=>by (cases e),fun i i' c c' g e=>by (cases e),⟨hsm,fun c _ _=>Gh.Eq1.refl _ c⟩,fun t x hx=>?_⟩;obtain⟨_,h2⟩:=Dl _ 0 t x hx;simp only[Nat.sub_zero,List.getElem?_map]at h2
  cases hz:args[t]? with
  | none=>rw[hz]at h2;cases h2
  | some z =>
   rw[hz]at h2;cases h2
   have htl:t<vs.length:=by rw[<- hl];exact (List.getElem?_eq_some_iff.1 hz).1
   have hv:(vs.toArray++Array.replicate (fn.ntmps - vs.toArray.size) undef).getD t undef=vs[t]:=by
    rw[Array.getD_eq_getD_getElem?,Array.getElem?_append_left (by simpa using htl)];simp[htl]
   rw[hv];exact Yz (jO (hR t z _ hz (D5 htl)).strip (Xs z))
 refine h _ _ _ _ _ hinv _ fun ex e1 a' w' M' O' hres h'=>?_
 have hbel:Below w.heap.size w w':=⟨h'.below.os,h'.below.tape,h'.below.output,h'.below.size,fun k hk=>h'.below.block k hk⟩
 have fin:jX P fn e1=some r->∃ v1,(results fn a'.tmps).run P w'=.ok v1 w'/\∃ v2 M2,Ending.returned v1=.returned v2/\Below w.heap.size w w'/\Sub M M2/\Cons M2 w'/\(∀ b o,b<w.heap.size->M2 b o=M b o)/\R M2 r v2/\OwnR M2 w.heap.size w' r v2:=by
  intro hres;obtain⟨v,hv1,hv2,hv3⟩:=Ux h' hres;refine⟨v,hv1,v,M',rfl,hbel,h'.ext,h'.cons,fun b o hb=>h'.old b o hb,hv2,?_⟩;unfold OwnR;split
  .exact absurd rfl (hnl _ _ _ _)
  trivial
 cases ex with
 | normal=>exact⟨h'.defers,fin hres⟩
 | ret=>exact⟨h'.defers,fin hres⟩
 | exit id=>exact hres.elim
end
end Go.AM
namespace Go.AM
open Go.RowKit Go.Sort Go.Proofs
theorem qil (zs:LA) (k:IntKind):flat (zs.map (AV.int k))=zs.map (AV.int k):=by
 unfold flat;rw[List.flatMap_map];simp only[AV.cells];exact List.map_eq_flatMap.symm
end Go.AM
namespace Go.AM
open Go.RowKit Go.Proofs
variable {M:Mem} {w w':World} {u v:Value} {t:TypeId} {b j:Nat}
def Tf3:=And.intro Try.underlying3<|And.intro Try.isAgg3<|And.intro Try.sizeOf3<|And.intro Try.zeroValue3<|run_underlying Try.underlying3
def Tf4:=And.intro Try.underlying4<|And.intro Try.isAgg4<|And.intro Try.sizeOf4<|And.intro Try.zeroValue4<|run_underlying Try.underlying4
def Tf24:=And.intro Try.underlying24<|And.intro Try.isAgg24<|And.intro Try.sizeOf24<|And.intro Try.zeroValue24<|run_underlying Try.underlying24
def Tf27:=And.intro Try.underlying27<|And.intro Try.isAgg27<|And.intro Try.sizeOf27<|And.intro Try.zeroValue27<|run_underlying Try.underlying27
def Tf39:=And.intro Try.underlying39<|And.intro Try.isAgg39<|And.intro Try.sizeOf39<|And.intro Try.zeroValue39<|run_underlying Try.underlying39
def Tf41:=And.intro Try.underlying41<|And.intro Try.isAgg41<|And.intro Try.sizeOf41<|And.intro Try.zeroValue41<|run_underlying Try.underlying41
def Tf50:=And.intro Try.underlying50<|And.intro Try.isAgg50<|And.intro Try.sizeOf50<|And.intro Try.zeroValue50<|run_underlying Try.underlying50
def Tf52:=And.intro Try.underlying52<|And.intro Try.isAgg52<|And.intro Try.sizeOf52<|And.intro Try.zeroValue52<|run_underlying Try.underlying52
def Tf54:=And.intro Try.underlying54<|And.intro Try.isAgg54<|And.intro Try.sizeOf54<|And.intro Try.zeroValue54<|run_underlying Try.underlying54
def Tf56:=And.intro Try.underlying56<|And.intro Try.isAgg56<|And.intro Try.sizeOf56<|And.intro Try.zeroValue56<|run_underlying Try.underlying56
def Tf75:=And.intro Try.underlying75<|And.intro Try.isAgg75<|And.intro Try.sizeOf75<|And.intro Try.zeroValue75<|run_underlying Try.underlying75
def Tf77:=And.intro Try.underlying77<|And.intro Try.isAgg77<|And.intro Try.sizeOf77<|And.intro Try.zeroValue77<|run_underlying Try.underlying77
def Tf105:=And.intro Try.underlying105<|And.intro Try.isAgg105<|And.intro Try.sizeOf105<|And.intro Try.zeroValue105<|run_underlying Try.underlying105
def Tf127:=And.intro Try.underlying127<|And.intro Try.isAgg127<|And.intro Try.sizeOf127<|And.intro Try.zeroValue127<|run_underlying Try.underlying127
def Tf145:=And.intro Try.underlying145<|And.intro Try.isAgg145<|And.intro Try.sizeOf145<|And.intro Try.zeroValue145<|run_underlying Try.underlying145
def Tf146:=And.intro Try.underlying146<|And.intro Try.isAgg146<|And.intro Try.sizeOf146<|And.intro Try.zeroValue146<|run_underlying Try.underlying146
def Tf149:=And.intro Try.underlying149<|And.intro Try.isAgg149<|And.intro Try.sizeOf149<|And.intro Try.zeroValue149<|run_underlying Try.underlying149
def Tf150:=And.intro Try.underlying150<|And.intro Try.isAgg150<|And.intro Try.sizeOf150<|And.intro Try.zeroValue150<|run_underlying Try.underlying150
def Tf152:=And.intro Try.underlying152<|And.intro Try.isAgg152<|And.intro Try.sizeOf152<|And.intro Try.zeroValue152<|run_underlying Try.underlying152
def Tf178:=And.intro Try.underlying178<|And.intro Try.isAgg178<|And.intro Try.sizeOf178<|And.intro Try.zeroValue178<|run_underlying Try.underlying178
def Tf180:=And.intro Try.underlying180<|And.intro Try.isAgg180<|And.intro Try.sizeOf180<|And.intro Try.zeroValue180<|run_underlying Try.underlying180
def Tf183:=And.intro Try.underlying183<|And.intro Try.isAgg183<|And.intro Try.sizeOf183<|And.intro Try.zeroValue183<|run_underlying Try.underlying183
def Tf191:=And.intro Try.underlying191<|And.intro Try.isAgg191<|And.intro Try.sizeOf191<|And.intro Try.zeroValue191<|run_underlying Try.underlying191
def Tf192:=And.intro Try.underlying192<|And.intro Try.isAgg192<|And.intro Try.sizeOf192<|And.intro Try.zeroValue192<|run_underlying Try.underlying192
theorem mixedP:Try.prog.follows .mixedOrders=true:=by kernel_rfl
abbrev cL (l:LA):LJ:=l.map (AV.int .i64)
theorem glob0 (M:Mem):Glob M:=fun g hg=>by cases hg
theorem Cons.below (h:Cons M w) (hB:Below w.heap.size w w'):Cons M w':=qaj h hB
theorem Cons.of_blocks (h:Cons M w) (hb:∀ b o u,M b o=some u->b<w.heap.size->w'.heap[b]? = w.heap[b]?):Cons M w':=fun b o u hu=>by
 have h1:=h b o u hu;rw[Qd (hb b o u hu (NJ h1))];exact h1
theorem Cons.alloc {M:Mem} {w:World} (h:Cons M w) (o:Obj):Cons M (w.alloc o):=h.of_blocks fun b _ _ _ hb=>heap_alloc_old w o hb
theorem Cons.setCell {M:Mem} {w:World} (h:Cons M w) {a:Addr} (ha:∀ o,M a.block o=none) (v:Value):Cons M (w.setCell a v) :=
 h.of_blocks fun b o u hu hb=>Below.heap_setCell w a v b fun e=>by rw[e,ha]at hu;cases hu
theorem qjY (l:LA):flat (cL l)=cL l:=qil l .i64
theorem qbv {l:LA} (h:R M (.lst 3 1 none (cL l)) v):∃ a cap,v=.slice a l.length cap/\∀ j (hj:j<l.length),∃ b off,a=some ⟨b,off,none⟩/\M b (off+j)=some (.int .i64 l[j]):=by
 generalize hx:cL l=xs at h
 cases h with
 | lstn =>
  have:l=[]:=by simpa[cL] using hx
  subst this;exact⟨none,0,rfl,fun j hj=>absurd hj (by simp)⟩
 | lste _ _ _ ad cap =>
  have:l=[]:=by simpa[cL] using hx
  subst this;exact⟨some ad,cap,rfl,fun j hj=>absurd hj (by simp)⟩
 | lst us h1 h2 h5 h3 h4 =>
  subst hx;rename_i b off cap;refine⟨some ⟨b,off,none⟩,cap,by simp[cL],fun j hj=>⟨b,off,rfl,?_⟩⟩
  have hf:(flat (cL l))[j]? = some (.int .i64 l[j]):=by rw[qjY];simp[cL,hj]
  rw[h3 j _ hf,(h4 j _ hf).int_inv]
theorem VE {f:Nat} {args:LJ} {r:AV} (h:Run Try.prog (.call f args r)):CallOk Try.prog f args r:=YH mixedP h
theorem qaF {kt e:TypeId} {ks vs:LJ} {mv kv:Value} {k r:AV} (hC:Cons M w) (hm:R M (.mpv ks vs) mv) (ht:QI Try.prog t=some (kt,e)) (hkv:k.keyV=some kv) (hr:alookup Try.prog t [] (.mpv ks vs) k=some r) :
  ∃ v,(Instr.lookup t mv kv false).run Try.prog w=.ok v w/\R M r v:=by
 unfold alookup at hr;rw[ht]at hr;simp only[Zi]at hr;split at hr
 case h_2=>cases hr
 rename_i hc;simp only[Bool.and_eq_true]at hc;obtain⟨⟨hfit,hks⟩,hall⟩:=hc;have ht:=Ql ht;obtain⟨K,l,hl⟩:=VN hfit hkv
 have hz:∀ z,zeroA1 Try.prog e=some z->∃ v,(zeroValue e).run Try.prog w=.ok v w/\R M z v:=fun z hz=>by
  obtain⟨v,h1,h2⟩:=UY (M:=M) (O:=⟨fun _ _=>none,fun _=>0,fun _=>0⟩) (w:=w) hz;exact⟨v,h1,h2⟩
 rcases Ug hm with ⟨rfl,rfl,rfl⟩ | ⟨ks',vs',b,es,clock,hp,rfl,h1,h2,h3,h4,h5,h6,h7⟩
 .simp only[findA]at hr;obtain⟨z,hz,hz2⟩:=hz _ hr;refine⟨z,?_,hz2⟩
  have hfind:(Instr.findKey kt kv (#[]:LX).toList).run Try.prog w=.ok none w:=by
   rcases K.find w hl [] (by simp) with ⟨h1,_⟩ | ⟨j,e,_,h2,_⟩
   .exact h1
   simp at h2
  simp[Instr.lookup,run_underlying ht,K.check w true hl,hfind,hz,D0]
 have hb:=ZW (hC _ _ _ h1)
 have hall':ks'.all (keyFits Try.prog kt)=true:=List.all_eq_true.2 fun y hy=>List.all_eq_true.1 hall y (hp.keys.mem_iff.2 hy)
 have E:EntOk M es clock ks' vs':=⟨h2,h3,h4,h5,h6,h7⟩;obtain⟨hck,hst,hfd⟩:=YE (w:=w) hfit hkv hall' E;obtain⟨fp1,fp2⟩:=qby hkv hp E
 rcases hfd with ⟨k1,k2,k3⟩ | ⟨j,e0,k1,k2,k3,k4⟩
 .rw[fp1 k1]at hr;obtain⟨z,hz,hz2⟩:=hz _ hr;refine⟨z,?_,hz2⟩;simp[Instr.lookup,run_underlying ht,G0 hb,hck,k2,hz,D0]
 obtain⟨i,g1,g2⟩:=fp2 j k1;rw[g1]at hr;simp only[g2]at hr;refine⟨e0.val,?_,h7 j r e0 hr (by simpa using k3)⟩;simp[Instr.lookup,run_underlying ht,G0 hb,hck,k2,D0]
theorem jP {cs:LO} (u:Value) (h:w.heap[b]? = some (.cells cs t (0,0))):(w.setCell ⟨b,j,none⟩ u).heap[b]? = some (.cells (cs.setIfInBounds j u) t (0,0)):=by
 have hlt:=lt_of_block h
 have h':w.heap[b]=.cells cs t (0,0):=by simpa[D4 hlt] using h
 show (w.heap.modify b _)[b]? = _;rw[D4 (by simpa using hlt),Array.getElem_modify_self,h'];rfl
theorem qM {k:Nat} (h:k≠b):(w.setCell ⟨b,j,none⟩ u).heap[k]? = w.heap[k]?:=Below.heap_setCell w ⟨b,j,none⟩ u k h
theorem jY {a:Addr}:(w.setCell a u).heap.size=w.heap.size:=by simp[World.setCell]
theorem tkH {P:Program} {ops:Lh} {Q:Exit->Act->World->Prop} {md:Region.Mode} {S:World->Prop} {i:Nat} {oi:Oper} {fuel:Nat} {listed:Array Bool} {a:Act} (hi:ops[i]? = some oi) (hy:YieldsIf P ops S oi v a) (hS:S w) (h:wpAnyH P md ops Q S fuel (listed.setIfInBounds i true) (a.put oi.dst v) w) (hs:Region.noSelect ops=true:=by kernel_rfl) (hf:Region.free md ops listed i=true:=by kernel_rfl) (hr:(Region.ready md ops listed).contains i=true:=by kernel_rfl) (hQ:∀ c a w,Q (.panic c) (a.put oi.dst v) w->Q (.panic c) a w:=by exact fun _ _ _ h=>h):wpAnyH P md ops Q S (fuel+1) listed a w:=wpAnyH_take hi hs hf hr hQ hy hS h
end Go.AM
namespace Go.AM
open Go.RowKit
variable {P:Program} {n:Nat} {K V:Type} {F:K->AV} {G:V->AV} {eq:K->K->Bool}
variable {e1 env:Env} {k:Nat} {A:LF}
inductive AllP {α:Type} (q:α->Prop):List α->Prop where
 | nil:AllP q []
 | cons {a l}:q a->AllP q l->AllP q (a::l)
theorem AllP.mem {α:Type} {q:α->Prop}:∀ {l:List α},AllP q l->∀ x,x∈l->q x
 | _,.nil,x,h=>by cases h
 | _,.cons h t,x,hx=>by
  rcases List.mem_cons.1 hx with rfl | hx
  .exact h
  exact t.mem x hx
def stepA (P:Program) (n:Nat) (all:LF) (env:Env) (k:Nat):Le :=
 match all[k]? with
 | some o=>match awanted all o env with
  | some true=>astep P n o env
  | _=>none
 | none=>none
def lkE:List (Nat×Env)->Nat->Env
 | [],_=>[]
 | p::r,k=>match Nat.beq p.1 k with
  | true=>p.2
  | false=>lkE r k
theorem qfw:∀ {l:List (Nat×Env)} {k:Nat},k∈l.map (·.1)->∃ p,p∈l/\p.1=k/\lkE l k=p.2
 | [],k,h=>by cases h
 | p::r,k,h=>by
  unfold lkE
  cases hb:Nat.beq p.1 k with
  | true=>exact⟨p,List.mem_cons_self ..,F8 hb,rfl⟩
  | false =>
   rw[E7,List.mem_cons]at h
   rcases h with rfl | h
   .rw[Nat.beq_refl]at hb;cases hb
   obtain⟨q,h1,h2,h3⟩:=qfw h;exact⟨q,List.mem_cons_of_mem _ h1,h2,h3⟩
theorem Run.anyC {all:LF} {R:LP} (l:List (Nat×Env)) (hne:R.isEmpty=false) (h0:R.filter (readyR all R)=l.map (·.1)) (hs:AllP (fun p=>∃ o,all[p.1]? = some o/\WO P n false all [o] (fun e=>e=p.2) env) l) (hr:AllP (fun p=>Run P (.any n all (R.erase p.1) p.2 e1)) l):Run P (.any n all R env e1):=by
 have key:∀ k,k∈R->readyR all R k=true->∃ p,p∈l/\p.1=k/\lkE l k=p.2:=fun k hk hd=>qfw (by rw[<- h0];exact List.mem_filter.2 ⟨hk,hd⟩)
 refine .anyStep (lkE l) (fun e=>by rw[e]at hne;cases hne) (fun k o hk ho hd=>?_) (fun k hk hd=>?_)
 .obtain⟨p,h1,rfl,h3⟩:=key k hk hd;obtain⟨o',g1,e2,g2,g3⟩:=hs.mem p h1;rw[ho]at g1;cases g1;rw[h3,<- g3];exact g2
 obtain⟨p,h1,rfl,h3⟩:=key k hk hd;rw[h3];exact hr.mem p h1
theorem Run.anyL {all:LF} {R:LP} (l:List (Nat×Env)) (hne:R.isEmpty=false) (h0:R.filter (readyR all R)=l.map (·.1)) (hs:AllP (fun p=>stepA P n all env p.1=some p.2) l) (hr:AllP (fun p=>Run P (.any n all (R.erase p.1) p.2 e1)) l):Run P (.any n all R env e1):=by
 have key:∀ k,k∈R->readyR all R k=true->∃ p,p∈l/\p.1=k/\lkE l k=p.2:=fun k hk hd=>qfw (by rw[<- h0];exact List.mem_filter.2 ⟨hk,hd⟩)
 refine .anyStep (lkE l) (fun e=>by rw[e]at hne;cases hne) (fun k o hk ho hd=>?_) (fun k hk hd=>?_)
 .obtain⟨p,h1,rfl,h3⟩:=key k hk hd;have:=hs.mem p h1;unfold stepA at this;rw[ho]at this;simp only at this;split at this
  .rename_i hw;rw[h3];exact .op hw this .nil
  cases this
 obtain⟨p,h1,rfl,h3⟩:=key k hk hd;rw[h3];exact hr.mem p h1
theorem W.regionA {id:Nat} {ops:Lh} {Q:Ex->Env->Prop} {env e1:Env} (hb:ju ops=true) (h:Run P (.any n ops.toList (A5 ops.size) env e1)) (hq:WO P n false ops.toList [] (Q .normal) e1):W P n (.region id ops true) Q env:=by
 obtain⟨e2,h1,h2⟩:=hq;exact⟨_,e2,.regionA hb h h1,h2⟩
theorem qfT {α:Type} {enc:α->AV} {all:LF} {s sz:Nat} {l l':List α} (hF:Flat enc) (hl:decide (l.length=sz/\l'.length=sz)=true)
  (hp:(match all[k]? with | some o=>setPre P all o env | none=>none)=some (s,0,.agg (l.map enc),l'.map enc,sz)):stepA P n all env k=some (ins s (.hob 3 [] (l.map enc)) env):=by
 obtain⟨hl1,hl2⟩:=of_decide_eq_true hl;unfold stepA
 cases hk:all[k]? with
 | none=>rw[hk]at hp;cases hp
 | some o =>
  rw[hk]at hp;obtain⟨a1,a2,a3,a4,_,a5⟩:=NR (n:=n) hp;simp only[a1];rw[a5 _ rfl (by rw[D2];exact hl1)];unfold putRow;have:Nat.ble (0+(l.map enc).length) (l'.map enc).length=true:=Nat.ble_eq_true_of_le (by rw[D2,D2];omega);simp only[hF.all,a4,this];rw[hF.strips,List.take_zero,List.drop_eq_nil_of_le (by rw[D2,D2];omega),List.nil_append,List.append_nil]
inductive AQ (q:Nat->Env->Prop):List (Nat×Env)->Prop where
 | n:AQ q []
 | c {e l} (k:Nat):q k e->AQ q l->AQ q ((k,e)::l)
theorem AQ.all {q:Nat->Env->Prop} {l:List (Nat×Env)} (h:AQ q l):AllP (fun p=>q p.1 p.2) l:=by
 induction h with
 | n=>exact .nil
 | c k a b ih=>exact .cons a ih
theorem qjl {α β:Type} {f g:α->β}:∀ {l:List α},l.map f=l.map g->AllP (fun p=>f p=g p) l
 | [],_=>.nil
 | x::l,h=>by
  rw[E7,E7,List.cons.injEq]at h;exact .cons h.1 (qjl h.2)
theorem Run.aM {all:LF} {R:LP} {l:List (Nat×Env)} (hA:A=all) (hr:AQ (fun k e=>Run P (.any n all (R.erase k) e e1)) l) (hne:R.isEmpty=false:=by kernel_rfl) (h0:R.filter (readyR A R)=l.map (·.1):=by kernel_rfl) (hs:l.map (fun p=>stepA P n A env p.1)=l.map (fun p=>some p.2):=by kernel_rfl):Run P (.any n all R env e1):=by
 subst hA;exact .anyL l hne h0 (qjl hs) hr.all
theorem Run.aX {all:LF} {R:LP} {l:List (Nat×Env)} (hA:A=all) (hr:AQ (fun k e=>Run P (.any n all (R.erase k) e e1)) l) (hs:AllP (fun p=>∃ o,A[p.1]? = some o/\WO P n false A [o] (fun e=>e=p.2) env) l) (hne:R.isEmpty=false:=by kernel_rfl) (h0:R.filter (readyR A R)=l.map (·.1):=by kernel_rfl):Run P (.any n all R env e1):=by
 subst hA;exact .anyC l hne h0 hs hr.all
theorem WO.s1 {all:LF} {o:Oper} {e:Env} (ho:all[k]? = some o) (h:stepsK P n false all 1 [o] env=some e:=by kernel_rfl):∃ o,all[k]? = some o/\WO P n false all [o] (fun e'=>e'=e) env:=⟨o,ho,WO.steps 1 h (WO.nil rfl)⟩
end Go.AM
namespace Go.AM
end Go.AM
namespace Go.Proofs
open Go.RowKit Go.AM Go.Sort
set_option maxHeartbeats 4000000 in
theorem Try.key81 (rel a c:Int) (b off cap n:Nat) (W:World) (h0:W.cell? ⟨b,off,none⟩=some (.int .i64 a)) (h1:1<n->W.cell? ⟨b,off+1,none⟩=some (.int .i64 c)) (h2:¬ 1<n->c=0) (hn:0<n) (hl:n<=1000000) :
  Calls Try.prog 81 #[.agg #[.int .i64 rel,.slice (some ⟨b,off,none⟩) n cap]] W fun e w'=>e=.returned (.agg #[.int .i64 rel,.int .i64 a,.int .i64 c])/\Below W.heap.size W w':=by
 have mixed:=mixedP;have⟨t3,a3,z3,v3,u3⟩:=Tf3;have⟨t4,a4,z4,v4,u4⟩:=Tf4;have⟨t39,a39,z39,v39,u39⟩:=Tf39;have⟨t41,a41,z41,v41,u41⟩:=Tf41;have⟨t127,a127,z127,v127,u127⟩:=Tf127
 have hb:b<W.heap.size:=by
  unfold A2 at h0
  cases hh:W.heap[b]? with
  | none=>simp[hh]at h0
  | some o=>exact lt_of_block hh
 go_enter Try.func81,Try.ntmps81
 go_wp2_with fail
 obtain⟨W2,hW2⟩:∃ W2,W2=(W.alloc (.cells #[.int .i64 rel,.slice (some ⟨b,off,none⟩) n cap] 41)).alloc (.cells #[.int .i64 0,.int .i64 0,.int .i64 0] 127):=⟨_,rfl⟩
 have e1:W2.heap[W.heap.size]? = some (.cells #[.int .i64 rel,.slice (some ⟨b,off,none⟩) n cap] 41 (0,0)):=by
  rw[hW2,heap_alloc_old _ _ (by simp)];exact heap_alloc_new _ _
 have e2:W2.heap[W.heap.size+1]? = some (.cells #[.int .i64 0,.int .i64 0,.int .i64 0] 127 (0,0)):=by
  have:=heap_alloc_new (W.alloc (.cells #[.int .i64 rel,.slice (some ⟨b,off,none⟩) n cap] 41)) (.cells #[.int .i64 0,.int .i64 0,.int .i64 0] 127);rw[hW2]
  simpa using this
 have hsz:W2.heap.size=W.heap.size+2:=by rw[hW2];simp
 have hB:Below W.heap.size W W2:=by rw[hW2];exact ((Below.refl _ _).alloc (D1 _) _).alloc (by simp) _
 rw[<- hW2];clear hW2
 have old:∀ w',Below W.heap.size W w'->w'.cell? ⟨b,off,none⟩=some (.int .i64 a)/\(1<n->w'.cell? ⟨b,off+1,none⟩=some (.int .i64 c)):=fun w' h=>⟨(h.cell hb).trans h0,fun hc=>(h.cell hb).trans (h1 hc)⟩
 have K0:W2.cell? ⟨W.heap.size,0,none⟩=some (.int .i64 rel)/\W2.cell? ⟨W.heap.size,1,none⟩=some (.slice (some ⟨b,off,none⟩) n cap)/\W2.cell? ⟨b,off,none⟩=some (.int .i64 a):=by
  refine⟨?_,?_,(old _ hB).1⟩ <;> simp[A2,e1]
 refine wp_region_held_drew (S:=(fun w'=>w'.cell? ⟨W.heap.size,0,none⟩=some (.int .i64 rel)/\w'.cell? ⟨W.heap.size,1,none⟩=some (.slice (some ⟨b,off,none⟩) n cap)/\w'.cell? ⟨b,off,none⟩=some (.int .i64 a))) kR K0 (fun hHeld=>?_);refine tkH (i:=0) (v:=.pointer (some ⟨W.heap.size,0,none⟩)) rfl (Or.inl ⟨by kernel_rfl,fun w' hw'=>?_⟩) hHeld ?_
 .obtain⟨q0,q1,q2⟩:=hw';go_simp
 simp only[Act.put,A8,A7,A6,A9,B1,C0];refine tkH (i:=1) (v:=.int .i64 rel) rfl (Or.inl ⟨by kernel_rfl,fun w' hw'=>?_⟩) hHeld ?_
 .obtain⟨q0,q1,q2⟩:=hw';go_simp
 simp only[Act.put,A8,A7,A6,A9,B1,C0];refine tkH (i:=2) (v:=.pointer (some ⟨W.heap.size,1,none⟩)) rfl (Or.inl ⟨by kernel_rfl,fun w' hw'=>?_⟩) hHeld ?_
 .obtain⟨q0,q1,q2⟩:=hw';go_simp
 simp only[Act.put,A8,A7,A6,A9,B1,C0];refine tkH (i:=3) (v:=.slice (some ⟨b,off,none⟩) n cap) rfl (Or.inl ⟨by kernel_rfl,fun w' hw'=>?_⟩) hHeld ?_
 .obtain⟨q0,q1,q2⟩:=hw';go_simp
 simp only[Act.put,A8,A7,A6,A9,B1,C0];refine tkH (i:=4) (v:=.pointer (some ⟨b,off,none⟩)) rfl (Or.inl ⟨by kernel_rfl,fun w' hw'=>?_⟩) hHeld ?_
 .obtain⟨q0,q1,q2⟩:=hw';go_simp
 simp only[Act.put,A8,A7,A6,A9,B1,C0];refine tkH (i:=5) (v:=.int .i64 a) rfl (Or.inl ⟨by kernel_rfl,fun w' hw'=>?_⟩) hHeld ?_
 .obtain⟨q0,q1,q2⟩:=hw';go_simp
 simp only[Act.put,A8,A7,A6,A9,B1,C0];refine tkH (i:=6) (v:=.agg #[.int .i64 rel,.int .i64 a,.int .i64 0]) rfl (Or.inl ⟨by kernel_rfl,fun w' hw'=>?_⟩) hHeld ?_
 .obtain⟨q0,q1,q2⟩:=hw';go_simp
 simp only[Act.put,A8,A7,A6,A9,B1,C0];refine wpAnyH_ready (rs:=[7]) kR (by simp) (AllReadyH.cons rfl (fun K hK=>?_) AllReadyH.nil);rw[if_pos (by kernel_rfl)];go_simp;obtain⟨W3,hW3⟩:∃ W3,W3=(W2.alloc (Obj.cells #[Value.int D3 0,Value.int D3 0,Value.int D3 0] 127)).drew:=⟨_,rfl⟩
 have g1:W3.heap[W.heap.size]? = some (.cells #[.int .i64 rel,.slice (some ⟨b,off,none⟩) n cap] 41 (0,0)):=by
  rw[hW3];exact (heap_alloc_old _ _ (lt_of_block e1)).trans e1
 have g2:W3.heap[W.heap.size+1]? = some (.cells #[.int .i64 0,.int .i64 0,.int .i64 0] 127 (0,0)):=by
  rw[hW3];exact (heap_alloc_old _ _ (lt_of_block e2)).trans e2
 have g3:W3.heap[W.heap.size+2]? = some (.cells #[.int .i64 0,.int .i64 0,.int .i64 0] 127 (0,0)):=by
  rw[hW3,<- hsz];exact heap_alloc_new _ _
 have hB3:Below W.heap.size W W3:=by rw[hW3];exact (hB.alloc oM _).trans ⟨rfl,rfl,rfl,D1 _,fun _ _=>rfl⟩
 have hsz3:W3.heap.size=W.heap.size+3:=by rw[hW3];simp[hsz]
 have K3:W3.cell? ⟨W.heap.size,0,none⟩=some (.int .i64 rel)/\W3.cell? ⟨W.heap.size,1,none⟩=some (.slice (some ⟨b,off,none⟩) n cap)/\W3.cell? ⟨b,off,none⟩=some (.int .i64 a):=by
  refine⟨?_,?_,(old _ hB3).1⟩ <;> simp[A2,g1]
 rw[<- hW3];clear hW3 e1 e2 hHeld K0;refine hK.out _ _ K3 (fun _=>?_);clear hK K;refine wpAnyH_ready (rs:=[8]) kR (by simp) (AllReadyH.cons rfl (fun K hK=>?_) AllReadyH.nil);rw[if_pos (by kernel_rfl)]
 have fz:∀ j,W3.frozen? ⟨W.heap.size+2,j,none⟩=false:=fun j=>by simp[D6,g3]
 have f0:=fz 0;have f1:=fz 1;have f2:=fz 2
 have z0:W3.cell? ⟨W.heap.size+2,0,none⟩=some (.int .i64 0):=by simp[A2,g3]
 have z1:W3.cell? ⟨W.heap.size+2,1,none⟩=some (.int .i64 0):=by simp[A2,g3]
 have z2:W3.cell? ⟨W.heap.size+2,2,none⟩=some (.int .i64 0):=by simp[A2,g3]
 go_wp2_with fail
 obtain⟨W4,hW4⟩:∃ W4,W4=(((W3.setCell { block:=W.heap.size+2,off:=0 } (Value.int D3 rel)).setCell { block:=W.heap.size+2,off:=1 } (Value.int D3 a)).setCell { block:=W.heap.size+2,off:=2 } (Value.int D3 0)):=⟨_,rfl⟩
 have k3:W4.heap[W.heap.size+2]? = some (.cells #[.int .i64 rel,.int .i64 a,.int .i64 0] 127 (0,0)):=by
  rw[hW4,jP _ (jP _ (jP _ g3))];rfl
 have kb:∀ j,j≠W.heap.size+2->W4.heap[j]? = W3.heap[j]?:=fun j hj=>by
  rw[hW4,Below.heap_setCell _ _ _ _ hj,Below.heap_setCell _ _ _ _ hj,Below.heap_setCell _ _ _ _ hj]
 have hB4:Below W.heap.size W W4:=hB3.trans ⟨by rw[hW4];rfl,by rw[hW4];rfl,by rw[hW4];rfl,by rw[hW4,jY,jY,jY];exact D1 _,fun j hj=>kb j oM⟩;rw[<- hW4];clear hW4;have k1:=(kb (W.heap.size) oM).trans g1;have k2:=(kb (W.heap.size+1) oM).trans g2;clear kb g1 g2 g3 fz f0 f1 f2 z0 z1 z2 K3
 have K4:W4.cell? ⟨W.heap.size,0,none⟩=some (.int .i64 rel)/\W4.cell? ⟨W.heap.size,1,none⟩=some (.slice (some ⟨b,off,none⟩) n cap)/\W4.cell? ⟨b,off,none⟩=some (.int .i64 a):=by
  refine⟨?_,?_,(old _ hB4).1⟩ <;> simp[A2,k1]
 refine hK.out _ _ K4 (fun _=>?_);clear hK K;refine wpAnyH_done kR ?_ _;obtain⟨c0,c1,_⟩:=K4
 have d0:W4.cell? ⟨W.heap.size+2,0,none⟩=some (.int .i64 rel):=by simp[A2,k3]
 have d1:W4.cell? ⟨W.heap.size+2,1,none⟩=some (.int .i64 a):=by simp[A2,k3]
 have d2:W4.cell? ⟨W.heap.size+2,2,none⟩=some (.int .i64 0):=by simp[A2,k3]
 have b0:W4.cell? ⟨W.heap.size+1,0,none⟩=some (.int .i64 0):=by simp[A2,k2]
 have b1:W4.cell? ⟨W.heap.size+1,1,none⟩=some (.int .i64 0):=by simp[A2,k2]
 have b2:W4.cell? ⟨W.heap.size+1,2,none⟩=some (.int .i64 0):=by simp[A2,k2]
 have f2:W4.frozen? ⟨W.heap.size+2,2,none⟩=false:=by simp[D6,k3]
 have y0:W4.frozen? ⟨W.heap.size+1,0,none⟩=false:=by simp[D6,k2]
 have y1:W4.frozen? ⟨W.heap.size+1,1,none⟩=false:=by simp[D6,k2]
 have y2:W4.frozen? ⟨W.heap.size+1,2,none⟩=false:=by simp[D6,k2]
 have n1:=(old _ hB4).2
 have hres:∀ (tm:LO) (w9:World) (x:Int),tm[2]?.getD undef=.pointer (some ⟨W.heap.size+1,0,none⟩)->w9.heap[W.heap.size+1]? = some (.cells #[.int .i64 rel,.int .i64 a,.int .i64 x] 127 (0,0))->(results Try.f81 tm).run Try.prog w9=.ok (.agg #[.int .i64 rel,.int .i64 a,.int .i64 x]) w9:=by
  intro tm w9 x htm h9
  have hr:Try.f81.results=#[.cell 2 127]:=by kernel_rfl
  have e0:w9.cell? ⟨W.heap.size+1,0,none⟩=some (.int .i64 rel):=by simp[A2,h9]
  have e1:w9.cell? ⟨W.heap.size+1,1,none⟩=some (.int .i64 a):=by simp[A2,h9]
  have e2:w9.cell? ⟨W.heap.size+1,2,none⟩=some (.int .i64 x):=by simp[A2,h9]
  simp[results,hr,htm];go_simp
 by_cases hc:1<n
 .have n1:=n1 hc
  go_wp2
  refine bodyPost_ret (hres _ _ c (by rfl) ?_) rfl ⟨rfl,?_⟩
  .rw[jP _ (jP _ (jP _ ((qM (by omega)).trans k2)))];rfl
  refine hB4.trans ⟨rfl,rfl,rfl,by simp only[jY];exact D1 _,fun j hj=>?_⟩;rw[qM (by omega),qM (by omega),qM (by omega),qM (by omega)]
 have n1:=h2 hc;subst n1
 go_wp2
 refine bodyPost_ret (hres _ _ 0 (by rfl) ?_) rfl ⟨rfl,?_⟩
 .rw[jP _ (jP _ (jP _ k2))];rfl
 refine hB4.trans ⟨rfl,rfl,rfl,by simp only[jY];exact D1 _,fun j hj=>?_⟩;rw[qM (by omega),qM (by omega),qM (by omega)]
end Go.Proofs
namespace Go.AM
open Go.RowKit Go.Proofs
theorem key81 {rel a:Int} {l:LA} (hl:(a::l).length<=1000000):CallOk Try.prog 81 [.agg [.int .i64 rel,.lst 3 1 none (cL (a::l))]] (.agg [.int .i64 rel,.int .i64 a,.int .i64 (l.headD 0)]):=by
 intro M w vs hG hC hlen hR
 obtain⟨v0,rfl⟩:∃ v0,vs=[v0]:=by
  match vs,hlen with
  | [v0],_=>exact⟨v0,rfl⟩
 have r0:R M (.agg [.int .i64 rel,.lst 3 1 none (cL (a::l))]) v0:=hR 0 _ v0 rfl rfl;obtain⟨us,rfl,hu,hc⟩:=r0.agg_inv
 obtain⟨u0,u1,rfl⟩:∃ u0 u1,us=[u0,u1]:=by
  match us,hu with
  | [u0,u1],_=>exact⟨u0,u1,rfl⟩
 obtain rfl:u0=.int .i64 rel:=(hc 0 _ u0 rfl rfl).int_inv;obtain⟨ad,cap,rfl,hcell⟩:=qbv (hc 1 _ u1 rfl rfl);obtain⟨b,off,rfl,hM⟩:=hcell 0 (by simp);have h0:w.cell? ⟨b,off,none⟩=some (.int .i64 a):=JS (hC _ _ _ (by simpa using hM)) rfl
 have h1:1<(a::l).length->w.cell? ⟨b,off+1,none⟩=some (.int .i64 (l.headD 0)):=fun hlt=>by
  obtain⟨b',off',e,hM'⟩:=hcell 1 hlt;cases e;have:=JS (hC _ _ _ hM') rfl
  cases l with
  | nil=>simp at hlt
  | cons c l=>simpa using this
 have h2:¬ 1<(a::l).length->l.headD 0=0:=fun hn=>by
  cases l with
  | nil=>rfl
  | cons c l=>simp at hn
 refine (Go.Proofs.Try.key81 rel a (l.headD 0) b off cap (a::l).length w h0 h1 h2 (by simp) hl).mono ?_
 rintro e w' ⟨rfl,hB⟩
 refine⟨_,M,rfl,hB,Sub.refl M,qaj hC hB,fun _ _ _=>rfl,?_,trivial⟩
 refine .agg (vs:=[.int .i64 rel,.int .i64 a,.int .i64 (l.headD 0)]) rfl fun j c v hc hv=>?_
 match j,hc,hv with
 | 0,hc,hv=>cases hc;cases hv;exact .int _ _
 | 1,hc,hv=>cases hc;cases hv;exact .int _ _
 | 2,hc,hv=>cases hc;cases hv;exact .int _ _
open Go.Proofs
abbrev I6:Int->AV:=AV.int .i64
abbrev W6:Int->Int:=A1 .i64
abbrev S1 (n:Nat):AV:=.sb 2000000 5 1 0 n
abbrev O1 (l:LA):Nat×AV:=(2000000,.obj 1000000005 1 (A4 (AV.int .u8) l))
abbrev M8 (l:LA):LJ:=A4 (AV.int .u8) l
abbrev M6 (l:LA):LJ:=A4 (AV.int .i64) l
structure apiFact where
 qc:Int
 qa:LA
def l3 (c:LR) (l:LA):AV:=.lst 3 1 c (A4 (AV.int .i64) l)
def qH (x:apiFact):AV:=.agg [.int .i64 x.qc,l3 none x.qa]
structure rf2Atom where
 qc:Int
 qa:LA
def l41 (c:LR) (l:List apiFact):AV:=.lst 41 2 c (A4 qH l)
def qbz (x:rf2Atom):AV:=.agg [.int .i64 x.qc,l3 none x.qa]
structure rf3Lit where
 qw:Bool
 qg:rf2Atom
def UT (x:rf3Lit):AV:=.agg [.bool x.qw,.int .i64 x.qg.qc,l3 none x.qg.qa]
structure rf3Rule where
 qi:rf2Atom
 qe:(List rf3Lit)
def l96 (c:LR) (l:List rf3Lit):AV:=.lst 96 3 c (A4 UT l)
def US (x:rf3Rule):AV:=.agg [.int .i64 x.qi.qc,l3 none x.qi.qa,l96 none x.qe]
structure qo where
 qc:Int
 qa:LA
def l94 (c:LR) (l:List rf3Rule):AV:=.lst 94 3 c (A4 US l)
def YM (x:qo):AV:=.agg [.int .i64 x.qc,l3 none x.qa]
structure ruLit where
 qw:Bool
 qg:qo
def XB (x:ruLit):AV:=.agg [.bool x.qw,.int .i64 x.qg.qc,l3 none x.qg.qa]
structure ruRule where
 qi:qo
 qe:(List ruLit)
def l56 (c:LR) (l:List ruLit):AV:=.lst 56 3 c (A4 XB l)
def Xa (x:ruRule):AV:=.agg [.int .i64 x.qi.qc,l3 none x.qi.qa,l56 none x.qe]
structure Jz where
 f_0:Int
 f_1:Int
def l54 (c:LR) (l:List ruRule):AV:=.lst 54 3 c (A4 Xa l)
def XI (v11:Bool):LD :=
 (some v11)
def DG (a1:apiFact):LD :=
 (bif (decide (a1.qc >= 0)) then (bif (decide (a1.qc<=5)) then (bif (decide ((a1.qa.length:Int) >= 1)) then ((XI) (decide ((a1.qa.length:Int)<=2))) else ((XI) false)) else ((XI) false)) else ((XI) false))
def Uw (N1:LD) (v8:Bool):LD :=
 (bif v8 then (some false) else N1)
def Xv (K3:LD):LA->Nat->LD
 | [],k1=>K3
 | x1::r1,k1=>(bif (decide (x1<1)) then ((Uw (Xv K3 r1 (k1+1))) true) else ((Uw (Xv K3 r1 (k1+1))) (decide (x1 > 6))))
def DW (a1:apiFact):LD :=
 (chk (lenOk a1.qa) (Xv (DG a1) a1.qa 0))
def NY (v30:LA):Ld :=
 (some ((snap 0 (A0 6) v30),0))
def Yn (v30:LA) (K31:Ld):LP->Nat->Ld
 | [],k4=>K31
 | x4::r4,k4=>(chk (decide ((0:Int)<=(k4:Int)/\(k4:Int)<(((A0 6):Nat):Int))) ((v30[(0+A0 (k4:Int))]?).bind fun e36=>(bif (decide (e36 > 5)) then (some ((snap 0 (([]:LA).length) ([]:LA)),8)) else (Yn v30 K31 r4 (k4+1)))))
def DE (v30:LA):Ld :=
 (chk (lenOk (A5 (A0 (((A0 6):Nat):Int)))) (Yn v30 (NY v30) (A5 (A0 (((A0 6):Nat):Int))) 0))
def DC (N1:(LA->Ld)) (v29:LA):Ld :=
 (N1 v29)
def NZ (N2:(LA->Ld)) (v28:LA):Ld :=
 (N2 v28)
def YX (x2:rf3Rule) (v14:LA) (N3:(LA->Ld)) (v22:Int):Ld :=
 (chk (decide ((0:Int)<=x2.qi.qc/\x2.qi.qc<(((A0 6):Nat):Int))) ((v14[(0+A0 x2.qi.qc)]?).bind fun e24=>(chk (decide ((0:Int)<=x2.qi.qc/\x2.qi.qc<(((A0 6):Nat):Int))) ((upd v14 (0+A0 x2.qi.qc) (if v22 > e24 then v22 else e24)).bind fun u26=>(N3 u26)))))
def QP (x2:rf3Rule) (K11:(LA->Ld)):List rf3Lit->Nat->LA->Ld
 | [],k3,v14=>(K11 v14)
 | x3::r3,k3,v14=>(chk (decide ((0:Int)<=x3.qg.qc/\x3.qg.qc<(((A0 6):Nat):Int))) ((v14[(0+A0 x3.qg.qc)]?).bind fun e19=>(bif x3.qw then ((YX x2 v14 (QP x2 K11 r3 (k3+1))) (A1 .i64 (e19+1))) else ((YX x2 v14 (QP x2 K11 r3 (k3+1))) e19))))
def Yo (K8:(LA->Ld)):List rf3Rule->Nat->LA->Ld
 | [],k2,v10=>(K8 v10)
 | x2::r2,k2,v10=>(chk (lenOk x2.qe) (QP x2 (NZ (Yo K8 r2 (k2+1))) x2.qe 0 v10))
def Yp (a1:(List rf3Rule)) (K5:(LA->Ld)):LP->Nat->LA->Ld
 | [],k1,v7=>(K5 v7)
 | x1::r1,k1,v7=>(chk (lenOk a1) (Yo (DC (Yp a1 K5 r1 (k1+1))) a1 0 v7))
def VH (a1:(List rf3Rule)):Ld :=
 (chk (mkOk 8 6) (chk (lenOk (A5 (A0 60))) (Yp a1 (DE) (A5 (A0 60)) 0 (A3 (A0 6) 0))))
def QW (a1:Int) (a2:LA):LY :=
 (bif ((a2.length:Int) == 1) then ((idx a2 0).bind fun e7=>(some (A1 .i64 ((A1 .i64 ((A1 .i64 (a1 * 42))+e7)) - 1)))) else ((idx a2 0).bind fun e9=>((idx a2 1).bind fun e10=>(some (A1 .i64 ((A1 .i64 ((A1 .i64 ((A1 .i64 (a1 * 42))+(A1 .i64 (e9 * 6))))+e10)) - 1))))))
def qbn (v12:LM):Ln :=
 (chk (decide (v12.length=252)) (chk (decide (v12.length=252/\(A3 252 false).length=252)) (chk (decide (v12.length=252)) (some v12))))
def UK (K4:(LM->Ln)):List apiFact->Nat->LM->Ln
 | [],k1,v6=>(K4 v6)
 | x1::r1,k1,v6=>((QW x1.qc x1.qa).bind fun w9=>(chk (decide ((0:Int)<=w9/\w9<((252:Nat):Int)/\0<1)) (chk (decide ((0+A0 w9 * 1)<v6.length)) ((UK K4 r1 (k1+1)) (v6.set (0+A0 w9 * 1) true)))))
def qfs (a1:(List apiFact)):Ln :=
 (chk (lenOk a1) (UK (qbn) a1 0 (A3 252 false)))
def qcK (a1:Int):Option apiFact :=
 (bif (decide (((a1).tmod 42) >= 6)) then (some (apiFact.mk (A1 .i64 ((a1).tdiv 42)) [(A1 .i64 ((((a1).tmod 42)).tdiv 6)),(A1 .i64 (((((a1).tmod 42)).tmod 6)+1))])) else (some (apiFact.mk (A1 .i64 ((a1).tdiv 42)) [(A1 .i64 (((a1).tmod 42)+1))])))
def YW (v65:Li):La :=
 (some v65)
def Ju (N1:(Li->La)) (v64:Li):La :=
 (N1 v64)
def XA (a1:rf3Rule) (a2:LM) (a3:Int) (v25:Li) (K0:(rf3Rule->LM->Int->LA->La)) (K26:(Li->La)) (v57:LA) (v58:Bool):La :=
 (bif v58 then (chk (decide (a2.length=252)) (chk (decide (v57.length=8)) ((K0 a1 a2 (A1 .i64 (a3+1)) v57).bind fun w62=>(chk (capOk 64 ((v25++w62)).length) (K26 (v25++w62)))))) else (K26 v25))
def Js (N2:(LA->Bool->La)) (v55:LA) (v56:Bool):La :=
 (N2 v55 v56)
def qK (w31:apiFact) (K38:(LA->Bool->La)):LA->Nat->LA->Bool->La
 | [],k2,v40,v41=>(K38 v40 v41)
 | x2::r2,k2,v40,v41=>(bif (decide (x2<0)) then (bif v41 then ((idx w31.qa (k2:Int)).bind fun e45=>((Js (qK w31 K38 r2 (k2+1))) v40 (e45 == (A1 .i64 (0 - x2))))) else ((Js (qK w31 K38 r2 (k2+1))) v40 false)) else (chk (decide ((0:Int)<=x2/\x2<((8:Nat):Int)/\0<1)) ((v40[(0+A0 x2 * 1)]?).bind fun e48=>(bif (e48 != 0) then (bif v41 then ((idx w31.qa (k2:Int)).bind fun e49=>(chk (decide ((0:Int)<=x2/\x2<((8:Nat):Int)/\0<1)) ((v40[(0+A0 x2 * 1)]?).bind fun e51=>((Js (qK w31 K38 r2 (k2+1))) v40 (e49 == e51))))) else ((Js (qK w31 K38 r2 (k2+1))) v40 false)) else ((idx w31.qa (k2:Int)).bind fun e52=>(chk (decide ((0:Int)<=x2/\x2<((8:Nat):Int)/\0<1)) (chk (decide ((0+A0 x2 * 1)<v40.length)) ((Js (qK w31 K38 r2 (k2+1))) (v40.set (0+A0 x2 * 1) e52) v41))))))))
def Jt (a1:rf3Rule) (a2:LM) (a3:Int) (a4:LA) (e14:rf3Lit) (v25:Li) (w31:apiFact) (K0:(rf3Rule->LM->Int->LA->La)) (K26:(Li->La)) (v34:Bool):La :=
 (bif v34 then (K26 v25) else (chk (decide (a4.length=8)) (chk (decide (a4.length=8/\(A3 8 0).length=8)) (chk (lenOk e14.qg.qa) (qK w31 (XA a1 a2 a3 v25 K0 K26) e14.qg.qa 0 a4 true)))))
def jL (a1:rf3Rule) (a2:LM) (a3:Int) (a4:LA) (e14:rf3Lit) (K0:(rf3Rule->LM->Int->LA->La)) (K22:(Li->La)):LP->Nat->Li->La
 | [],k1,v25=>(K22 v25)
 | x1::r1,k1,v25=>(chk (decide ((0:Int)<=(k1:Int)/\(k1:Int)<((252:Nat):Int))) ((a2[A0 (k1:Int) * 1]?).bind fun e29=>((qcK (k1:Int)).bind fun w31=>(bif (!e29) then ((Jt a1 a2 a3 a4 e14 v25 w31 K0 (Ju (jL a1 a2 a3 a4 e14 K0 K22 r1 (k1+1)))) true) else (bif (w31.qc != e14.qg.qc) then ((Jt a1 a2 a3 a4 e14 v25 w31 K0 (Ju (jL a1 a2 a3 a4 e14 K0 K22 r1 (k1+1)))) true) else ((Jt a1 a2 a3 a4 e14 v25 w31 K0 (Ju (jL a1 a2 a3 a4 e14 K0 K22 r1 (k1+1)))) ((w31.qa.length:Int) != (e14.qg.qa.length:Int))))))))
def jV:Nat->rf3Rule->LM->Int->LA->La
 | 0,_,_,_,_=>none
 | fuel+1,a1,a2,a3,a4=>(chk (!a2.isEmpty) (chk (!a4.isEmpty) (bif (a3 == (a1.qe.length:Int)) then (chk (decide (a4.length=8)) (chk (decide (a4.length=8)) (some [a4]))) else ((idx a1.qe a3).bind fun e14=>(bif e14.qw then (chk (decide (a2.length=252)) (chk (decide (a4.length=8)) (((jV fuel) a1 a2 (A1 .i64 (a3+1)) a4).bind fun w20=>(some w20)))) else (chk (decide (a2.length=252)) (chk (lenOk (A5 (A0 252))) (jL a1 a2 a3 a4 e14 (jV fuel) (YW) (A5 (A0 252)) 0 ([]:Li)))))))))
def qay (a1:rf2Atom) (v17:LA):LY :=
 ((QW a1.qc v17).bind fun w19=>(some w19))
def Nm (N1:(LA->LY)) (v16:LA):LY :=
 (N1 v16)
def XY (a2:LA) (K6:(LA->LY)):LA->Nat->LA->LY
 | [],k1,v8=>(K6 v8)
 | x1::r1,k1,v8=>(bif (decide (x1<0)) then (chk (capOk 8 ((v8++[(A1 .i64 (0 - x1))])).length) ((Nm (XY a2 K6 r1 (k1+1))) (v8++[(A1 .i64 (0 - x1))]))) else (chk (decide ((0:Int)<=x1/\x1<((8:Nat):Int)/\0<1)) ((a2[(0+A0 x1 * 1)]?).bind fun e14=>(chk (capOk 8 ((v8++[e14])).length) ((Nm (XY a2 K6 r1 (k1+1))) (v8++[e14]))))))
def XZ (a1:rf2Atom) (a2:LA):LY :=
 (chk (!a2.isEmpty) (chk (lenOk a1.qa) (XY a2 (qay a1) a1.qa 0 ([]:LA))))
def qbK:LD :=
 (some true)
def Nn (N1:LD) (v16:Bool):LD :=
 (bif v16 then (some false) else N1)
def YJ (a2:LA) (a3:LM) (K7:LD):List rf3Lit->Nat->LD
 | [],k1=>K7
 | x1::r1,k1=>(bif x1.qw then (chk (decide (a2.length=8)) ((XZ x1.qg a2).bind fun w13=>(chk (decide ((0:Int)<=w13/\w13<((252:Nat):Int)/\0<1)) ((a3[(0+A0 w13 * 1)]?).bind fun e15=>((Nn (YJ a2 a3 K7 r1 (k1+1))) e15))))) else ((Nn (YJ a2 a3 K7 r1 (k1+1))) false))
def NX (a1:rf3Rule) (a2:LA) (a3:LM):LD :=
 (chk (!a2.isEmpty) (chk (!a3.isEmpty) (chk (lenOk a1.qe) (YJ a2 a3 (qbK) a1.qe 0))))
def Yk (v45:LM):Ln :=
 (chk (decide (v45.length=252)) (chk (decide (v45.length=252/\(A3 252 false).length=252)) (chk (decide (v45.length=252)) (some v45))))
def XL (N2:(LM->Bool->Ln)) (v43:LM) (v44:Bool):Ln :=
 (N2 v43 v44)
def XK (N3:(LM->Bool->Ln)) (v41:LM) (v42:Bool):Ln :=
 (N3 v41 v42)
def XJ (v22:LM) (v23:Bool) (w30:Int) (K24:(LM->Bool->Ln)) (v37:Bool):Ln :=
 (bif v37 then (chk (decide ((0:Int)<=w30/\w30<((252:Nat):Int)/\0<1)) (chk (decide ((0+A0 w30 * 1)<v22.length)) (K24 (v22.set (0+A0 w30 * 1) true) true))) else (K24 v22 v23))
def JB (x2:rf3Rule) (a3:LM) (K17:(LM->Bool->Ln)):Li->Nat->LM->Bool->Ln
 | [],k3,v22,v23=>(K17 v22 v23)
 | x3::r3,k3,v22,v23=>(chk (decide (x3.length=8)) (chk (decide (x3.length=8/\(A3 8 0).length=8)) (chk (decide (x3.length=8)) ((XZ x2.qi x3).bind fun w30=>(chk (decide (x3.length=8)) (chk (decide (a3.length=252)) ((NX x2 x3 a3).bind fun w34=>(bif w34 then (chk (decide ((0:Int)<=w30/\w30<((252:Nat):Int)/\0<1)) ((v22[(0+A0 w30 * 1)]?).bind fun e36=>((XJ v22 v23 w30 (XK (JB x2 a3 K17 r3 (k3+1)))) (!e36)))) else ((XJ v22 v23 w30 (XK (JB x2 a3 K17 r3 (k3+1)))) false)))))))))
def JC (fuel:Nat) (a3:LM) (N1:(LM->Bool->Ln)):List rf3Rule->Nat->LM->Bool->Ln
 | [],k2,v15,v16=>(N1 v15 v16)
 | x2::r2,k2,v15,v16=>(chk (decide (v15.length=252)) ((jV fuel x2 v15 0 (A3 8 0)).bind fun w21=>(chk (lenOk w21) (JB x2 a3 (XL (JC fuel a3 N1 r2 (k2+1))) w21 0 v15 v16))))
def JD (fuel:Nat) (a1:(List rf3Rule)) (a3:LM) (K7:(LM->Ln)):Nat->LM->Bool->Ln
 | 0,_,_=>none
 | m1+1,v9,v10=>(bif v10 then (chk (lenOk a1) (JC fuel a3 (JD fuel a1 a3 K7 m1) a1 0 v9 false)) else (K7 v9))
def QX (fuel:Nat) (a1:(List rf3Rule)) (a2:LM) (a3:LM):Ln :=
 (chk (!a2.isEmpty) (chk (!a3.isEmpty) (JD fuel a1 a3 (Yk) fuel a2 true)))
def ZE (v34:LM):Lp :=
 (chk (decide (v34.length=252)) (chk (decide (v34.length=252/\(A3 252 false).length=252)) (chk (decide (v34.length=252)) (some (v34,0)))))
def Us (fuel:Nat) (v16:LM) (N1:(LM->Lp)) (v29:(List rf3Rule)):Lp :=
 (chk (decide (v16.length=252)) (chk (decide (v16.length=252)) ((QX fuel v29 v16 v16).bind fun w32=>(chk (decide (w32.length=252/\v16.length=252)) (N1 w32)))))
def Ur (N2:((List rf3Rule)->Lp)) (v28:(List rf3Rule)):Lp :=
 (N2 v28)
def Ya (k1:Nat) (w5:(LA×Int)) (K20:((List rf3Rule)->Lp)):List rf3Rule->Nat->(List rf3Rule)->Lp
 | [],k2,v22=>(K20 v22)
 | x2::r2,k2,v22=>((idx w5.1 x2.qi.qc).bind fun e26=>(bif (e26 == (k1:Int)) then (chk (capOk 56 ((v22++[x2])).length) ((Ur (Ya k1 w5 K20 r2 (k2+1))) (v22++[x2]))) else ((Ur (Ya k1 w5 K20 r2 (k2+1))) v22)))
def Xm (fuel:Nat) (a1:(List rf3Rule)) (w5:(LA×Int)) (K14:(LM->Lp)):LP->Nat->LM->Lp
 | [],k1,v16=>(K14 v16)
 | x1::r1,k1,v16=>(chk (lenOk a1) (Ya k1 w5 (Us fuel v16 (Xm fuel a1 w5 K14 r1 (k1+1))) a1 0 ([]:(List rf3Rule))))
def De (fuel:Nat) (a1:(List rf3Rule)) (a2:(List apiFact)):Lp :=
 ((VH a1).bind fun w5=>((qfs a2).bind fun w7=>(chk (decide (w7.length=252/\(A3 252 false).length=252)) (bif (w5.2 != 0) then (chk (decide ((A3 252 false).length=252/\(A3 252 false).length=252)) (chk (decide ((A3 252 false).length=252)) (some ((A3 252 false),w5.2)))) else (chk (lenOk (A5 (A0 6))) (Xm fuel a1 w5 (ZE) (A5 (A0 6)) 0 w7))))))
def Qe (a1:LA):Option LA:=chk (capOk 8 a1.length) (some a1)
theorem Zj (a1:LA) (r:LA) (h:Qe a1=some r):Run Try.prog (.call 70 [l3 none a1] (l3 (some 1) r)):=by
 refine cW Try.func70 rfl (env0:=[(0,l3 none a1)]) ?_;unfold Qe at h;obtain⟨hc,h⟩:=qm h;cases h;refine W.regS [0] [] [] [] (e2:=[(0,l3 none a1)]) kR kR<|W.seqU (e0:=[(0,l3 none a1),(3,l3 none a1),(4,.ub (M6 a1).isEmpty)]) (e2:=[(2,l3 (some 1) a1)]) (ei:=[(0,l3 none a1)]) (M6 a1).isEmpty ?_ kR (fun hp=>?_) ?_ ?_ ?_
 .exact W.region kR (WO.end0 (e2:=[(0,l3 none a1),(3,l3 none a1),(4,.ub (M6 a1).isEmpty)]) kR ⟨rfl,rfl⟩)
 .have hl:a1=[]:=by simpa using hp
  subst hl;refine W.regS [2] [] [] [] (e2:=[(2,.nils)]) kR kR<|W.weak [2] [] [(2,0,3,1,1)] [] (env':=[(2,l3 (some 1) [])]) kR ?_;exact W.ret ⟨rfl,rfl⟩
 .refine W.weak [0] [] [] [] (env':=[(0,l3 none a1)]) kR ?_;exact W.skip ⟨rfl,rfl⟩
 .refine W.sr<|WO.appendK 2 (d:=7) (e:=3) (s:=1) (bytes:=8) (xs:=[]) (ys:=(M6 a1)) (zs:=(M6 a1)) (env1:=[(0,l3 none a1),(5,.lst 3 1 none []),(6,l3 none a1)]) kR rfl (by rw[D2];exact hc) (e1:=[(0,l3 none a1),(5,.lst 3 1 none []),(6,l3 none a1),(7,l3 (some 7) a1)]) kR ?_;refine WO.fin [2] [] [] [(7,some 1)] (e2:=[(2,l3 (some 1) a1)]) kR (fun _ h=>h) ?_;exact W.ret ⟨rfl,rfl⟩
 have hr:jX Try.prog Try.f70 [(2,l3 (some 1) a1)]=some (l3 (some 1) a1):=by kernel_rfl
 exact hr
def UN (a1:rf2Atom):Option qo :=
 ((sub a1.qa 0 (if 5<(a1.qa.length:Int) then 5 else (a1.qa.length:Int))).bind fun e4=>((Qe e4).bind fun w5=>(some (qo.mk a1.qc w5))))
theorem qax (a1:rf2Atom) (r:qo) (h:UN a1=some r):Run Try.prog (.call 59 [.agg [I6 a1.qc,l3 none a1.qa]] (.agg [I6 r.qc,l3 none r.qa])):=by
 refine cW Try.func59 rfl (env0:=[(0,.agg [I6 a1.qc,l3 none a1.qa])]) ?_;unfold UN at h;refine W.seq<|W.rT [1,2] [1] (e2:=[(1,.ptr (.agg [I6 a1.qc,l3 none a1.qa])),(2,.box [.int .i64 0,.nils])]) ?_;refine W.sr<|WO.pq 6 (jM (.int .i64) a1.qa) ?_;obtain⟨e4,he4,h⟩:=qb h;refine WO.pk 1 (if (0:Int)<=0/\0<=(if 5<(a1.qa.length:Int) then 5 else (a1.qa.length:Int))/\(if 5<(a1.qa.length:Int) then 5 else (a1.qa.length:Int))<=((M6 a1.qa).length:Int) then some (.lst 3 1 none (((M6 a1.qa).take (A0 (if 5<(a1.qa.length:Int) then 5 else (a1.qa.length:Int)))).drop (A0 0))) else none) (qhw he4) ?_;obtain⟨w5,hw5,h⟩:=qb h;refine WO.ck 0 (F:=70) (l:=[l3 none e4]) (C:=[]) (r:=l3 (some 1) w5) (Zj e4 w5 hw5)<|WO.fn (e2:=[(2,.box [I6 a1.qc,l3 none w5])]) ?_;refine W.wk (e:=[(2,.box [I6 a1.qc,l3 none w5])]) ?_;cases h;exact W.rr
def Yf (v26:(List ruRule)):Option (List ruRule) :=
 (some v26)
def YC (v6:(List ruRule)) (N1:((List ruRule)->Option (List ruRule))) (v24:ruRule):Option (List ruRule) :=
 (chk (capOk 56 ((v6++[v24])).length) (N1 (v6++[v24])))
def Zp (v15:Int) (v16:LA) (N2:(Int->LA->(List ruLit)->Option (List ruRule))) (v23:(List ruLit)):Option (List ruRule) :=
 (N2 v15 v16 v23)
def Qz (K13:(ruRule->Option (List ruRule))):List rf3Lit->Nat->Int->LA->(List ruLit)->Option (List ruRule)
 | [],k2,v15,v16,v17=>(K13 (ruRule.mk (qo.mk v15 v16) v17))
 | x2::r2,k2,v15,v16,v17=>(bif (decide ((k2:Int)<5)) then ((UN x2.qg).bind fun w21=>(chk (capOk 40 ((v17++[(ruLit.mk x2.qw w21)])).length) ((Zp v15 v16 (Qz K13 r2 (k2+1))) (v17++[(ruLit.mk x2.qw w21)])))) else ((Zp v15 v16 (Qz K13 r2 (k2+1))) v17))
def Qp (K4:((List ruRule)->Option (List ruRule))):List rf3Rule->Nat->(List ruRule)->Option (List ruRule)
 | [],k1,v6=>(K4 v6)
 | x1::r1,k1,v6=>(bif (decide ((k1:Int) > 11)) then (K4 v6) else ((UN x1.qi).bind fun w12=>(chk (lenOk x1.qe) (Qz (YC v6 (Qp K4 r1 (k1+1))) x1.qe 0 w12.qc w12.qa ([]:(List ruLit))))))
def Ns (a1:(List rf3Rule)):Option (List ruRule) :=
 (chk (lenOk a1) (Qp (Yf) a1 0 ([]:(List ruRule))))
theorem VF (a1:(List rf3Rule)) (r:(List ruRule)) (h:Ns a1=some r):Run Try.prog (.call 18 [l94 none a1] (l54 (some 1) r)):=by
 refine cW Try.func18 rfl (env0:=[(0,l94 none a1)]) ?_;unfold Ns at h;refine W.seq<|W.rt (e2:=[(0,l94 none a1)]) ?_;refine W.seq<|W.rt (e2:=[(0,l94 none a1),(3,.nils)]) ?_;refine W.seq<|W.join (σ:=((List ruRule))) (fun s=>[(3,l54 (some 10300) s)]) (fun s=>(Yf) s=some r) (fun v26 h=>?_) (fun hK4=>?_)
 .unfold Yf at h;refine W.seq<|W.rt (e2:=[(2,l54 (some 10300) v26)]) ?_;refine W.weak [2] [] [] [(10300,some 1)] (env':=[(2,l54 (some 1) v26)]) kR ?_;cases h;exact W.rr
 refine W.sr<|WO.pq 1 (jM US a1)<|WO.fn (e2:=[(3,.nils),(9,l94 none a1),(10,I6 (a1.length:Int)),(11,.int .i64 0)]) ?_;refine W.block ?_;obtain⟨hl1,h⟩:=qm h;refine W.weak [3,9,10,11] [] [(3,0,54,3,10300)] [] (env':=[(3,l54 (some 10300) ([]:(List ruRule))),(9,l94 none a1),(10,I6 (a1.length:Int)),(11,I6 ((0:Nat):Int))]) kR<|W.range (σ:=((List ruRule))) a1 (fun k1 s=>[(3,l54 (some 10300) s),(9,l94 none a1),(10,I6 (a1.length:Int)),(11,I6 (k1:Int))]) (fun r0 k0 s=>Qp (Yf) r0 k0 s=some r) (fun v6 h=>?_) (fun x1 r1 k1 s hx1 hk1 h hN1=>?_) ([]:(List ruRule)) h
 .rw[Qp.eq_1]at h;refine W.sr<|WO.pq 0 (jB (ja (l:=a1)))<|WO.fn (e2:=[(3,l54 (some 10300) v6),(9,l94 none a1),(10,I6 (a1.length:Int)),(11,I6 ((a1).length:Int)),(12,.bool false)]) ?_;exact W.seq<|W.cF<|W.exit<|W.wk (hK4 v6 h)
 obtain⟨v6,rfl⟩:∃ x,x=s:=⟨s,rfl⟩;rw[Qp.eq_2]at h;refine W.sr<|WO.pq 0 (jB (jy hk1)) ?_;let z0:=fun t=>EN ((3,l54 (some 10300) v6)::t);refine WO.fn (e2:=z0 [(9,l94 none a1),(10,I6 (a1.length:Int)),(11,I6 (k1:Int)),(12,.bool true)]) ?_;refine W.seq<|W.cT ?_;let y0:Env:=[(9,l94 none a1),(10,I6 (a1.length:Int)),(11,I6 (k1:Int))];refine W.sw (e:=z0 y0) ?_;refine W.seq<|W.block<|W.sr<|WO.pq 1 (jA (f:=US) hx1) ?_;let y1:Env:=(5,.ptr (.agg [I6 x1.qi.qc,l3 none x1.qi.qa,l96 none x1.qe]))::y0;refine WO.fi [3,4,5,9,10,11] [5] (e2:=z0 ((4,I6 (k1:Int))::y1)) ?_;refine W.seq<|W.seq ?_;let z1:=fun t=>z0 ((5,.ptr (.agg [I6 x1.qi.qc,l3 none x1.qi.qa,l96 none x1.qe]))::t);refine W.rt (e2:=z1 [(9,l94 none a1),(10,I6 (a1.length:Int)),(11,I6 (k1:Int)),(17,.bool (decide ((k1:Int) > 11)))]) ?_;refine W.ch (decide ((k1:Int) > 11)) h (fun h=>?_) (fun h=>?_)
 .exact W.exit<|W.wk (hK4 v6 h)
 refine W.sw (e:=z0 y1) ?_;refine W.sr ?_;obtain⟨w12,hw12,h⟩:=qb h;refine WO.ck 2 (F:=59) (l:=[.agg [I6 x1.qi.qc,l3 none x1.qi.qa]]) (C:=[]) (r:=.agg [I6 w12.qc,l3 none w12.qa]) (qax x1.qi w12 hw12)<|WO.fn (e2:=z1 ((6,.box [I6 w12.qc,l3 none w12.qa,.nils])::y0)) ?_;refine W.seq<|W.join (σ:=(ruRule)) (fun s=>z0 ((6,.ptr (.agg [I6 s.qi.qc,l3 none s.qi.qa,l56 none s.qe]))::y0)) (fun s=>(YC v6 (Qp (Yf) r1 (k1+1))) s=some r) (fun v24 h=>?_) (fun hK13=>?_)
 .unfold YC at h;refine W.rg ?_;obtain⟨hc25,h⟩:=qm h;refine WO.ak 3 47 54 3 Xa v6 [v24] hc25<|WO.fn (e2:=((3,l54 (some 47) (v6++[v24]))::y0)) ?_;refine W.rg<|WO.pq 0 (jI (qN hl1 hk1))<|WO.fin [3,9,10,11] [] [] [(47,some 10300)] (e2:=[(3,l54 (some 10300) (v6++[v24])),(9,l94 none a1),(10,I6 (a1.length:Int)),(11,I6 ((k1+1:Nat):Int))]) kR (fun _ h=>h) ?_;exact hN1 (v6++[v24]) h
 refine W.sr<|WO.pq 2 (jM UT x1.qe)<|WO.fn (e2:=z0 [(6,.box [I6 w12.qc,l3 none w12.qa,.nils]),(9,l94 none a1),(10,I6 (a1.length:Int)),(11,I6 (k1:Int)),(23,l96 none x1.qe),(24,I6 (x1.qe.length:Int)),(25,.int .i64 0)]) ?_;refine W.block ?_;obtain⟨hl2,h⟩:=qm h;refine W.weak [3,6,9,10,11,23,24,25] [] [(6,2,56,3,10602)] [] (env':=z0 [(6,.box [I6 w12.qc,l3 none w12.qa,l56 (some 10602) ([]:(List ruLit))]),(9,l94 none a1),(10,I6 (a1.length:Int)),(11,I6 (k1:Int)),(23,l96 none x1.qe),(24,I6 (x1.qe.length:Int)),(25,I6 ((0:Nat):Int))]) kR<|W.range (σ:=(Int×LA×(List ruLit))) x1.qe (fun k2 s=>z0 [(6,.box [I6 s.1,l3 none s.2.1,l56 (some 10602) s.2.2]),(9,l94 none a1),(10,I6 (a1.length:Int)),(11,I6 (k1:Int)),(23,l96 none x1.qe),(24,I6 (x1.qe.length:Int)),(25,I6 (k2:Int))]) (fun r0 k0 s=>Qz (YC v6 (Qp (Yf) r1 (k1+1))) r0 k0 s.1 s.2.1 s.2.2=some r) (fun s h=>?_) (fun x2 r2 k2 s hx2 hk2 h hN2=>?_) (w12.qc,w12.qa,([]:(List ruLit))) h
 .obtain⟨v15,v16,v17⟩:=s;have h:Qz (YC v6 (Qp (Yf) r1 (k1+1))) [] (x1.qe).length v15 v16 v17=some r:=h;rw[Qz.eq_1]at h;refine W.sr<|WO.pq 0 (jB (ja (l:=x1.qe)))<|WO.fn (e2:=z0 [(6,.box [I6 v15,l3 none v16,l56 (some 10602) v17]),(9,l94 none a1),(10,I6 (a1.length:Int)),(11,I6 (k1:Int)),(23,l96 none x1.qe),(24,I6 (x1.qe.length:Int)),(25,I6 ((x1.qe).length:Int)),(26,.bool false)]) ?_;refine W.seq<|W.cF<|W.exit<|W.weak [3,6,9,10,11] [6] [] [] (env':=z0 ((6,.ptr (.agg [I6 (ruRule.mk (qo.mk v15 v16) v17).qi.qc,l3 none (ruRule.mk (qo.mk v15 v16) v17).qi.qa,l56 none (ruRule.mk (qo.mk v15 v16) v17).qe]))::y0)) kR ?_;exact hK13 (ruRule.mk (qo.mk v15 v16) v17) h
 obtain⟨v15,v16,v17⟩:=s;have h:Qz (YC v6 (Qp (Yf) r1 (k1+1))) (x2::r2) k2 v15 v16 v17=some r:=h;rw[Qz.eq_2]at h;refine W.sr<|WO.pq 0 (jB (jy hk2)) ?_;let z2:=fun t=>z0 ((6,.box [I6 v15,l3 none v16,l56 (some 10602) v17])::t);refine WO.fn (e2:=z2 [(9,l94 none a1),(10,I6 (a1.length:Int)),(11,I6 (k1:Int)),(23,l96 none x1.qe),(24,I6 (x1.qe.length:Int)),(25,I6 (k2:Int)),(26,.bool true)]) ?_;refine W.seq<|W.cT ?_;let y2:Env:=[(9,l94 none a1),(10,I6 (a1.length:Int)),(11,I6 (k1:Int)),(23,l96 none x1.qe),(24,I6 (x1.qe.length:Int)),(25,I6 (k2:Int))];refine W.sw (e:=z2 y2) ?_;refine W.seq<|W.join (σ:=((List ruLit))) (fun s=>z0 ((6,.box [I6 v15,l3 none v16,l56 (some 10602) s])::y2)) (fun s=>(Zp v15 v16 (Qz (YC v6 (Qp (Yf) r1 (k1+1))) r2 (k2+1))) s=some r) (fun v23 h=>?_) (fun hK18=>?_)
 .unfold Zp at h;exact W.rg<|WO.pq 0 (jI (qN hl2 hk2))<|WO.fn (hN2 (v15,v16,v23) h)
 refine W.block<|W.sr<|WO.pq 1 (jA (f:=UT) hx2)<|WO.fi [3,6,7,8,9,10,11,23,24,25] [8] (e2:=z2 ((7,I6 (k2:Int))::(8,.ptr (.agg [.bool x2.qw,I6 x2.qg.qc,l3 none x2.qg.qa]))::y2)) ?_;refine W.seq<|W.rt (e2:=z2 [(8,.ptr (.agg [.bool x2.qw,I6 x2.qg.qc,l3 none x2.qg.qa])),(9,l94 none a1),(10,I6 (a1.length:Int)),(11,I6 (k1:Int)),(23,l96 none x1.qe),(24,I6 (x1.qe.length:Int)),(25,I6 (k2:Int)),(31,.bool (decide ((k2:Int)<5)))]) ?_;refine W.ch (decide ((k2:Int)<5)) h (fun h=>?_) (fun h=>?_)
 .refine W.rg ?_;obtain⟨w21,hw21,h⟩:=qb h;refine WO.ck 6 (F:=59) (l:=[.agg [I6 x2.qg.qc,l3 none x2.qg.qa]]) (C:=[]) (r:=.agg [I6 w21.qc,l3 none w21.qa]) (qax x2.qg w21 hw21) ?_;obtain⟨hc22,h⟩:=qm h;refine WO.ak 2 41 56 3 XB v17 [(ruLit.mk x2.qw w21)] hc22<|WO.fin [3,6,9,10,11,23,24,25] [] [] [(41,some 10602)] (e2:=z0 ((6,.box [I6 v15,l3 none v16,l56 (some 10602) (v17++[(ruLit.mk x2.qw w21)])])::y2)) kR (fun _ h=>h) ?_;exact hK18 (v17++[(ruLit.mk x2.qw w21)]) h
 exact W.sw (hK18 v17 h)
def qaE (a1:LA):Option LA :=
 ((sub a1 0 (if 9<(a1.length:Int) then 9 else (a1.length:Int))).bind fun e4=>((Qe e4).bind fun w5=>(some w5)))
theorem qgb (a1:LA) (r:LA) (h:qaE a1=some r):Run Try.prog (.call 60 [l3 none a1] (l3 (some 1) r)):=by
 refine cW Try.func60 rfl (env0:=[(0,l3 none a1)]) ?_;unfold qaE at h;refine W.seq<|W.rt (e2:=[(0,l3 none a1)]) ?_;refine W.sr<|WO.pq 2 (jM (.int .i64) a1) ?_;obtain⟨e4,he4,h⟩:=qb h;refine WO.pk 1 (if (0:Int)<=0/\0<=(if 9<(a1.length:Int) then 9 else (a1.length:Int))/\(if 9<(a1.length:Int) then 9 else (a1.length:Int))<=((M6 a1).length:Int) then some (.lst 3 1 none (((M6 a1).take (A0 (if 9<(a1.length:Int) then 9 else (a1.length:Int)))).drop (A0 0))) else none) (qhw he4) ?_;obtain⟨w5,hw5,h⟩:=qb h;refine WO.ck 0 (F:=70) (l:=[l3 none e4]) (C:=[]) (r:=l3 (some 1) w5) (Zj e4 w5 hw5)<|WO.fn (e2:=[(2,l3 (some 8) w5)]) ?_;refine W.weak [2] [] [] [(8,some 1)] (env':=[(2,l3 (some 1) w5)]) kR ?_;cases h;exact W.rr
def Vl (v13:(List apiFact)):Option (List apiFact) :=
 (some v13)
def QJ (K4:((List apiFact)->Option (List apiFact))):List apiFact->Nat->(List apiFact)->Option (List apiFact)
 | [],k1,v6=>(K4 v6)
 | x1::r1,k1,v6=>(bif (decide ((k1:Int) > 25)) then (K4 v6) else ((qaE x1.qa).bind fun w11=>(chk (capOk 32 ((v6++[(apiFact.mk x1.qc w11)])).length) ((QJ K4 r1 (k1+1)) (v6++[(apiFact.mk x1.qc w11)])))))
def Yg (a1:(List apiFact)):Option (List apiFact) :=
 (chk (lenOk a1) (QJ (Vl) a1 0 ([]:(List apiFact))))
theorem Yl (a1:(List apiFact)) (r:(List apiFact)) (h:Yg a1=some r):Run Try.prog (.call 19 [l41 none a1] (l41 (some 1) r)):=by
 refine cW Try.func19 rfl (env0:=[(0,l41 none a1)]) ?_;unfold Yg at h;refine W.seq<|W.rt (e2:=[(0,l41 none a1)]) ?_;refine W.seq<|W.rt (e2:=[(0,l41 none a1),(3,.nils)]) ?_;refine W.seq<|W.join (σ:=((List apiFact))) (fun s=>[(3,l41 (some 10300) s)]) (fun s=>(Vl) s=some r) (fun v13 h=>?_) (fun hK4=>?_)
 .unfold Vl at h;refine W.seq<|W.rt (e2:=[(2,l41 (some 10300) v13)]) ?_;refine W.weak [2] [] [] [(10300,some 1)] (env':=[(2,l41 (some 1) v13)]) kR ?_;cases h;exact W.rr
 refine W.sr<|WO.pq 1 (jM qH a1)<|WO.fn (e2:=[(3,.nils),(6,l41 none a1),(7,I6 (a1.length:Int)),(8,.int .i64 0)]) ?_;refine W.block ?_;obtain⟨hl1,h⟩:=qm h;refine W.weak [3,6,7,8] [] [(3,0,41,2,10300)] [] (env':=[(3,l41 (some 10300) ([]:(List apiFact))),(6,l41 none a1),(7,I6 (a1.length:Int)),(8,I6 ((0:Nat):Int))]) kR<|W.range (σ:=((List apiFact))) a1 (fun k1 s=>[(3,l41 (some 10300) s),(6,l41 none a1),(7,I6 (a1.length:Int)),(8,I6 (k1:Int))]) (fun r0 k0 s=>QJ (Vl) r0 k0 s=some r) (fun v6 h=>?_) (fun x1 r1 k1 s hx1 hk1 h hN1=>?_) ([]:(List apiFact)) h
 .rw[QJ.eq_1]at h;refine W.sr<|WO.pq 0 (jB (ja (l:=a1)))<|WO.fn (e2:=[(3,l41 (some 10300) v6),(6,l41 none a1),(7,I6 (a1.length:Int)),(8,I6 ((a1).length:Int)),(9,.bool false)]) ?_;exact W.seq<|W.cF<|W.exit<|W.wk (hK4 v6 h)
 obtain⟨v6,rfl⟩:∃ x,x=s:=⟨s,rfl⟩;rw[QJ.eq_2]at h;refine W.sr<|WO.pq 0 (jB (jy hk1)) ?_;let z0:=fun t=>EN ((3,l41 (some 10300) v6)::t);refine WO.fn (e2:=z0 [(6,l41 none a1),(7,I6 (a1.length:Int)),(8,I6 (k1:Int)),(9,.bool true)]) ?_;refine W.seq<|W.cT ?_;let y0:Env:=[(6,l41 none a1),(7,I6 (a1.length:Int)),(8,I6 (k1:Int))];refine W.sw (e:=z0 y0) ?_;refine W.seq<|W.block<|W.sr<|WO.pq 1 (jA (f:=qH) hx1)<|WO.fi [3,4,5,6,7,8] [5] (e2:=z0 ((4,I6 (k1:Int))::(5,.ptr (.agg [I6 x1.qc,l3 none x1.qa]))::y0)) ?_;refine W.seq<|W.seq ?_;let z1:=fun t=>z0 ((5,.ptr (.agg [I6 x1.qc,l3 none x1.qa]))::t);refine W.rt (e2:=z1 [(6,l41 none a1),(7,I6 (a1.length:Int)),(8,I6 (k1:Int)),(14,.bool (decide ((k1:Int) > 25)))]) ?_;refine W.ch (decide ((k1:Int) > 25)) h (fun h=>?_) (fun h=>?_)
 .exact W.exit<|W.wk (hK4 v6 h)
 refine W.sw (e:=z1 y0) ?_;refine W.rg ?_;obtain⟨w11,hw11,h⟩:=qb h;refine WO.ck 5 (F:=60) (l:=[l3 none x1.qa]) (C:=[]) (r:=l3 (some 1) w11) (qgb x1.qa w11 hw11) ?_;obtain⟨hc12,h⟩:=qm h;refine WO.ak 2 23 41 2 qH v6 [(apiFact.mk x1.qc w11)] hc12<|WO.fn (e2:=((3,l41 (some 23) (v6++[(apiFact.mk x1.qc w11)]))::y0)) ?_;refine W.rg<|WO.pq 0 (jI (qN hl1 hk1))<|WO.fin [3,6,7,8] [] [] [(23,some 10300)] (e2:=[(3,l41 (some 10300) (v6++[(apiFact.mk x1.qc w11)])),(6,l41 none a1),(7,I6 (a1.length:Int)),(8,I6 ((k1+1:Nat):Int))]) kR (fun _ h=>h) ?_;exact hN1 (v6++[(apiFact.mk x1.qc w11)]) h
def Ji:LD :=
 (some true)
def qX (a2:(List apiFact)) (g3:(apiFact->apiFact->LD)) (K8:LD):List apiFact->Nat->LD
 | [],k1=>K8
 | x1::r1,k1=>((idx a2 (k1:Int)).bind fun e13=>((g3 x1 e13).bind fun w15=>(bif (!w15) then (some false) else (qX a2 g3 K8 r1 (k1+1)))))
def QF (a1:(List apiFact)) (a2:(List apiFact)) (g3:(apiFact->apiFact->LD)):LD :=
 (bif ((a1.length:Int) != (a2.length:Int)) then (some false) else (chk (lenOk a1) (qX a2 g3 (Ji) a1 0)))
theorem Uq (a1:(List apiFact)) (a2:(List apiFact)) (g3:(apiFact->apiFact->LD)) (F_g3:Nat) (C_g3:LJ) (hok_g3:okFn Try.prog F_g3=true) (hrun_g3:∀ (x0:apiFact) (x1:apiFact) r,g3 x0 x1=some r->Run Try.prog (.call F_g3 ([.agg [I6 x0.qc,l3 none x0.qa],.agg [I6 x1.qc,l3 none x1.qa]]++C_g3) (.bool r))) (r:Bool) (h:QF a1 a2 g3=some r):Run Try.prog (.call 65 [l41 none a1,l41 none a2,.clo F_g3 C_g3] (.bool r)):=by
 refine cW Try.func65 rfl (env0:=[(0,l41 none a1),(1,l41 none a2),(2,.clo F_g3 C_g3)]) ?_;unfold QF at h;refine W.seq ?_;let z0:=fun t=>EN ((0,l41 none a1)::(1,l41 none a2)::(2,.clo F_g3 C_g3)::t);refine W.rt (e2:=z0 []) ?_;refine W.seq<|W.sr<|WO.pq 1 (jM qH a1)<|WO.pq 1 (jM qH a2)<|WO.fn (e2:=z0 [(14,.bool ((a1.length:Int) != (a2.length:Int)))]) ?_;refine W.ch ((a1.length:Int) != (a2.length:Int)) h (fun h=>?_) (fun h=>?_)
 .refine W.seq<|W.rt (e2:=[(6,.bool false)]) ?_;refine W.wk (e:=[(6,.bool false)]) ?_;cases h;exact W.rr
 refine W.sw (e:=z0 []) ?_;refine W.seq<|W.join (σ:=Unit) (fun s=>[]) (fun s=>(Ji)=some r) (fun s h=>?_) (fun hK8=>?_)
 .unfold Ji at h;refine W.seq<|W.rt (e2:=[(6,.bool true)]) ?_;refine W.wk (e:=[(6,.bool true)]) ?_;cases h;exact W.rr
 refine W.sr<|WO.pq 1 (jM qH a1) ?_;let z1:=fun t=>EN ((1,l41 none a2)::(2,.clo F_g3 C_g3)::(15,l41 none a1)::(16,I6 (a1.length:Int))::t);refine WO.fn (e2:=z1 [(17,.int .i64 0)]) ?_;refine W.block ?_;obtain⟨hl1,h⟩:=qm h;refine W.wk<|W.range (σ:=Unit) a1 (fun k1 s=>z1 [(17,I6 (k1:Int))]) (fun r0 k0 s=>qX a2 g3 (Ji) r0 k0=some r) (fun s h=>?_) (fun x1 r1 k1 s hx1 hk1 h hN1=>?_) () h
 .rw[qX.eq_1]at h;refine W.sr<|WO.pq 0 (jB (ja (l:=a1)))<|WO.fn (e2:=z1 [(17,I6 ((a1).length:Int)),(18,.bool false)]) ?_;exact W.seq<|W.cF<|W.exit<|W.wk (hK8 () h)
 rw[qX.eq_2]at h;refine W.sr<|WO.pq 0 (jB (jy hk1))<|WO.fn (e2:=z1 [(17,I6 (k1:Int)),(18,.bool true)]) ?_;refine W.seq<|W.cT ?_;let y0:Env:=[(15,l41 none a1),(16,I6 (a1.length:Int)),(17,I6 (k1:Int))];let z2:=fun t=>EN ((1,l41 none a2)::(2,.clo F_g3 C_g3)::t);refine W.sw (e:=z2 y0) ?_;refine W.seq<|W.block<|W.sr<|WO.pq 1 (jA (f:=qH) hx1)<|WO.fi [1,2,7,8,15,16,17] [8] (e2:=z2 ((7,I6 (k1:Int))::(8,.ptr (.agg [I6 x1.qc,l3 none x1.qa]))::y0)) ?_;refine W.sr ?_;obtain⟨e13,he13,h⟩:=qb h;refine WO.pq 2 (ZX (f:=qH) he13) ?_;let z3:=fun t=>z2 ((8,.ptr (.agg [I6 x1.qc,l3 none x1.qa]))::(9,.ptr (.agg [I6 e13.qc,l3 none e13.qa]))::t);refine WO.fi [1,2,8,9,15,16,17] [9] (e2:=z3 y0) ?_;refine W.sr ?_;obtain⟨w15,hw15,h⟩:=qb h;refine WO.callK 3 (F:=F_g3) (l:=[.agg [I6 x1.qc,l3 none x1.qa],.agg [I6 e13.qc,l3 none e13.qa]]) (C:=C_g3) (r:=.bool w15) kR hok_g3 (hrun_g3 x1 e13 w15 hw15) (e1:=z3 [(15,l41 none a1),(16,I6 (a1.length:Int)),(17,I6 (k1:Int)),(26,.clo F_g3 C_g3),(27,.agg [I6 x1.qc,l3 none x1.qa]),(28,.agg [I6 e13.qc,l3 none e13.qa]),(29,.bool w15)]) kR<|WO.fn (e2:=z1 [(17,I6 (k1:Int)),(30,.bool (!w15))]) ?_;refine W.ch (!w15) h (fun h=>?_) (fun h=>?_)
 .refine W.seq<|W.rt (e2:=[(6,.bool false)]) ?_;refine W.wk (e:=[(6,.bool false)]) ?_;cases h;exact W.rr
 refine W.sw (e:=z2 y0) ?_;exact W.rg<|WO.pq 0 (jI (qN hl1 hk1))<|WO.fn (hN1 () h)
def Qx:LD :=
 (some true)
def jm (a2:LA) (K7:LD):LA->Nat->LD
 | [],k1=>K7
 | x1::r1,k1=>((idx a2 (k1:Int)).bind fun e12=>(bif (x1 != e12) then (some false) else (jm a2 K7 r1 (k1+1))))
def Xh (a1:LA) (a2:LA):LD :=
 (bif ((a1.length:Int) != (a2.length:Int)) then (some false) else (chk (lenOk a1) (jm a2 (Qx) a1 0)))
theorem UF (a1:LA) (a2:LA) (r:Bool) (h:Xh a1 a2=some r):Run Try.prog (.call 34 [l3 none a1,l3 none a2] (.bool r)):=by
 refine cW Try.func34 rfl (env0:=[(0,l3 none a1),(1,l3 none a2)]) ?_;unfold Xh at h;refine W.seq ?_;let z0:=fun t=>EN ((0,l3 none a1)::(1,l3 none a2)::t);refine W.rt (e2:=z0 []) ?_;refine W.seq<|W.sr<|WO.pq 1 (jM (.int .i64) a1)<|WO.pq 1 (jM (.int .i64) a2)<|WO.fn (e2:=z0 [(10,.bool ((a1.length:Int) != (a2.length:Int)))]) ?_;refine W.ch ((a1.length:Int) != (a2.length:Int)) h (fun h=>?_) (fun h=>?_)
 .refine W.seq<|W.rt (e2:=[(4,.bool false)]) ?_;refine W.wk (e:=[(4,.bool false)]) ?_;cases h;exact W.rr
 refine W.sw (e:=z0 []) ?_;refine W.seq<|W.join (σ:=Unit) (fun s=>[]) (fun s=>(Qx)=some r) (fun s h=>?_) (fun hK7=>?_)
 .unfold Qx at h;refine W.seq<|W.rt (e2:=[(4,.bool true)]) ?_;refine W.wk (e:=[(4,.bool true)]) ?_;cases h;exact W.rr
 refine W.sr<|WO.pq 1 (jM (.int .i64) a1) ?_;let z1:=fun t=>z0 ((12,I6 (a1.length:Int))::t);refine WO.fn (e2:=z1 [(13,.int .i64 0)]) ?_;refine W.block ?_;obtain⟨hl1,h⟩:=qm h;refine W.wk<|W.range (σ:=Unit) a1 (fun k1 s=>z1 [(13,I6 (k1:Int))]) (fun r0 k0 s=>jm a2 (Qx) r0 k0=some r) (fun s h=>?_) (fun x1 r1 k1 s hx1 hk1 h hN1=>?_) () h
 .rw[jm.eq_1]at h;refine W.sr<|WO.pq 0 (jB (ja (l:=a1)))<|WO.fn (e2:=z1 [(13,I6 ((a1).length:Int)),(14,.bool false)]) ?_;exact W.seq<|W.cF<|W.exit<|W.wk (hK7 () h)
 rw[jm.eq_2]at h;refine W.sr<|WO.pq 0 (jB (jy hk1))<|WO.fn (e2:=z1 [(13,I6 (k1:Int)),(14,.bool true)]) ?_;refine W.seq<|W.cT ?_;let y0:Env:=[(12,I6 (a1.length:Int)),(13,I6 (k1:Int))];refine W.sw (e:=z0 y0) ?_;refine W.seq<|W.block<|W.seq<|W.rt (e2:=z0 ((5,I6 (k1:Int))::y0)) ?_;refine W.sr<|WO.pq 2 (jA (f:=(AV.int .i64)) hx1) ?_;obtain⟨e12,he12,h⟩:=qb h;refine WO.pq 3 (ZX (f:=(AV.int .i64)) he12)<|WO.fn (e2:=z1 [(13,I6 (k1:Int)),(24,.bool (x1 != e12))]) ?_;refine W.ch (x1 != e12) h (fun h=>?_) (fun h=>?_)
 .refine W.seq<|W.rt (e2:=[(4,.bool false)]) ?_;refine W.wk (e:=[(4,.bool false)]) ?_;cases h;exact W.rr
 refine W.sw (e:=z0 y0) ?_;exact W.rg<|WO.pq 0 (jI (qN hl1 hk1))<|WO.fn (hN1 () h)
def ZH (v6:Bool):LD :=
 (some v6)
def YD (a1:apiFact) (a2:apiFact):LD :=
 (bif (a1.qc == a2.qc) then ((Xh a1.qa a2.qa).bind fun w5=>((ZH) w5)) else ((ZH) false))
theorem qcG (a1:apiFact) (a2:apiFact) (r:Bool) (h:YD a1 a2=some r):Run Try.prog (.call 66 [.agg [I6 a1.qc,l3 none a1.qa],.agg [I6 a2.qc,l3 none a2.qa]] (.bool r)):=by
 refine cW Try.func66 rfl (env0:=[(0,.agg [I6 a1.qc,l3 none a1.qa]),(1,.agg [I6 a2.qc,l3 none a2.qa])]) ?_;unfold YD at h;refine W.seq ?_;let z0:=fun t=>EN ((2,.ptr (.agg [I6 a1.qc,l3 none a1.qa]))::(3,.ptr (.agg [I6 a2.qc,l3 none a2.qa]))::t);refine W.rT [2,3] [2,3] (e2:=z0 []) ?_;refine W.seq<|W.join (σ:=(Bool)) (fun s=>[(4,.bool s)]) (fun s=>(ZH) s=some r) (fun v6 h=>?_) (fun hK4=>?_)
 .unfold ZH at h;refine W.wk (e:=[(4,.bool v6)]) ?_;cases h;exact W.rr
 refine W.rg<|WO.bh 6 (fun b=>z0 [(5,.ptr (I6 a1.qc)),(6,I6 a1.qc),(7,.ptr (I6 a2.qc)),(8,I6 a2.qc),(9,.bool b),(10,.bool b)]) (a1.qc == a2.qc) h (fun h=>?_) (fun h=>?_)
 .obtain⟨w5,hw5,h⟩:=qb h;exact WO.ck 4 (F:=34) (l:=[l3 none a1.qa,l3 none a2.qa]) (C:=[]) (r:=.bool w5) (UF a1.qa a2.qa w5 hw5)<|WO.fn (hK4 w5 h)
 exact WO.fn (hK4 false h)
def Hj (a1:(List apiFact)) (a2:(List apiFact)):LD :=
 ((QF a1 a2 (fun y0 y1=>YD y0 y1)).bind fun w5=>(some w5))
theorem qfq (a1:(List apiFact)) (a2:(List apiFact)) (r:Bool) (h:Hj a1 a2=some r):Run Try.prog (.call 23 [l41 none a1,l41 none a2] (.bool r)):=by
 refine cW Try.func23 rfl (env0:=[(0,l41 none a1),(1,l41 none a2)]) ?_;unfold Hj at h;refine W.seq<|W.rt (e2:=[(0,l41 none a1),(1,l41 none a2)]) ?_;refine W.sr ?_;obtain⟨w5,hw5,h⟩:=qb h;refine WO.ck 2 (F:=65) (l:=[l41 none a1,l41 none a2,.clo 66 []]) (C:=[]) (r:=.bool w5) (Uq a1 a2 (fun y0 y1=>YD y0 y1) 66 [] kR (fun y0 y1 r h=>qcG y0 y1 r h) w5 hw5) ?_;refine WO.fn (e2:=[(4,.bool w5)]) ?_;refine W.wk (e:=[(4,.bool w5)]) ?_;cases h;exact W.rr
def Hi (a1:apiFact):Option apiFact :=
 ((sub a1.qa 0 (if 5<(a1.qa.length:Int) then 5 else (a1.qa.length:Int))).bind fun e4=>((Qe e4).bind fun w5=>(some (apiFact.mk a1.qc w5))))
theorem qfp (a1:apiFact) (r:apiFact) (h:Hi a1=some r):Run Try.prog (.call 26 [.agg [I6 a1.qc,l3 none a1.qa]] (.agg [I6 r.qc,l3 none r.qa])):=by
 refine cW Try.func26 rfl (env0:=[(0,.agg [I6 a1.qc,l3 none a1.qa])]) ?_;unfold Hi at h;refine W.seq<|W.rT [1,2] [1] (e2:=[(1,.ptr (.agg [I6 a1.qc,l3 none a1.qa])),(2,.box [.int .i64 0,.nils])]) ?_;refine W.sr<|WO.pq 6 (jM (.int .i64) a1.qa) ?_;obtain⟨e4,he4,h⟩:=qb h;refine WO.pk 1 (if (0:Int)<=0/\0<=(if 5<(a1.qa.length:Int) then 5 else (a1.qa.length:Int))/\(if 5<(a1.qa.length:Int) then 5 else (a1.qa.length:Int))<=((M6 a1.qa).length:Int) then some (.lst 3 1 none (((M6 a1.qa).take (A0 (if 5<(a1.qa.length:Int) then 5 else (a1.qa.length:Int)))).drop (A0 0))) else none) (qhw he4) ?_;obtain⟨w5,hw5,h⟩:=qb h;refine WO.ck 0 (F:=70) (l:=[l3 none e4]) (C:=[]) (r:=l3 (some 1) w5) (Zj e4 w5 hw5)<|WO.fn (e2:=[(2,.box [I6 a1.qc,l3 none w5])]) ?_;refine W.wk (e:=[(2,.box [I6 a1.qc,l3 none w5])]) ?_;cases h;exact W.rr
def Jh:LY :=
 (some (-1))
def qW (g2:(apiFact->LD)) (K4:LY):List apiFact->Nat->LY
 | [],k1=>K4
 | x1::r1,k1=>((g2 x1).bind fun w9=>(bif w9 then (some (k1:Int)) else (qW g2 K4 r1 (k1+1))))
def QE (a1:(List apiFact)) (g2:(apiFact->LD)):LY :=
 (chk (lenOk a1) (qW g2 (Jh) a1 0))
theorem Up (a1:(List apiFact)) (g2:(apiFact->LD)) (F_g2:Nat) (C_g2:LJ) (hok_g2:okFn Try.prog F_g2=true) (hrun_g2:∀ (x0:apiFact) r,g2 x0=some r->Run Try.prog (.call F_g2 ([.agg [I6 x0.qc,l3 none x0.qa]]++C_g2) (.bool r))) (r:Int) (h:QE a1 g2=some r):Run Try.prog (.call 92 [l41 none a1,.clo F_g2 C_g2] (I6 r)):=by
 refine cW Try.func92 rfl (env0:=[(0,l41 none a1),(1,.clo F_g2 C_g2)]) ?_;unfold QE at h;refine W.seq ?_;let z0:=fun t=>EN ((0,l41 none a1)::(1,.clo F_g2 C_g2)::t);refine W.rt (e2:=z0 []) ?_;refine W.seq<|W.join (σ:=Unit) (fun s=>[]) (fun s=>(Jh)=some r) (fun s h=>?_) (fun hK4=>?_)
 .unfold Jh at h;refine W.seq<|W.rt (e2:=[(4,I6 (-1))]) ?_;refine W.wk (e:=[(4,I6 (-1))]) ?_;cases h;exact W.rr
 refine W.sr<|WO.pq 1 (jM qH a1) ?_;let z1:=fun t=>z0 ((7,I6 (a1.length:Int))::t);refine WO.fn (e2:=z1 [(8,.int .i64 0)]) ?_;refine W.block ?_;obtain⟨hl1,h⟩:=qm h;refine W.wk<|W.range (σ:=Unit) a1 (fun k1 s=>z1 [(8,I6 (k1:Int))]) (fun r0 k0 s=>qW g2 (Jh) r0 k0=some r) (fun s h=>?_) (fun x1 r1 k1 s hx1 hk1 h hN1=>?_) () h
 .rw[qW.eq_1]at h;refine W.sr<|WO.pq 0 (jB (ja (l:=a1)))<|WO.fn (e2:=z1 [(8,I6 ((a1).length:Int)),(9,.bool false)]) ?_;exact W.seq<|W.cF<|W.exit<|W.wk (hK4 () h)
 rw[qW.eq_2]at h;refine W.sr<|WO.pq 0 (jB (jy hk1))<|WO.fn (e2:=z1 [(8,I6 (k1:Int)),(9,.bool true)]) ?_;refine W.seq<|W.cT ?_;let y0:Env:=[(7,I6 (a1.length:Int)),(8,I6 (k1:Int))];refine W.sw (e:=z0 y0) ?_;refine W.seq<|W.block<|W.seq ?_;let z2:=fun t=>z0 ((5,I6 (k1:Int))::t);refine W.rt (e2:=z2 y0) ?_;refine W.sr<|WO.pq 3 (jA (f:=qH) hx1) ?_;obtain⟨w9,hw9,h⟩:=qb h;let z3:=fun t=>z2 ((7,I6 (a1.length:Int))::(8,I6 (k1:Int))::t);refine WO.callK 1 (F:=F_g2) (l:=[.agg [I6 x1.qc,l3 none x1.qa]]) (C:=C_g2) (r:=.bool w9) kR hok_g2 (hrun_g2 x1 w9 hw9) (e1:=z3 [(11,.clo F_g2 C_g2),(12,l41 none a1),(13,I6 (k1:Int)),(14,.ptr (.agg [I6 x1.qc,l3 none x1.qa])),(15,.agg [I6 x1.qc,l3 none x1.qa]),(16,.bool w9)]) kR<|WO.fn (e2:=z3 [(16,.bool w9)]) ?_;refine W.ch w9 h (fun h=>?_) (fun h=>?_)
 .refine W.seq<|W.rt (e2:=[(4,I6 (k1:Int))]) ?_;refine W.wk (e:=[(4,I6 (k1:Int))]) ?_;cases h;exact W.rr
 refine W.sw (e:=z0 y0) ?_;exact W.rg<|WO.pq 0 (jI (qN hl1 hk1))<|WO.fn (hN1 () h)
def Jk (a1:(List apiFact)) (g2:(apiFact->LD)):LD :=
 ((QE a1 g2).bind fun w5=>(some (decide (w5 >= 0))))
theorem Vc (a1:(List apiFact)) (g2:(apiFact->LD)) (F_g2:Nat) (C_g2:LJ) (hok_g2:okFn Try.prog F_g2=true) (hrun_g2:∀ (x0:apiFact) r,g2 x0=some r->Run Try.prog (.call F_g2 ([.agg [I6 x0.qc,l3 none x0.qa]]++C_g2) (.bool r))) (r:Bool) (h:Jk a1 g2=some r):Run Try.prog (.call 71 [l41 none a1,.clo F_g2 C_g2] (.bool r)):=by
 refine cW Try.func71 rfl (env0:=[(0,l41 none a1),(1,.clo F_g2 C_g2)]) ?_;unfold Jk at h;refine W.seq<|W.rt (e2:=[(0,l41 none a1),(1,.clo F_g2 C_g2)]) ?_;refine W.sr ?_;obtain⟨w5,hw5,h⟩:=qb h;refine WO.ck 2 (F:=92) (l:=[l41 none a1,.clo F_g2 C_g2]) (C:=[]) (r:=I6 w5) (Up a1 g2 F_g2 C_g2 hok_g2 hrun_g2 w5 hw5)<|WO.fn (e2:=[(4,.bool (decide (w5 >= 0)))]) ?_;refine W.wk (e:=[(4,.bool (decide (w5 >= 0)))]) ?_;cases h;exact W.rr
def Qy (v6:Bool):LD :=
 (some v6)
def Zd (a1:apiFact) (c2:apiFact):LD :=
 (bif (c2.qc == a1.qc) then ((Xh c2.qa a1.qa).bind fun w5=>((Qy) w5)) else ((Qy) false))
theorem qbl (a1:apiFact) (c2:apiFact) (r:Bool) (h:Zd a1 c2=some r):Run Try.prog (.call 72 [.agg [I6 a1.qc,l3 none a1.qa],.ptr (.agg [I6 c2.qc,l3 none c2.qa])] (.bool r)):=by
 refine cW Try.func72 rfl (env0:=[(0,.agg [I6 a1.qc,l3 none a1.qa]),(1,.ptr (.agg [I6 c2.qc,l3 none c2.qa]))]) ?_;unfold Zd at h;refine W.seq ?_;let z0:=fun t=>EN ((1,.ptr (.agg [I6 c2.qc,l3 none c2.qa]))::(2,.ptr (.agg [I6 a1.qc,l3 none a1.qa]))::t);refine W.rT [1,2] [2] (e2:=z0 []) ?_;refine W.seq<|W.join (σ:=(Bool)) (fun s=>[(3,.bool s)]) (fun s=>(Qy) s=some r) (fun v6 h=>?_) (fun hK4=>?_)
 .unfold Qy at h;refine W.wk (e:=[(3,.bool v6)]) ?_;cases h;exact W.rr
 refine W.rg<|WO.bh 6 (fun b=>z0 [(4,.ptr (I6 c2.qc)),(5,I6 c2.qc),(6,.ptr (I6 a1.qc)),(7,I6 a1.qc),(8,.bool b),(9,.bool b)]) (c2.qc == a1.qc) h (fun h=>?_) (fun h=>?_)
 .obtain⟨w5,hw5,h⟩:=qb h;exact WO.ck 4 (F:=34) (l:=[l3 none c2.qa,l3 none a1.qa]) (C:=[]) (r:=.bool w5) (UF c2.qa a1.qa w5 hw5)<|WO.fn (hK4 w5 h)
 exact WO.fn (hK4 false h)
def Zo (a1:(List apiFact)) (a2:apiFact):LD :=
 ((Jk a1 (fun y0=>Zd y0 a2)).bind fun w5=>(some w5))
theorem qcF (a1:(List apiFact)) (a2:apiFact) (r:Bool) (h:Zo a1 a2=some r):Run Try.prog (.call 27 [l41 none a1,.agg [I6 a2.qc,l3 none a2.qa]] (.bool r)):=by
 refine cW Try.func27 rfl (env0:=[(0,l41 none a1),(1,.agg [I6 a2.qc,l3 none a2.qa])]) ?_;unfold Zo at h;refine W.seq<|W.rT [0,3] [3] (e2:=[(0,l41 none a1),(3,.ptr (.agg [I6 a2.qc,l3 none a2.qa]))]) ?_;refine W.sr ?_;obtain⟨w5,hw5,h⟩:=qb h;refine WO.ck 2 (F:=71) (l:=[l41 none a1,.clo 72 [.ptr (.agg [I6 a2.qc,l3 none a2.qa])]]) (C:=[]) (r:=.bool w5) (Vc a1 (fun y0=>Zd y0 a2) 72 [.ptr (.agg [I6 a2.qc,l3 none a2.qa])] kR (fun y0 r h=>qbl y0 a2 r h) w5 hw5) ?_;refine WO.fn (e2:=[(4,.bool w5)]) ?_;refine W.wk (e:=[(4,.bool w5)]) ?_;cases h;exact W.rr
end Go.AM
namespace Go
open AM
abbrev Lq:=List rf3Lit
end Go
namespace Go
open AM
abbrev Ll:=Option (List ruRule)
end Go
namespace Go
open AM
abbrev LQ:=List ruLit
end Go
namespace Go
open AM
abbrev LN:=List rf3Rule
end Go
namespace Go
open AM
abbrev LH:=List ruRule
end Go
namespace Go
open AM
abbrev LG:=List apiFact
end Go
namespace Go.AM
open Go.Proofs
structure rufact where
 qn:Int
 f_a:Int
 f_b:Int
def l50 (c:LR) (l:List qo):AV:=.lst 50 2 c (A4 YM l)
def qh (x:rufact):AV:=.agg [.int .i64 x.qn,.int .i64 x.f_a,.int .i64 x.f_b]
def qf (x a:rufact):Bool:=(x.qn == a.qn) && ((x.f_a == a.f_a) && ((x.f_b == a.f_b) && true))
end Go.AM
namespace Go
open AM
abbrev LI:=List rufact
abbrev Lf:=List (Int×LI)
end Go
namespace Go
open AM
abbrev LB:=List (rufact×Bool)
abbrev Lm:=Option (LB×Bool)
end Go
