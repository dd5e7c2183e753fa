/- s -/
import Derived.Test.YtdghpfejmlpjhaaAWq
import Derived.Test.YtdghpfejmlpjhaaASimN
import Derived.Test.YtdghpfejmlpjhaaASimX
set_option linter.unusedVariables false
set_option linter.unusedSimpArgs false
namespace Go.AM
open Go.RowKit
open Go.ChangeMaps (setBlock)
open Go.MapKept (heap_set)
section
variable {bs:Base} {n:Nat} {M:Mem} {O:Gh} {env:Env} {a:Act} {w:World} {P:Program}
theorem qbD (ty:TypeId) {g bm since c0:Nat} {seen:Array Nat} {es:Array MapEntry} {clock:Nat} (hg:w.heap[g]? = some (.mapIter (some bm) since seen c0)) (hb:w.heap[bm]? = some (.map es clock)) (hold:∀ x∈es.toList,x.born<since) (hsc:since≤c0) :
  ((leftOf es seen).size=0∧(Instr.next (.pointer (some ⟨g,0,none⟩)) false ty).run P w=.ok (.tuple #[.bool false]) w) ∨
  ∃ (j:Nat) (hj:j<(leftOf es seen).size) (w1:World),(w1=w∨w1=w.drew)∧(Instr.next (.pointer (some ⟨g,0,none⟩)) false ty).run P w=.ok (.tuple #[.bool true,(leftOf es seen)[j].key,(leftOf es seen)[j].val]) (setBlock w1 g (.mapIter (some bm) since (seen.push (leftOf es seen)[j].born) clock)):=by
 simp only[Instr.next,getObj,Sem.run_bind,Sem.run,hg,hb,Result.andThen,next_test_false seen es since c0 hold hsc,Bool.false_eq_true,if_false];unfold leftOf
 have hmem:∀ x∈(Array.filter (fun e=>!seen.contains e.born) es).toList,x.born<since:=fun x hx=>hold x (by simp at hx ⊢;exact hx.1)
 generalize Array.filter (fun e=>!seen.contains e.born) es=L at hmem ⊢;have e1:L.filter (fun x=>decide (x.born<since))=L:=Array.filter_eq_self.2 (fun x hx=>by simpa using hmem x (by simpa using hx))
 have e2:L.filter (fun x=>decide (x.born ≥ since))=#[]:=by
  rw[Array.filter_eq_empty_iff];intro x hx;have:=hmem x (by simpa using hx)
  simp
  omega
 simp only[e1,e2,Array.append_empty]
 by_cases h0:L.size=0
 ·left
  have:L=#[]:=Array.eq_empty_of_size_eq_zero h0;subst this;refine⟨rfl,?_⟩
  simp[choose,Sem.run,Question.forced]
 ·right
  have hne:L.isEmpty=false:=by simp[Array.isEmpty,h0]
  simp only[hne,Bool.false_eq_true,if_false,Array.empty_append,Array.size_map]
  have hch:∃ (j:Nat) (w1:World),j<L.size∧(w1=w∨w1=w.drew)∧(choose (Question.mapNext L.size)).run P w=.ok j w1:=by
   by_cases hf:L.size≤1
   ·exact⟨0,w,by omega,.inl rfl,by simp[choose,Sem.run,Question.forced,hf]⟩
   ·exact⟨_,w.drew,Nat.mod_lt _ (by omega),.inr rfl,by
     simp only[choose,Sem.run,Question.forced,decide_eq_true_eq,hf,if_false,Question.cut]
     rfl⟩
  obtain⟨j,w1,hj,hw1,hrun⟩:=hch;refine⟨j,hj,w1,hw1,?_⟩
  have hg1:w1.heap[g]? = some (.mapIter (some bm) since seen c0):=by
   rcases hw1 with rfl | rfl
   ·exact hg
   ·exact hg
  have hset:∀ o':Obj,(setObj g o').run P w1=.ok () (setBlock w1 g o'):=fun o'=>by
   simp only[setObj,Sem.run,hg1];rfl
  simp only[hrun,Array.getElem?_map,Array.getElem?_eq_getElem hj,Option.map_some,Sem.run_bind,hset,Result.andThen];rfl
theorem UP {α:Type} (f:α→Nat):∀ (l:List α) (j:Nat) (hj:j<l.length),(l.map f).Nodup→l.filter (fun x=>f x != f l[j])=l.eraseIdx j
 | [],j,hj,_=>by simp at hj
 | x::l,0,hj,hn=>by
  have hn':=List.nodup_cons.1 hn;rw[List.filter_cons];simp only[List.getElem_cons_zero,bne_self_eq_false,Bool.false_eq_true,if_false,List.eraseIdx_cons_zero];rw[List.filter_eq_self];intro y hy;simp only[bne_iff_ne,ne_eq]
  exact fun e=>hn'.1 (by rw[← e];exact List.mem_map.2 ⟨y,hy,rfl⟩)
 | x::l,j+1,hj,hn=>by
  have hn':=List.nodup_cons.1 hn
  have hj':j<l.length:=by simpa using hj
  rw[List.filter_cons];simp only[List.getElem_cons_succ,List.eraseIdx_cons_succ]
  have:(f x != f l[j])=true:=by
   simp only[bne_iff_ne,ne_eq]
   exact fun e=>hn'.1 (by rw[e];exact List.mem_map.2 ⟨l[j],List.getElem_mem hj',rfl⟩)
  rw[if_pos this,UP f l j hj' hn'.2]
theorem NL {es:Array MapEntry} {seen:Array Nat} (hn:(es.toList.map (·.born)).Nodup) {j:Nat} (hj:j<(leftOf es seen).size):(leftOf es (seen.push (leftOf es seen)[j].born)).toList=(leftOf es seen).toList.eraseIdx j:=by
 have hnl:((leftOf es seen).toList.map (·.born)).Nodup:=by
  unfold leftOf;rw[Array.toList_filter];exact hn.sublist (List.filter_sublist.map _)
 have h:=UP (fun e:MapEntry=>e.born) (leftOf es seen).toList j (by simpa using hj) hnl;rw[← h]
 have hb:(leftOf es seen).toList[j]'(by simpa using hj)=(leftOf es seen)[j]:=by simp
 rw[hb];generalize (leftOf es seen)[j].born=b;unfold leftOf;rw[Array.toList_filter,Array.toList_filter,List.filter_filter]
 refine List.filter_congr fun x _=>?_
 simp only[Array.contains_push,Bool.not_or];rw[Bool.and_comm];rfl
theorem LeftOk0.erase {es:Array MapEntry} {seen:Array Nat} {ks vs:List AV} (h:LeftOk0 M es seen ks vs) (hn:(es.toList.map (·.born)).Nodup) {j:Nat} (hj:j<(leftOf es seen).size):LeftOk0 M es (seen.push (leftOf es seen)[j].born) (ks.eraseIdx j) (vs.eraseIdx j):=by
 obtain⟨h1,h2,h3,h4⟩:=h;have hl:=NL hn hj
 have hsz:(leftOf es (seen.push (leftOf es seen)[j].born)).size=(leftOf es seen).size - 1:=by
  rw[← Array.length_toList,hl,List.length_eraseIdx,if_pos (by simpa using hj),Array.length_toList]
 have hat:∀ i e,(leftOf es (seen.push (leftOf es seen)[j].born))[i]? = some e→(leftOf es seen)[if i<j then i else i+1]? = some e:=by
  intro i e he;rw[← Array.getElem?_toList,hl,List.getElem?_eraseIdx]at he;rw[← Array.getElem?_toList]
  split at he
  ·rename_i hij;rw[if_pos hij];exact he
  ·rename_i hij;rw[if_neg hij];exact he
 refine⟨by rw[List.length_eraseIdx,if_pos (by omega),hsz,h1],by rw[List.length_eraseIdx,if_pos (by omega),hsz,h2],fun i k e hk he=>?_,fun i v e hv he=>?_⟩
 ·rw[List.getElem?_eraseIdx]at hk;refine h3 (if i<j then i else i+1) k e ?_ (hat i e he)
  split at hk
  ·rename_i hij;rw[if_pos hij];exact hk
  ·rename_i hij;rw[if_neg hij];exact hk
 ·rw[List.getElem?_eraseIdx]at hv;refine h4 (if i<j then i else i+1) v e ?_ (hat i e he)
  split at hv
  ·rename_i hij;rw[if_pos hij];exact hv
  ·rename_i hij;rw[if_neg hij];exact hv
def leftE:AV→Option (List AV×List AV)
 | .hob 1 ks vs=>some (ks,vs)
 | .hob 2 (_::ks) (_::vs)=>some (ks,vs)
 | _=>none
def nextEnt (ks vs:List AV) (j:Nat):AV:=.hob 2 (ks.getD j .und::ks.eraseIdx j) (vs.getD j .und::vs.eraseIdx j)
theorem qdn (h:Inv bs n M O env a w) {o:Oper} {x:Operand} (ho:o.op=.next x false) {id:Nat} {y:AV} {ks vs:List AV} (hx:aop env x=some (.mb 1 id)) (hl:look env id=some y) (hy:leftE y=some (ks,vs))
  {envF:Env} (hF:eput n o.dst (.tup [.bool false]) env=some envF) {envT:Nat→Env} (hT:∀ j,j<ks.length→eput n o.dst (.tup [.bool true,.top,.top]) (ins id (nextEnt ks vs j) env)=some (envT j)) :
  (ks=[]∧vs=[]∧Leads P bs n o a w envF)∨∃ j,j<ks.length∧ks.length=vs.length∧Leads P bs n o a w (envT j):=by
 obtain⟨g,g1,g2⟩:=qo h hx;have hs:=h.slots id _ hl
 have hex:execOp a.eval o=vS (Instr.next (a.eval x) false o.type):=by unfold execOp;rw[ho];rfl
 have hfalse:R M (.tup [.bool false]) (.tuple #[.bool false]):=R.tup (vs:=[.bool false]) rfl fun j c v hc hv=>by
  match j,hc,hv with
  | 0,hc,hv=>cases hc;cases hv;exact .bool _
 have htrue:∀ k v:Value,R M (.tup [.bool true,.top,.top]) (.tuple #[.bool true,k,v]):=fun k v=>R.tup (vs:=[.bool true,k,v]) rfl fun j c u hc hu=>by
  match j,hc,hu with
  | 0,hc,hu=>cases hc;cases hu;exact .bool _
  | 1,hc,hu=>cases hc;exact .top _
  | 2,hc,hu=>cases hc;exact .top _
 obtain⟨yk,hyk,key⟩:∃ kd,O true id=some g∧(∀ o,M g o=none)∧y.ent=true∧((∃ c s,w.heap[g]? = some (.mapIter none c s 0)∧ks=[]∧vs=[]) ∨
   ∃ (b:Nat) (es:Array MapEntry) (clock:Nat) (seen:Array Nat) (last:Nat),w.heap[g]? = some (.mapIter (some b) clock seen last)∧clock≤last∧M b 0=some (mapCell es clock)∧MapKept.Stamped es clock∧LeftOk M es seen ks vs)∧kd=():=by
  unfold leftE at hy
  split at hy
  ·cases hy;obtain⟨g',k1,k2,k3⟩:=hs
   have:g'=g:=by rw[k1]at g1;exact Option.some.inj g1
   subst this;exact⟨(),k1,k2,rfl,k3,rfl⟩
  ·cases hy;obtain⟨g',k1,k2,b,es,clock,seen,e,k,v,ks',vs',q1,q2,q3,q4,q5,q6,q7,q8,q9⟩:=hs
   have:g'=g:=by rw[k1]at g1;exact Option.some.inj g1
   subst this;cases q1;cases q2;exact⟨(),k1,k2,rfl,.inr ⟨b,es,clock,_,clock,q3,Nat.le_refl _,q4,q5,q9⟩,rfl⟩
  ·cases hy
 obtain⟨k2,k3,key,_⟩:=key
 rcases key with ⟨c,s,q1,rfl,rfl⟩ | ⟨b,es,clock,seen,last,q1,q2,q3,q4,q5⟩
 ·left
  refine⟨rfl,rfl,.tuple #[.bool false],w,M,O,.inl ?_,XG h (x:=.tup [.bool false]) ⟨hfalse,trivial⟩ hF⟩;rw[hex,g2];refine ZK ?_
  simp[Instr.next,getObj,Sem.run,q1,Result.andThen]
 ·have hb:=YW (h.cons _ _ _ q3);obtain⟨hb1,hb2,hb3⟩:=q4
  rcases qbD (P:=P) o.type q1 hb hb1 q2 with ⟨r1,r2⟩ | ⟨j,hj,w1,hw1,r2⟩
  ·left
   obtain⟨ks',vs',hp,l1,l2,_,_⟩:=q5;have hl:=hp.length;have hl2:=hp.1;refine⟨List.eq_nil_of_length_eq_zero (by omega),List.eq_nil_of_length_eq_zero (by omega),.tuple #[.bool false],w,M,O,.inl ?_,XG h (x:=.tup [.bool false]) ⟨hfalse,trivial⟩ hF⟩;rw[hex,g2];exact ZK r2
  ·right
   obtain⟨ks',vs',hp,l1,l2,l3,l4⟩:=q5
   have hjk:j<ks'.length:=by omega
   have hjv:j<vs'.length:=by omega
   obtain⟨i,hi,ei,ev,hpe⟩:=hp.take hjk;rw[List.getElem?_eq_getElem hjk]at ei;rw[List.getElem?_eq_getElem hjv]at ev;refine⟨i,hi,hp.1,?_⟩
   have hg1:w1.heap[g]? = some (.mapIter (some b) clock seen last):=by
    rcases hw1 with rfl | rfl
    ·exact q1
    ·exact q1
   have hgr:w.grownBy (setBlock w1 g (.mapIter (some b) clock (seen.push (leftOf es seen)[j].born) clock)) (some g):=by
    rcases hw1 with rfl | rfl
    ·exact QE q1
    ·obtain⟨t1,t2,t3,t4,t5⟩:=QE (o':=.mapIter (some b) clock (seen.push (leftOf es seen)[j].born) clock) hg1;exact⟨t1,t2,t3,t4,t5⟩
   have hkat:ks.getD i .und=ks'[j]:=by rw[List.getD_eq_getElem?_getD,ei];rfl
   have hvat:vs.getD i .und=vs'[j]:=by rw[List.getD_eq_getElem?_getD,ev];rfl
   have hent:Inv bs n M O (ins id (nextEnt ks vs i) env) a (setBlock w1 g (.mapIter (some b) clock (seen.push (leftOf es seen)[j].born) clock)):=by
    refine h.setEnt hl k3 rfl hyk hgr k2 ⟨g,hyk,k2,b,es,clock,seen,(leftOf es seen)[j],ks'[j],vs'[j],ks.eraseIdx i,vs.eraseIdx i,by rw[hkat],by rw[hvat],(heap_set hg1).1,q3,⟨hb1,hb2,hb3⟩,?_,?_,?_,⟨_,_,hpe,LeftOk0.erase ⟨l1,l2,l3,l4⟩ hb2 hj⟩⟩
    ·have hm:(leftOf es seen)[j]∈leftOf es seen:=Array.getElem_mem hj;unfold leftOf at hm;have:=(Array.mem_filter.1 hm).1;exact Array.mem_toList_iff.2 this
    ·exact l3 j _ _ (List.getElem?_eq_getElem hjk) (Array.getElem?_eq_getElem hj)
    ·exact l4 j _ _ (List.getElem?_eq_getElem hjv) (Array.getElem?_eq_getElem hj)
   refine⟨.tuple #[.bool true,(leftOf es seen)[j].key,(leftOf es seen)[j].val],_,M,O,.inl ?_,XG hent (x:=.tup [.bool true,.top,.top]) ⟨htrue _ _,trivial⟩ (hT i hi)⟩;rw[hex,g2];exact ZK r2
def CodeP (P:Program) (n:Nat) (c:Code) (S:Ex→Env→Prop) (e:Env):Prop :=
 ∀ (bs:Base) (M:Mem) (O:Gh) (a:Act) (w:World),Inv bs n M O e a w→∀ (Q:Exit→Act→World→Prop),(∀ ex e' a' w' M' O',S ex e'→Inv bs n M' O' e' a' w'→Q (toExit ex) a' w')→c.wp P Q a w
theorem CodeP.of (hmix:P.follows .mixedOrders=true) {c:Code} {S:Ex→Env→Prop} (h:W P n c S env):CodeP P n c S env:=by
 obtain⟨ex,e1,hr,hs⟩:=h;intro bs M O a w hi Q hQ
 exact (Zb hmix hr).1 bs M O a w hi Q fun a' w' M' O' h'=>hQ ex e1 a' w' M' O' hs h'
def ThenP (c:Code) (P:Program) (n:Nat) (S:Ex→Env→Prop):Ex→Env→Prop
 | .normal,e=>CodeP P n c S e
 | ex,e=>S ex e
theorem CodeP.seq {x y:Code} {S:Ex→Env→Prop} (h:CodeP P n x (ThenP y P n S) env):CodeP P n (.seq x y) S env:=by
 intro bs M O a w hi Q hQ;refine wp_seq (h bs M O a w hi _ fun ex e' a' w' M' O' hs h'=>?_)
 cases ex with
 | normal=>exact hs bs M' O' a' w' h' Q hQ
 | ret=>exact hQ .ret e' a' w' M' O' hs h'
 | exit i=>exact hQ (.exit i) e' a' w' M' O' hs h'
theorem CodeP.mono {c:Code} {S S':Ex→Env→Prop} (h:CodeP P n c S env) (hs:∀ ex e,S ex e→S' ex e):CodeP P n c S' env:=by
 intro bs M O a w hi Q hQ
 exact h bs M O a w hi Q fun ex e' a' w' M' O' h1 h'=>hQ ex e' a' w' M' O' (hs _ _ h1) h'
theorem CodeP.block {id:Nat} {c:Code} {S:Ex→Env→Prop} (h:CodeP P n c (fun ex e=>S (ex.unblock id) e) env):CodeP P n (.block id c) S env:=by
 intro bs M O a w hi Q hQ;refine wp_block (h bs M O a w hi _ fun ex e' a' w' M' O' hs h'=>?_);have:=hQ _ e' a' w' M' O' hs h'
 cases ex with
 | normal=>exact this
 | ret=>exact this
 | exit i =>
  simp only[toExit,Exit.inBlock];simp only[Ex.unblock]at this
  split at this
  ·rename_i hb;rw[if_pos (Nat.eq_of_beq_eq_true hb)];exact this
  ·rename_i hb;rw[if_neg (fun e=>by subst e;simp at hb)];exact this
theorem CodeP.cond {c:Operand} {x y:Code} {S:Ex→Env→Prop} (b:Bool) (hc:aop env c=some (.bool b)) (ht:b=true→CodeP P n x S env) (hf:b=false→CodeP P n y S env):CodeP P n (.cond c x y) S env:=by
 intro bs M O a w hi Q hQ;have hv:=(qo hi hc).1.bool_inv;refine wp_cond hv ?_
 cases b with
 | true=>exact ht rfl bs M O a w hi Q hQ
 | false=>exact hf rfl bs M O a w hi Q hQ
def LoopS (I:Nat→Env→Prop) (S:Ex→Env→Prop) (k:Nat):Ex→Env→Prop
 | .normal,e=>∃ k',k=k'+1∧I k' e
 | ex,e=>S ex e
theorem CodeP.loop {c:Code} {S:Ex→Env→Prop} {I:Nat→Env→Prop} (hs:∀ k e,I k e→CodeP P n c (LoopS I S k) e):∀ (k:Nat) {env:Env},I k env→CodeP P n (.loop c) S env:=by
 intro k env hI
 have key:∀ (k:Nat) (e:Env),I k e→∀ (bs:Base) (M:Mem) (O:Gh) (a:Act) (w:World),Inv bs n M O e a w→∀ (Q:Exit→Act→World→Prop),(∀ ex e' a' w' M' O',S ex e'→Inv bs n M' O' e' a' w'→Q (toExit ex) a' w')→Code.rounds P c Q (k+1) a w:=by
  intro k
  induction k with
  | zero =>
   intro e hI bs M O a w hi Q hQ;rw[rounds_succ]
   refine hs 0 e hI bs M O a w hi _ fun ex e' a' w' M' O' h1 h'=>?_
   cases ex with
   | normal=>obtain⟨k',h2,_⟩:=h1;omega
   | ret=>exact hQ .ret e' a' w' M' O' h1 h'
   | exit i=>exact hQ (.exit i) e' a' w' M' O' h1 h'
  | succ k ih =>
   intro e hI bs M O a w hi Q hQ;rw[rounds_succ]
   refine hs (k+1) e hI bs M O a w hi _ fun ex e' a' w' M' O' h1 h'=>?_
   cases ex with
   | normal =>
    obtain⟨k',h2,h3⟩:=h1
    obtain rfl:k'=k:=by omega
    exact ih e' h3 bs M' O' a' w' h' Q hQ
   | ret=>exact hQ .ret e' a' w' M' O' h1 h'
   | exit i=>exact hQ (.exit i) e' a' w' M' O' h1 h'
 intro bs M O a w hi Q hQ;exact wp_loop_rounds (k+1) (key k env hI bs M O a w hi Q hQ)
theorem CodeP.next (hmix:P.follows .mixedOrders=true) {id:Nat} {ops:Array Oper} {S:Ex→Env→Prop} {o:Oper} {rest:List Oper} (hops:ops.toList=o::rest) {x:Operand} (ho:o.op=.next x false) (hw:awanted ops.toList o env=some true) {it:Nat} {y:AV} {ks vs:List AV}
  (hx:aop env x=some (.mb 1 it)) (hl:look env it=some y) (hy:leftE y=some (ks,vs)) {envF:Env} (hF:eput n o.dst (.tup [.bool false]) env=some envF) {envT:Nat→Env} (hT:∀ j,j<ks.length→eput n o.dst (.tup [.bool true,.top,.top]) (ins it (nextEnt ks vs j) env)=some (envT j))
  (h0:ks=[]→vs=[]→WO P n false ops.toList rest (S .normal) envF) (h1:∀ j,j<ks.length→ks.length=vs.length→WO P n false ops.toList rest (S .normal) (envT j)):CodeP P n (.region id ops false) S env:=by
 intro bs M O a w hi Q hQ;refine wp_region_list ?_;rw[hops]
 have hfin:∀ env1,WO P n false ops.toList rest (S .normal) env1→∀ a' w' M' O',Inv bs n M' O' env1 a' w'→wpList P ops Q rest a' w':=by
  intro env1 hwo a' w' M' O' h';obtain⟨e1,hr,hs⟩:=hwo
  have:=ND (Zb hmix hr) h' (Q:=Q) fun a2 w2 M2 O2 h2=>hQ .normal e1 a2 w2 M2 O2 hs h2
  simpa using this
 simp only[wpList];rw[show yielded ops a.tmps=yielded ops.toList.toArray a.tmps by simp,qZ hi hw];simp only[if_true]
 rcases qdn hi ho hx hl hy hF hT with ⟨e1,e2,hL⟩ | ⟨j,hj,hj2,hL⟩
 ·exact .inl <| Xe hL fun a' w' M' O' h'=>hfin _ (h0 e1 e2) a' w' M' O' h'
 ·exact .inl <| Xe hL fun a' w' M' O' h'=>hfin _ (h1 j hj hj2) a' w' M' O' h'
def Goes (n:Nat) (e e':Env):Prop:=∀ (bs:Base) (M:Mem) (O:Gh) (a:Act) (w:World),Inv bs n M O e a w→∃ M' O',Inv bs n M' O' e' a w
theorem Goes.refl (e:Env):Goes n e e:=fun bs M O a w hi=>⟨M,O,hi⟩
theorem Goes.wk {e e1 e':Env} (h:Goes n e1 e') (he:weakE (e1.map Prod.fst) [] [] [] e=e1:=by kernel_rfl):Goes n e e':=by
 intro bs M O a w hi;obtain⟨M',O',h'⟩:=hi.freezeAll [];obtain⟨O2,h2⟩:=Inv.relabAll [] ((Inv.nilAll [] h').drop (e1.map Prod.fst))
 have h3:Inv bs n M' O2 e1 a w:=by
  rw[← he];exact h2
 exact h bs M' O2 a w h3
theorem Goes.mv {e e1 e':Env} (q:List Mv) (h:Goes n e1 e') (he:mvAll e q=e1:=by kernel_rfl):Goes n e e':=by
 subst he;intro bs M O a w hi;obtain⟨M',O',h'⟩:=hi.mvAll q;exact h bs M' O' a w h'
theorem CodeP.goes {c:Code} {S:Ex→Env→Prop} {e e':Env} (hg:Goes n e e') (h:CodeP P n c S e'):CodeP P n c S e:=by
 intro bs M O a w hi Q hQ;obtain⟨M',O',h'⟩:=hg bs M O a w hi;exact h bs M' O' a w h' Q hQ
theorem CodeP.wk {c:Code} {S:Ex→Env→Prop} {env':Env} (h:CodeP P n c S env') (he:weakE (env'.map Prod.fst) [] [] [] env=env':=by kernel_rfl):CodeP P n c S env:=CodeP.goes (Goes.wk (Goes.refl _) he) h
theorem CodeP.mv {c:Code} {S:Ex→Env→Prop} {env':Env} (q:List Mv) (h:CodeP P n c S env') (he:mvAll env q=env':=by kernel_rfl):CodeP P n c S env:=CodeP.goes (Goes.mv q (Goes.refl _) he) h
theorem CodeP.reg (hmix:P.follows .mixedOrders=true) {id:Nat} {ops:Array Oper} {draw:Bool} {S:Ex→Env→Prop} {e2:Env} (h:S .normal e2) (hd:(!draw || (orderOk ops && Jg ops))=true:=by kernel_rfl) (he:stepsK P n draw ops.toList ops.toList.length ops.toList env=some e2:=by kernel_rfl):CodeP P n (.region id ops draw) S env :=
 CodeP.of hmix (W.region hd (WO.end0 he h))
def PostP (P:Program) (fn:Func) (r:AV):Ex→Env→Prop
 | .exit _,_=>False
 | _,e=>qq P fn e=some r
theorem qcs {f:Nat} {args:List AV} {r:AV} {fn:Func} {c:Code} (hf:P.funcs[f]? = some fn) (hb:fn.body=some c) (hlen:(Nat.ble args.length fn.ntmps && Nat.ble fn.ntmps 1000000)=true) (hnl:∀ e k l xs,r≠.lst e k (some l) xs) (h:CodeP P fn.ntmps c (PostP P fn r) (argsEnv 0 (args.map AV.strip))):CallOk P f args r:=by
 intro M w vs hG hC hl hR;refine calls_of_wp hf hb ?_
 have hsz:vs.toArray.size=vs.length:=by simp
 simp only[Bool.and_eq_true]at hlen;have hle:=Nat.le_of_ble_eq_true hlen.1;have hsm:=Nat.le_of_ble_eq_true hlen.2
 have hinv:Inv ⟨fun k=>k<w.heap.size,M,w,⟨fun _ _=>none,fun _=>0,fun _=>0⟩,hG⟩ fn.ntmps M ⟨fun _ _=>none,fun _=>0,fun _=>0⟩ (argsEnv 0 (args.map AV.strip)) { tmps:=vs.toArray++Array.replicate (fn.ntmps - vs.toArray.size) undef,defers:=[] } w:=by
  refine⟨by simp;omega,rfl,BelowD.refl _ _,fun k hk=>hk,hC,Sub.refl M,fun _ _ _=>rfl,fun i c g e=>by (cases e),fun i i' c c' g e=>by (cases e),⟨hsm,fun c _ _=>Gh.Eq1.refl _ c⟩,fun t x hx=>?_⟩;obtain⟨_,h2⟩:=Zo _ 0 t x hx;simp only[Nat.sub_zero,List.getElem?_map]at h2
  cases hz:args[t]? with
  | none=>rw[hz]at h2;cases h2
  | some z =>
   rw[hz]at h2;cases h2
   have htl:t<vs.length:=by rw[← hl];exact (List.getElem?_eq_some_iff.1 hz).1
   have hv:(vs.toArray++Array.replicate (fn.ntmps - vs.toArray.size) undef).getD t undef=vs[t]:=by
    rw[Array.getD_eq_getD_getElem?,Array.getElem?_append_left (by simpa using htl)]
    simp[htl]
   rw[hv];exact QF (jZ (hR t z _ hz (List.getElem?_eq_getElem htl)).strip (Xq z))
 refine h _ _ _ _ _ hinv _ fun ex e1 a' w' M' O' hres h'=>?_
 have hbel:Below w.heap.size w w':=⟨h'.below.os,h'.below.tape,h'.below.output,h'.below.size,fun k hk=>h'.below.block k hk⟩
 have fin:qq P fn e1=some r→∃ v1,(results fn a'.tmps).run P w'=.ok v1 w'∧∃ v2 M2,Ending.returned v1=.returned v2∧Below w.heap.size w w'∧Sub M M2∧Cons M2 w'∧(∀ b o,b<w.heap.size→M2 b o=M b o)∧R M2 r v2∧OwnR M2 w.heap.size w' r v2:=by
  intro hres;obtain⟨v,hv1,hv2,hv3⟩:=YU h' hres;refine⟨v,hv1,v,M',rfl,hbel,h'.ext,h'.cons,fun b o hb=>h'.old b o hb,hv2,?_⟩;unfold OwnR
  split
  ·exact absurd rfl (hnl _ _ _ _)
  ·trivial
 cases ex with
 | normal=>exact⟨h'.defers,fin hres⟩
 | ret=>exact⟨h'.defers,fin hres⟩
 | exit id=>exact hres.elim
end
end Go.AM
