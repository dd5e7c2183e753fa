/- s -/
import Derived.Test.YtdghpfejmlpjhaaARun
set_option linter.unusedVariables false
namespace Go.AM
section
variable {P:Program} {n:Nat}
def W (P:Program) (n:Nat) (c:Code) (Q:Ex→Env→Prop) (env:Env):Prop:=∃ ex e',Run P (.code n c env ex e')∧Q ex e'
def WO (P:Program) (n:Nat) (draw:Bool) (all ops:List Oper) (Q:Env→Prop) (env:Env):Prop:=∃ e',Run P (.ops n draw all ops env e')∧Q e'
def Then (c:Code) (P:Program) (n:Nat) (Q:Ex→Env→Prop):Ex→Env→Prop
 | .normal,e=>W P n c Q e
 | ex,e=>Q ex e
theorem W.mono {c:Code} {Q Q':Ex→Env→Prop} {env:Env} (h:W P n c Q env) (hq:∀ ex e,Q ex e→Q' ex e):W P n c Q' env:=by
 obtain⟨ex,e',h1,h2⟩:=h;exact⟨ex,e',h1,hq _ _ h2⟩
theorem W.skip {Q:Ex→Env→Prop} {env:Env} (h:Q .normal env):W P n .skip Q env:=⟨_,_,.skip,h⟩
theorem W.ret {Q:Ex→Env→Prop} {env:Env} (h:Q .ret env):W P n .ret Q env:=⟨_,_,.ret,h⟩
theorem W.exit {Q:Ex→Env→Prop} {env:Env} {id:Nat} (h:Q (.exit id) env):W P n (.exit id) Q env:=⟨_,_,.exit,h⟩
theorem W.seq {x y:Code} {Q:Ex→Env→Prop} {env:Env} (h:W P n x (Then y P n Q) env):W P n (.seq x y) Q env:=by
 obtain⟨ex,e1,h1,h2⟩:=h
 cases ex with
 | normal=>obtain⟨ex2,e2,h3,h4⟩:=h2;exact⟨ex2,e2,.seqN h1 h3,h4⟩
 | exit id=>exact⟨_,e1,.seqX h1,h2⟩
 | ret=>exact⟨_,e1,.seqR h1,h2⟩
theorem W.cond {c:Operand} {x y:Code} {Q:Ex→Env→Prop} {env:Env} (b:Bool) (hc:aop env c=some (.bool b)) (ht:b=true→W P n x Q env) (hf:b=false→W P n y Q env):W P n (.cond c x y) Q env:=by
 cases b with
 | true=>obtain⟨ex,e1,h1,h2⟩:=ht rfl;exact⟨ex,e1,.cond true hc h1,h2⟩
 | false=>obtain⟨ex,e1,h1,h2⟩:=hf rfl;exact⟨ex,e1,.cond false hc h1,h2⟩
def Blk (id:Nat) (Q:Ex→Env→Prop):Ex→Env→Prop:=fun ex e=>Q (ex.unblock id) e
theorem W.block {id:Nat} {c:Code} {Q:Ex→Env→Prop} {env:Env} (h:W P n c (Blk id Q) env):W P n (.block id c) Q env:=by
 obtain⟨ex,e1,h1,h2⟩:=h;exact⟨_,e1,.block h1,h2⟩
theorem W.loop {c:Code} {Q:Ex→Env→Prop} {env:Env} (h:W P n c (Then (.loop c) P n Q) env):W P n (.loop c) Q env:=by
 obtain⟨ex,e1,h1,h2⟩:=h
 cases ex with
 | normal=>obtain⟨ex2,e2,h3,h4⟩:=h2;exact⟨ex2,e2,.loopN h1 h3,h4⟩
 | exit id=>exact⟨_,e1,.loopX h1,h2⟩
 | ret=>exact⟨_,e1,.loopR h1,h2⟩
theorem W.weak {c:Code} {Q:Ex→Env→Prop} {env:Env} (keep frz:List Nat) (nl:List (Nat×Nat×Nat×Nat×Nat)) (rl:List (Nat×Option Nat)) {env':Env} (he:weakE keep frz nl rl env=env') (h:W P n c Q env'):W P n c Q env:=by
 subst he;obtain⟨ex,e1,h1,h2⟩:=h;exact⟨ex,e1,.weak keep frz nl rl h1,h2⟩
theorem W.region {id:Nat} {ops:Array Oper} {draw:Bool} {Q:Ex→Env→Prop} {env:Env} (hd:(!draw || (orderOk ops && Jg ops))=true) (h:WO P n draw ops.toList ops.toList (Q .normal) env):W P n (.region id ops draw) Q env:=by
 obtain⟨e1,h1,h2⟩:=h;refine⟨_,e1,.region (fun hdr=>?_) h1,h2⟩;subst hdr
 simpa using hd
theorem WO.nil {draw:Bool} {all:List Oper} {Q:Env→Prop} {env:Env} (h:Q env):WO P n draw all [] Q env:=⟨env,.nil,h⟩
theorem WO.mono {draw:Bool} {all ops:List Oper} {Q Q':Env→Prop} {env:Env} (h:WO P n draw all ops Q env) (hq:∀ e,Q e→Q' e):WO P n draw all ops Q' env:=by
 obtain⟨e',h1,h2⟩:=h;exact⟨e',h1,hq _ h2⟩
def step1 (P:Program) (n:Nat) (draw:Bool) (all:List Oper) (o:Oper) (env:Env):Option Env :=
 match awanted all o env with
 | some true=>match draw with
  | true=>astepDA P n all o env
  | false=>astep P n o env
 | some false=>eput n o.dst .und env
 | none=>none
def stepsK (P:Program) (n:Nat) (draw:Bool) (all:List Oper):Nat→List Oper→Env→Option Env
 | 0,_,env=>some env
 | _+1,[],env=>some env
 | k+1,o::rest,env=>match step1 P n draw all o env with
  | some e=>stepsK P n draw all k rest e
  | none=>none
theorem DQ {draw:Bool} {all rest:List Oper} {o:Oper} {env e e':Env} (h:step1 P n draw all o env=some e) (hr:Run P (.ops n draw all rest e e')):Run P (.ops n draw all (o::rest) env e'):=by
 unfold step1 at h
 split at h
 ·rename_i hw;refine .op hw ?_ hr;cases draw <;> exact h
 ·rename_i hw;exact .not hw h hr
 ·cases h
theorem WO.steps {draw:Bool} {all:List Oper} {Q:Env→Prop}:∀ (k:Nat) {ops:List Oper} {env e1:Env},stepsK P n draw all k ops env=some e1→WO P n draw all (ops.drop k) Q e1→WO P n draw all ops Q env
 | 0,ops,env,e1,h,hr=>by cases h;exact hr
 | k+1,[],env,e1,h,hr=>by cases h;exact hr
 | k+1,o::rest,env,e1,h,hr=>by
  simp only[stepsK]at h
  split at h
  ·rename_i e he;obtain⟨e',h1,h2⟩:=WO.steps k h hr;exact⟨e',DQ he h1,h2⟩
  ·cases h
theorem WO.step {draw:Bool} {all rest:List Oper} {o:Oper} {Q:Env→Prop} {env e1:Env} (h:step1 P n draw all o env=some e1) (hr:WO P n draw all rest Q e1):WO P n draw all (o::rest) Q env:=by
 obtain⟨e',h1,h2⟩:=hr;exact⟨e',DQ h h1,h2⟩
theorem WO.call {draw:Bool} {all rest:List Oper} {o:Oper} {Q:Env→Prop} {env e1:Env} {f:Nat} {args:List AV} {r:AV} (hw:awanted all o env=some true) (hc:acallee P o env=some (f,args)) (hr:Run P (.call f args r)) (he:callPut n draw o.dst r env=some e1) (h:WO P n draw all rest Q e1):WO P n draw all (o::rest) Q env:=by
 obtain⟨e',h1,h2⟩:=h;exact⟨e',.callOp hw hc hr he h1,h2⟩
theorem WO.row {all:List Oper} {o:Oper} {ops:List Oper} {Q:Env→Prop} {env e1:Env} (hw:awanted all o env=some true) (he:arow P n o env=some e1) (h:WO P n false all ops Q e1):WO P n false all (o::ops) Q env:=by
 obtain⟨e',h1,h2⟩:=h;exact⟨e',.rowOp hw he h1,h2⟩
theorem WO.drop {all ops:List Oper} {Q:Env→Prop} {env:Env} (keep:List Nat) {e1:Env} (he:dropE keep env=e1) (h:WO P n false all ops Q e1):WO P n false all ops Q env:=by
 subst he;obtain⟨e',h1,h2⟩:=h;exact⟨e',.drop keep h1,h2⟩
def Seg (P:Program) (n:Nat) (all:List Oper) (k:Nat) (keep:List Nat) (ops:List Oper) (env envj:Env):Prop :=
 ∀ Q,WO P n false all (ops.drop k) Q envj→WO P n false all ops Q env
theorem Seg.steps {all:List Oper} {k:Nat} {keep:List Nat} {ops:List Oper} {env envj e1:Env} (h:stepsK P n false all k ops env=some e1) (he:dropE keep e1=envj):Seg P n all k keep ops env envj :=
 fun Q hq=>WO.steps k h (WO.drop keep he hq)
def Post (P:Program) (fn:Func) (r:AV):Ex→Env→Prop
 | .exit _,_=>False
 | _,e=>qq P fn e=some r
theorem qfc {f:Nat} {args:List AV} {r:AV} {fn:Func} {c:Code} (hf:P.funcs[f]? = some fn) (hb:fn.body=some c) (hlen:(Nat.ble args.length fn.ntmps && Nat.ble fn.ntmps 1000000)=true) {env0:Env} (he:argsEnv 0 (args.map AV.strip)=env0) (h:W P fn.ntmps c (Post P fn r) env0):Run P (.call f args r):=by
 subst he;obtain⟨ex,e1,h1,h2⟩:=h;refine .call hf hb hlen h1 ?_ ?_
 ·cases ex <;> first | trivial | exact h2
 ·cases ex <;> first | exact h2 | exact h2.elim
theorem W.join {σ:Type} {c:Code} {Q:Ex→Env→Prop} {env:Env} (E:σ→Env) (Pz:σ→Prop) (hrest:∀ s,Pz s→Q .normal (E s)) (h:(∀ s,Pz s→Q .normal (E s))→W P n c Q env):W P n c Q env:=h hrest
theorem W.range {α σ:Type} {c:Code} {Q:Ex→Env→Prop} (xs:List α) (E:Nat→σ→Env) (Pz:List α→Nat→σ→Prop)
  (hnil:∀ s,Pz [] xs.length s→W P n c (Then (.loop c) P n Q) (E xs.length s))
  (hcons:∀ x rest k s,xs[k]? = some x→k<xs.length→Pz (x::rest) k s→(∀ s',Pz rest (k+1) s'→W P n (.loop c) Q (E (k+1) s'))→W P n c (Then (.loop c) P n Q) (E k s)) :
  ∀ s,Pz xs 0 s→W P n (.loop c) Q (E 0 s):=by
 have key:∀ (rest:List α) (k:Nat) (s:σ),xs.drop k=rest→k≤xs.length→Pz rest k s→W P n (.loop c) Q (E k s):=by
  intro rest
  induction rest with
  | nil =>
   intro k s hd hk hp
   have:k=xs.length:=by
    have:=congrArg List.length hd
    simp at this
    omega
   subst this;exact W.loop (hnil s hp)
  | cons x rest ih =>
   intro k s hd hk hp
   have hx:xs[k]? = some x:=by
    have:=congrArg List.head? hd
    simpa[List.head?_drop] using this
   have hlt:k<xs.length:=(List.getElem?_eq_some_iff.1 hx).1;refine W.loop (hcons x rest k s hx hlt hp fun s' hp'=>ih (k+1) s' ?_ hlt hp')
   have:xs.drop (k+1)=(xs.drop k).drop 1:=by rw[List.drop_drop]
   rw[this,hd];rfl
 exact fun s hp=>key xs 0 s (List.drop_zero) (Nat.zero_le _) hp
theorem W.fuel {σ:Type} {c:Code} {Q:Ex→Env→Prop} (E:σ→Env) (Pz:Nat→σ→Prop) (h0:∀ s,Pz 0 s→False)
  (hs:∀ m s,Pz (m+1) s→(∀ s',Pz m s'→W P n (.loop c) Q (E s'))→W P n c (Then (.loop c) P n Q) (E s)) :
  ∀ m s,Pz m s→W P n (.loop c) Q (E s):=by
 intro m
 induction m with
 | zero=>intro s hp;exact (h0 s hp).elim
 | succ m ih=>intro s hp;exact W.loop (hs m s hp ih)
theorem WO.bool {draw:Bool} {all ops:List Oper} {Q:Env→Prop} (E:Bool→Env) (b:Bool) (ht:b=true→WO P n draw all ops Q (E true)) (hf:b=false→WO P n draw all ops Q (E false)):WO P n draw all ops Q (E b):=by
 cases b with
 | true=>exact ht rfl
 | false=>exact hf rfl
def plainOp:Op→Bool
 | .alloc _ | .box .. | .makeSlice .. | .store .. | .buildSlice .. | .makeMap .. | .mapUpdate .. | .range ..=>false
 | .call { callee:=.builtin .append,.. }=>false
 | .call { callee:=.value _,.. }=>false
 | _=>true
theorem NW {o:Oper} {env:Env} (h:plainOp o.op=true):astep P n o env=match apure P o env with
  | some v=>eput n o.dst v env
  | none=>none:=by
 unfold astep
 split <;> first | (cases apure P o env <;> rfl) | simp_all [plainOp]
theorem qcb {o:Op} (h:plainOp o=true):isEff o=false:=by
 unfold isEff
 split <;> simp_all [plainOp]
theorem Yz {all:List Oper} {o:Oper} {env:Env} (h:isApp o.op=false):lfOk all o env=true:=by
 unfold lfOk
 split
 ·rename_i ho;rw[ho]at h;cases h
 ·rfl
theorem Xp {all:List Oper} {o:Oper} {env:Env} {r:Option Env} (hl:lfOk all o env=true) (h:astepD P n o env=r):astepDA P n all o env=r:=by
 unfold astepDA;rw[hl];exact h
theorem qcc {o:Op} (h:plainOp o=true):isApp o=false:=by
 unfold isApp
 split <;> simp_all [plainOp]
theorem WO.pureE {draw:Bool} {all rest:List Oper} {o:Oper} {Q:Env→Prop} {env e1:Env} {v:AV} {X:Option AV} (hw:awanted all o env=some true) (hp:(plainOp o.op && notBox v)=true) (hv:apure P o env=X) (hX:X=some v) (he:eput n o.dst v env=some e1) (h:WO P n draw all rest Q e1):WO P n draw all (o::rest) Q env:=by
 rw[hX]at hv;simp only[Bool.and_eq_true]at hp;refine WO.step (e1:=e1) ?_ h;unfold step1;rw[hw]
 cases draw with
 | true =>
  refine Xp (Yz (qcc hp.1)) ?_;unfold astepD;simp only[qcb hp.1,hv,hp.2,he]
 | false =>
  simp only[NW hp.1,hv,he]
def appPre (P:Program) (all:List Oper) (o:Oper) (env:Env):Option (Nat×Nat×Nat×Nat×List AV×List AV×Env) :=
 match awanted all o env with
 | some true=>match o.op with
  | .call { callee:=.builtin .append,args,argTypes }=>match args.toList,argTypes.toList,o.dst with
   | [x,y],[t,t'],some d=>match aop env x,aop env y with
    | some a,some b=>match jB P t with
     | some (e,s)=>match Nat.beq t t' && Nat.blt 0 s && (match (P.info? e).bind (·.zero) with | some z=>Nat.beq z.cells.size s | none=>false) with
      | false=>none
      | true=>match b with
       | .lst ey ky _ ys=>match Nat.beq ky s with
        | false=>none
        | true=>match a with
         | .nils=>some (d,e,s,((P.info? e).map (·.bytes)).getD 0,[],ys,relabE d none env)
         | .lst ex kx (some c) xs=>match Nat.beq ex e && Nat.beq kx s with
          | false=>none
          | true=>some (d,e,s,((P.info? e).map (·.bytes)).getD 0,xs,ys,relabE d none (relabE c none env))
         | _=>none
       | _=>none
     | none=>none
    | _,_=>none
   | _,_,_=>none
  | _=>none
 | _=>none
def appPreD (P:Program) (draw:Bool) (all:List Oper) (o:Oper) (env:Env):Option (Nat×Nat×Nat×Nat×List AV×List AV×Env) :=
 match !draw || lfOk all o env with
 | true=>appPre P all o env
 | false=>none
theorem UZ {draw:Bool} {all:List Oper} {o:Oper} {env:Env} {r:Nat×Nat×Nat×Nat×List AV×List AV×Env} (h:appPreD P draw all o env=some r):(!draw || lfOk all o env)=true∧appPre P all o env=some r:=by
 unfold appPreD at h
 split at h
 ·rename_i hl;exact⟨hl,h⟩
 ·cases h
def capOk (bytes n:Nat):Bool:=Nat.ble (n * bytes) 140737488355328 && Nat.ble n 140737488355328
theorem WO.append {draw:Bool} {all rest:List Oper} {o:Oper} {Q:Env→Prop} {env env1 e1:Env} {d e s bytes:Nat} {xs ys zs:List AV} (hl:(!draw || lfOk all o env)=true) (hp:appPre P all o env=some (d,e,s,bytes,xs,ys,env1)) (hz:xs++ys=zs) (hc:capOk bytes zs.length=true) (he:eput n (some d) (.lst e s (some d) zs) env1=some e1) (h:WO P n draw all rest Q e1):WO P n draw all (o::rest) Q env:=by
 subst hz;simp only[capOk,Bool.and_eq_true,Nat.ble_eq,List.length_append]at hc;refine WO.step (e1:=e1) ?_ h;unfold step1
 have key:astep P n o env=some e1∧awanted all o env=some true∧isEff o.op=true:=by
  unfold appPre at hp;unfold astep
  split at hp <;> try cases hp
  rename_i hw
  split at hp <;> try cases hp
  rename_i args ats ho
  split at hp <;> try cases hp
  rename_i x y t t' d hax hat hd
  split at hp <;> try cases hp
  rename_i a b ha hb
  split at hp <;> try cases hp
  rename_i e s hse
  split at hp <;> try cases hp
  rename_i hcond
  split at hp <;> try cases hp
  rename_i ey ky l ys
  split at hp <;> try cases hp
  rename_i hky
  have hei:isEff o.op=true:=by rw[ho];rfl
  refine⟨?_,hw,hei⟩;have hcond':=hcond
  split at hp <;> try cases hp
  ·have e1':aappend P t t' d .nils (.lst ey ky l ys) env=some (.lst e s (some d) ys,relabE d none env):=by
    unfold aappend;simp only[hse]
    split
    ·rename_i hcf;exact Bool.noConfusion (hcf.symm.trans hcond')
    ·simp only[hky];rw[if_pos (by simpa using hc)]
   rw[ho];simp only[hax,hat,hd,ha,hb,e1']
   simpa[hd] using he
  ·rename_i ex kx c xs
   split at hp <;> try cases hp
   rename_i hx
   have e1':aappend P t t' d (.lst ex kx (some c) xs) (.lst ey ky l ys) env=some (.lst e s (some d) (xs++ys),relabE d none (relabE c none env)):=by
    unfold aappend;simp only[hse]
    split
    ·rename_i hcf;exact Bool.noConfusion (hcf.symm.trans hcond')
    ·simp only[hky,hx];rw[if_pos hc]
   rw[ho];simp only[hax,hat,hd,ha,hb,e1']
   simpa[hd] using he
 rw[key.2.1]
 cases draw with
 | true =>
  refine Xp hl ?_;unfold astepD;simp only[key.2.2,key.1]
 | false=>exact key.1
def okFn (P:Program) (F:Nat):Bool:=match P.funcs[F]? with
 | some fn => fn.name != "runtime.NumGoroutine" && fn.body.isSome
 | none=>false
def callPre (all:List Oper) (o:Oper) (env:Env):Option (Nat×List AV×List AV) :=
 match awanted all o env with
 | some true=>match o.op with
  | .call { callee:=.value f,args,.. }=>match aop env f,optAll (args.toList.map (aop env)) with
   | some (.clo g caps),some l=>match l.all (fun x=>match x with | .box _ | .pb .. | .sb .. | .pe .. | .obj .. | .tpr .. | .hob .. | .mb .. | .bxg _ | .slf | .agr _ | .clb ..=>false | _=>true) with
    | true=>some (g,l.map AV.strip,caps)
    | false=>none
   | _,_=>none
  | _=>none
 | _=>none
theorem WO.callF {draw:Bool} {all rest:List Oper} {o:Oper} {Q:Env→Prop} {env e1:Env} {F:Nat} {l C:List AV} {r:AV} (hp:callPre all o env=some (F,l,C)) (hok:okFn P F=true) (hr:Run P (.call F (l++C) r)) (he:callPut n draw o.dst r env=some e1) (h:WO P n draw all rest Q e1):WO P n draw all (o::rest) Q env:=by
 unfold callPre at hp
 split at hp <;> try cases hp
 rename_i hw
 split at hp <;> try cases hp
 rename_i f args ats ho
 split at hp <;> try cases hp
 rename_i g caps l hf hl
 split at hp <;> try cases hp
 rename_i hall;refine WO.call hw ?_ hr he h;unfold acallee;rw[ho];simp only[hf,hl];unfold okFn at hok
 split at hok
 ·rename_i fn hfn;simp only[hfn,hok]
  split
  ·rfl
  ·rename_i hcf;exact Bool.noConfusion (hcf.symm.trans hall)
 ·cases hok
theorem qv {α:Type} {c:Bool} {a b x:α} (hb:c=true) (h:(bif c then a else b)=x):a=x:=by subst hb;exact h
theorem qw {α:Type} {c:Bool} {a b x:α} (hb:c=false) (h:(bif c then a else b)=x):b=x:=by subst hb;exact h
def chk {α:Type} (b:Bool) (o:Option α):Option α:=bif b then o else none
theorem qi {α:Type} {b:Bool} {o:Option α} {r:α} (h:chk b o=some r):b=true∧o=some r:=by
 cases b with
 | true=>exact⟨rfl,h⟩
 | false=>cases h
theorem qf {α β:Type} {o:Option α} {f:α→Option β} {r:β} (h:o.bind f=some r):∃ x,o=some x∧f x=some r:=by
 cases o with
 | none=>cases h
 | some x=>exact⟨x,rfl,h⟩
def idx {α:Type} (l:List α) (i:Int):Option α:=if 0≤i then l[i.toNat]? else none
theorem Vo {α:Type} {l:List α} {i:Int} {x:α} {f:α→AV} (h:idx l i=some x):(if 0≤i then ((l.map f)[i.toNat]?).map AV.ptr else none)=some (.ptr (f x)):=by
 unfold idx at h
 split at h
 ·rename_i h0;rw[if_pos h0,List.getElem?_map,h];rfl
 ·cases h
theorem jU {α:Type} {l:List α} {k:Nat} {x:α} {f:α→AV} (h:l[k]? = some x):(if (0:Int)≤(k:Int) then ((l.map f)[(k:Int).toNat]?).map AV.ptr else none)=some (.ptr (f x)) :=
 Vo (l:=l) (by unfold idx;rw[if_pos (Int.natCast_nonneg k),Int.toNat_natCast,h])
def lenOk {α:Type} (l:List α):Bool:=Nat.ble l.length 9223372036854775807
theorem qgw {a:Int} (h1 : -9223372036854775808≤a) (h2:a<9223372036854775808):IntKind.wrap .i64 a=a:=by
 simp[IntKind.wrap,IntKind.signed,IntKind.bits]
 omega
theorem qX {α:Type} {l:List α} {k:Nat} (hl:lenOk l=true) (hk:k<l.length):IntKind.wrap .i64 ((k:Int)+1)=((k+1:Nat):Int):=by
 simp only[lenOk,Nat.ble_eq]at hl;rw[qgw (by omega) (by omega)];rfl
theorem jT {α:Type} {l:List α} {k:Nat} (hk:k<l.length):decide ((k:Int)<(l.length:Int))=true:=by
 simp;exact_mod_cast hk
theorem jw {α:Type} {l:List α}:decide ((l.length:Int)<(l.length:Int))=false:=by
 simp
theorem qfR {n:Int} {k:Nat} (hk:k<(List.range n.toNat).length):decide ((k:Int)<n)=true:=by
 simp at hk;simp;omega
theorem qeP {n:Int}:decide (((List.range n.toNat).length:Int)<n)=false:=by
 simp;omega
def sub {α:Type} (l:List α) (lo hi:Int):Option (List α):=if 0≤lo∧lo≤hi∧hi≤l.length then some ((l.take hi.toNat).drop lo.toNat) else none
theorem qfp {α:Type} {l r:List α} {lo hi:Int} {f:α→AV} {e k:Nat} {lb:Option Nat} (h:sub l lo hi=some r):(if (0:Int)≤lo∧lo≤hi∧hi≤((List.map f l).length:Int) then some (AV.lst e k lb (((List.map f l).take hi.toNat).drop lo.toNat)) else none)=some (AV.lst e k lb (List.map f r)):=by
 unfold sub at h
 split at h
 ·rename_i h0;cases h;rw[if_pos (by simpa using h0),List.map_drop,List.map_take]
 ·cases h
theorem Xb {a:Int} (h:decide (0≤a)=true):¬ a<0:=by
 have:=of_decide_eq_true h;omega
def iAnd (k:IntKind) (a b:Int):Int:=k.wrap ((BitVec.ofInt k.bits a &&& BitVec.ofInt k.bits b).toNat)
def iOr (k:IntKind) (a b:Int):Int:=k.wrap ((BitVec.ofInt k.bits a ||| BitVec.ofInt k.bits b).toNat)
def iShl (k:IntKind) (a b:Int):Int:=k.wrap (a * 2 ^ (min b.toNat k.bits))
def iShr (k:IntKind) (a b:Int):Int:=a.fdiv (2 ^ (min b.toNat k.bits))
def stepsE (P:Program) (n:Nat) (draw:Bool) (all:List Oper) (k:Nat) (ops:List Oper) (env:Env) {α:Type} (f:List Oper→Env→Option α):Option α :=
 match stepsK P n draw all k ops env with
 | some e=>f (ops.drop k) e
 | none=>none
theorem qM {draw:Bool} {all ops:List Oper} {k:Nat} {env:Env} {α:Type} {f:List Oper→Env→Option α} {x:α} (h:stepsE P n draw all k ops env f=some x):∃ e,stepsK P n draw all k ops env=some e∧f (ops.drop k) e=some x:=by
 unfold stepsE at h
 split at h
 ·rename_i e he;exact⟨e,he,h⟩
 ·cases h
def finE (P:Program) (n:Nat) (draw:Bool) (all ops:List Oper) (keep frz:List Nat) (nl:List (Nat×Nat×Nat×Nat×Nat)) (rl:List (Nat×Option Nat)) (env:Env):Option Env :=
 (stepsK P n draw all ops.length ops env).map (weakE keep frz nl rl)
theorem WO.fin {draw:Bool} {all ops:List Oper} {Q:Env→Prop} {env e2:Env} {c:Code} {Q':Ex→Env→Prop} (keep frz:List Nat) (nl:List (Nat×Nat×Nat×Nat×Nat)) (rl:List (Nat×Option Nat)) (he:finE P n draw all ops keep frz nl rl env=some e2) (hQ:∀ e,W P n c Q' e→Q e) (h:W P n c Q' e2):WO P n draw all ops Q env:=by
 unfold finE at he;rw[Option.map_eq_some_iff]at he;obtain⟨e1,h1,h2⟩:=he;refine WO.steps ops.length h1 ?_;rw[List.drop_length];exact .nil (hQ _ (W.weak keep frz nl rl h2 h))
theorem W.regS {id:Nat} {ops:Array Oper} {draw:Bool} {y:Code} {Q:Ex→Env→Prop} {env e2:Env} (keep frz:List Nat) (nl:List (Nat×Nat×Nat×Nat×Nat)) (rl:List (Nat×Option Nat)) (hd:(!draw || (orderOk ops && Jg ops))=true) (he:finE P n draw ops.toList ops.toList keep frz nl rl env=some e2) (h:W P n y Q e2):W P n (.seq (.region id ops draw) y) Q env :=
 W.seq (W.region hd (WO.fin keep frz nl rl he (fun _ h=>h) h))
theorem W.regT {id:Nat} {ops:Array Oper} {draw:Bool} {y:Code} {Q Q':Ex→Env→Prop} {env e2:Env} (keep frz:List Nat) (nl:List (Nat×Nat×Nat×Nat×Nat)) (rl:List (Nat×Option Nat)) (hd:(!draw || (orderOk ops && Jg ops))=true) (he:finE P n draw ops.toList ops.toList keep frz nl rl env=some e2) (hQ:∀ e,W P n y Q' e→Q .normal e) (h:W P n y Q' e2):W P n (.region id ops draw) Q env :=
 W.region hd (WO.fin keep frz nl rl he hQ h)
theorem WO.callK {draw:Bool} {all ops:List Oper} {Q:Env→Prop} {env e1:Env} {F:Nat} {l C:List AV} {r:AV} (k:Nat)
  (hp:stepsE P n draw all k ops env (fun os e=>match os with | o::_=>callPre all o e | []=>none)=some (F,l,C)) (hok:okFn P F=true) (hr:Run P (.call F (l++C) r))
  (he:stepsE P n draw all k ops env (fun os e=>match os with | o::_=>callPut n draw o.dst r e | []=>none)=some e1) (h:WO P n draw all (ops.drop (k+1)) Q e1):WO P n draw all ops Q env:=by
 obtain⟨e,h1,h2⟩:=qM hp;obtain⟨e',h3,h4⟩:=qM he;rw[h1]at h3;cases h3;refine WO.steps k h1 ?_
 have hd:ops.drop (k+1)=(ops.drop k).drop 1:=by rw[List.drop_drop]
 rw[hd]at h
 cases hos:ops.drop k with
 | nil=>rw[hos]at h2;cases h2
 | cons o rest =>
  rw[hos]at h2 h4 h;exact WO.callF h2 hok hr h4 h
theorem WO.agr {all:List Oper} {o:Oper} {ops:List Oper} {Q:Env→Prop} {env e1:Env} (hw:awanted all o env=some true) (he:aagr P n o env=some e1) (h:WO P n false all ops Q e1):WO P n false all (o::ops) Q env:=by
 obtain⟨e',h1,h2⟩:=h;exact⟨e',.agrOp hw he h1,h2⟩
theorem WO.pureK {draw:Bool} {all ops:List Oper} {Q:Env→Prop} {env e1:Env} {v:AV} (k:Nat) (X:Option AV)
  (hp:stepsE P n draw all k ops env (fun os e=>match os with
   | o::_=>match awanted all o e with
    | some true=>match plainOp o.op && notBox v with
     | true=>some (apure P o e)
     | false=>none
    | _=>none
   | []=>none)=some X) (hX:X=some v)
  (he:stepsE P n draw all k ops env (fun os e=>match os with | o::_=>eput n o.dst v e | []=>none)=some e1) (h:WO P n draw all (ops.drop (k+1)) Q e1):WO P n draw all ops Q env:=by
 obtain⟨e,h1,h2⟩:=qM hp;obtain⟨e',h3,h4⟩:=qM he;rw[h1]at h3;cases h3;refine WO.steps k h1 ?_
 have hd:ops.drop (k+1)=(ops.drop k).drop 1:=by rw[List.drop_drop]
 rw[hd]at h
 cases hos:ops.drop k with
 | nil=>rw[hos]at h2;cases h2
 | cons o rest =>
  rw[hos]at h2 h4 h;simp only at h2
  split at h2 <;> try cases h2
  rename_i hw
  split at h2 <;> try cases h2
  rename_i hpl;exact WO.pureE hw hpl rfl hX h4 h
theorem WO.appendK {draw:Bool} {all ops:List Oper} {Q:Env→Prop} {env env1 e1:Env} {d e s bytes:Nat} {xs ys zs:List AV} (k:Nat)
  (hp:stepsE P n draw all k ops env (fun os e=>match os with | o::_=>appPreD P draw all o e | []=>none)=some (d,e,s,bytes,xs,ys,env1)) (hz:xs++ys=zs) (hc:capOk bytes zs.length=true) (he:eput n (some d) (.lst e s (some d) zs) env1=some e1) (h:WO P n draw all (ops.drop (k+1)) Q e1):WO P n draw all ops Q env:=by
 obtain⟨e,h1,h2⟩:=qM hp;refine WO.steps k h1 ?_
 have hd:ops.drop (k+1)=(ops.drop k).drop 1:=by rw[List.drop_drop]
 rw[hd]at h
 cases hos:ops.drop k with
 | nil=>rw[hos]at h2;cases h2
 | cons o rest =>
  rw[hos]at h2 h;exact WO.append (UZ h2).1 (UZ h2).2 hz hc he h
theorem WO.boolK {draw:Bool} {all ops:List Oper} {Q:Env→Prop} {env:Env} (k:Nat) (E:Bool→Env) (b:Bool) (he:stepsK P n draw all k ops env=some (E b)) (ht:b=true→WO P n draw all (ops.drop k) Q (E true)) (hf:b=false→WO P n draw all (ops.drop k) Q (E false)):WO P n draw all ops Q env :=
 WO.steps k he (WO.bool E b ht hf)
def WB (P:Program) (n:Nat) (all ops:List Oper) (Q:Env→Prop) (env:Env):Prop:=∃ e',Run P (.opsB n all ops env e')∧Q (dropB all e')
def stepB1 (P:Program) (n:Nat) (all:List Oper) (o:Oper) (env:Env):Option Env :=
 match awanted all o env with
 | some true=>astepB P n o env
 | _=>none
def stepsB (P:Program) (n:Nat) (all:List Oper):Nat→List Oper→Env→Option Env
 | 0,_,env=>some env
 | _+1,[],env=>some env
 | k+1,o::rest,env=>match stepB1 P n all o env with
  | some e=>stepsB P n all k rest e
  | none=>none
theorem WB.step {all rest:List Oper} {o:Oper} {Q:Env→Prop} {env e1:Env} (h:stepB1 P n all o env=some e1) (hr:WB P n all rest Q e1):WB P n all (o::rest) Q env:=by
 obtain⟨e',h1,h2⟩:=hr;unfold stepB1 at h
 split at h
 ·rename_i hw;exact⟨e',.opB hw h h1,h2⟩
 ·cases h
theorem WB.steps {all:List Oper} {Q:Env→Prop}:∀ (k:Nat) {ops:List Oper} {env e1:Env},stepsB P n all k ops env=some e1→WB P n all (ops.drop k) Q e1→WB P n all ops Q env
 | 0,ops,env,e1,h,hr=>by cases h;exact hr
 | k+1,[],env,e1,h,hr=>by cases h;exact hr
 | k+1,o::rest,env,e1,h,hr=>by
  simp only[stepsB]at h
  split at h
  ·rename_i e he;exact WB.step he (WB.steps k h hr)
  ·cases h
def stepsEB (P:Program) (n:Nat) (all:List Oper) (k:Nat) (ops:List Oper) (env:Env) {α:Type} (f:List Oper→Env→Option α):Option α :=
 match stepsB P n all k ops env with
 | some e=>f (ops.drop k) e
 | none=>none
theorem Ye {all ops:List Oper} {k:Nat} {env:Env} {α:Type} {f:List Oper→Env→Option α} {x:α} (h:stepsEB P n all k ops env f=some x):∃ e,stepsB P n all k ops env=some e∧f (ops.drop k) e=some x:=by
 unfold stepsEB at h
 split at h
 ·rename_i e he;exact⟨e,he,h⟩
 ·cases h
def quietB:Op→Bool
 | .call { callee:=.builtin .append,.. }=>false
 | .buildSlice ..=>false
 | _=>true
theorem qbo {o:Oper} {env:Env} (h:quietB o.op=true):astepB P n o env=match o.dst,apure P o env with
  | some d,some v=>match memFree o.op && notBox v with
   | true=>eput n o.dst v.strip env
   | false=>none
  | _,_=>none:=by
 unfold astepB
 split <;> first | rfl | simp_all [quietB]
theorem WB.pureK {all ops:List Oper} {Q:Env→Prop} {env e1:Env} {v:AV} (k:Nat) (X:Option AV)
  (hp:stepsEB P n all k ops env (fun os e=>match os with
   | o::_=>match awanted all o e with
    | some true=>match quietB o.op && memFree o.op && notBox v && o.dst.isSome with
     | true=>some (apure P o e)
     | false=>none
    | _=>none
   | []=>none)=some X) (hX:X=some v)
  (he:stepsEB P n all k ops env (fun os e=>match os with | o::_=>eput n o.dst v.strip e | []=>none)=some e1) (h:WB P n all (ops.drop (k+1)) Q e1):WB P n all ops Q env:=by
 obtain⟨e,h1,h2⟩:=Ye hp;obtain⟨e',h3,h4⟩:=Ye he;rw[h1]at h3;cases h3;refine WB.steps k h1 ?_
 have hd:ops.drop (k+1)=(ops.drop k).drop 1:=by rw[List.drop_drop]
 rw[hd]at h
 cases hos:ops.drop k with
 | nil=>rw[hos]at h2;cases h2
 | cons o rest =>
  rw[hos]at h2 h4 h;simp only at h2
  split at h2 <;> try cases h2
  rename_i hw
  split at h2 <;> try cases h2
  rename_i hpl;simp only[Bool.and_eq_true]at hpl;refine WB.step (e1:=e1) ?_ h;unfold stepB1;rw[hw];simp only[qbo hpl.1.1.1]
  cases hdst:o.dst with
  | none=>rw[hdst]at hpl;cases hpl.2
  | some d =>
   rw[hX];simp only[hpl.1.1.2,hpl.1.2,Bool.and_self];rw[← hdst];exact h4
def sideB (o:Oper) (env:Env):Bool:=match o.op with
 | .call { callee:=.builtin .append,args,.. }=>match args.toList,o.dst with
  | [.tmp x,.tmp y],some d=>match aop env (.tmp x) with
   | some (.lst _ _ (some c) _)=>Nat.beq c x && !Nat.beq x d && !Nat.beq y d
   | _=>false
  | _,_=>false
 | _=>false
theorem WB.append {all rest:List Oper} {o:Oper} {Q:Env→Prop} {env env1 e1:Env} {d e s bytes:Nat} {xs ys zs:List AV} (hs:sideB o env=true) (hp:appPre P all o env=some (d,e,s,bytes,xs,ys,env1)) (hz:xs++ys=zs) (hc:capOk bytes zs.length=true) (he:eput n (some d) (.lst e s (some d) zs) env1=some e1) (h:WB P n all rest Q e1):WB P n all (o::rest) Q env:=by
 subst hz;simp only[capOk,Bool.and_eq_true,Nat.ble_eq,List.length_append]at hc;refine WB.step (e1:=e1) ?_ h;unfold stepB1;unfold sideB at hs
 split at hs <;> try (cases hs;done)
 rename_i args ats ho
 split at hs <;> try (cases hs;done)
 rename_i x y d' hax hd'
 split at hs <;> try (cases hs;done)
 rename_i ex0 kx0 c0 xs0 hx0;unfold appPre at hp
 split at hp <;> try cases hp
 rename_i hw;rw[ho]at hp;simp only[hax]at hp
 split at hp <;> try cases hp
 rename_i x' y' t t' d2 hxy hat hd;cases hxy;rw[hd']at hd;cases hd;rw[hx0]at hp
 split at hp <;> try cases hp
 rename_i a b ha hb;cases ha
 split at hp <;> try cases hp
 rename_i e s hse
 split at hp <;> try cases hp
 rename_i hcond
 split at hp <;> try cases hp
 rename_i ey ky l ys
 split at hp <;> try cases hp
 rename_i hky;simp only at hp
 split at hp <;> try cases hp
 rename_i hx
 have e1':aappend P t t' d (.lst ex0 kx0 (some c0) xs) (.lst ey ky l ys) env=some (.lst e s (some d) (xs++ys),relabE d none (relabE c0 none env)):=by
  unfold aappend;simp only[hse]
  split
  ·rename_i hcf;exact Bool.noConfusion (hcf.symm.trans hcond)
  ·simp only[hky,hx];rw[if_pos hc]
 unfold astepB;rw[ho];simp only[hax,hat,hd',hx0,hb,hs,e1'];exact he
theorem WB.appendK {all ops:List Oper} {Q:Env→Prop} {env env1 e1:Env} {d e s bytes:Nat} {xs ys zs:List AV} (k:Nat)
  (hs:stepsEB P n all k ops env (fun os e=>match os with | o::_=>some (sideB o e) | []=>none)=some true)
  (hp:stepsEB P n all k ops env (fun os e=>match os with | o::_=>appPre P all o e | []=>none)=some (d,e,s,bytes,xs,ys,env1)) (hz:xs++ys=zs) (hc:capOk bytes zs.length=true) (he:eput n (some d) (.lst e s (some d) zs) env1=some e1) (h:WB P n all (ops.drop (k+1)) Q e1):WB P n all ops Q env:=by
 obtain⟨e,h1,h2⟩:=Ye hp;obtain⟨e',h1',h2'⟩:=Ye hs;rw[h1]at h1';cases h1';refine WB.steps k h1 ?_
 have hd:ops.drop (k+1)=(ops.drop k).drop 1:=by rw[List.drop_drop]
 rw[hd]at h
 cases hos:ops.drop k with
 | nil=>rw[hos]at h2;cases h2
 | cons o rest =>
  rw[hos]at h2 h2' h;exact WB.append (Option.some.inj h2') h2 hz hc he h
def finB (P:Program) (n:Nat) (all ops:List Oper) (keep frz:List Nat) (nl:List (Nat×Nat×Nat×Nat×Nat)) (rl:List (Nat×Option Nat)) (env:Env):Option Env :=
 (stepsB P n all ops.length ops env).map fun e=>weakE keep frz nl rl (dropB all e)
theorem WB.fin {all ops:List Oper} {Q:Env→Prop} {env e2:Env} {c:Code} {Q':Ex→Env→Prop} (keep frz:List Nat) (nl:List (Nat×Nat×Nat×Nat×Nat)) (rl:List (Nat×Option Nat)) (he:finB P n all ops keep frz nl rl env=some e2) (hQ:∀ e,W P n c Q' e→Q e) (h:W P n c Q' e2):WB P n all ops Q env:=by
 unfold finB at he;rw[Option.map_eq_some_iff]at he;obtain⟨e1,h1,h2⟩:=he;refine WB.steps ops.length h1 ?_;rw[List.drop_length];exact⟨e1,.nilB,hQ _ (W.weak keep frz nl rl h2 h)⟩
def encL {α:Type} (e k:Nat) (f:α→AV) (l:List α):AV:=.lst e k none (l.map f)
end
end Go.AM
