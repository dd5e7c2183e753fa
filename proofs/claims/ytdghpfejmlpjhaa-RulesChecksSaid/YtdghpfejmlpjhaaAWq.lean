import Derived.Test.YtdghpfejmlpjhaaARun
set_option linter.all false
open Nat renaming beq→A0, ble→A2, blt→A7, ble_eq→A8
open List renaming map→A1, replicate→A4, drop_drop→A5, getElem?_map→B0, drop_length→B7
open Bool renaming noConfusion→A3, and_eq_true→A6
open Prod renaming fst→A9
open Go.IntKind renaming wrap→B1
open Option renaming map_eq_some_iff→B4
namespace Go.AM
section
variable {P:Program} {n:Nat}
def W (P:Program) (n:Nat) (c:Code) (Q:Ex→Env→Prop) (env:Env):Prop:=∃ ex e',Run P (.code n c env ex e')∧Q ex e'
def WO (P:Program) (n:Nat) (draw:Bool) (all ops:List Oper) (Q:Env→Prop) (env:Env):Prop:=∃ e',Run P (.ops n draw all ops env e')∧Q e'
def Then (c:Code) (P:Program) (n:Nat) (Q:Ex→Env→Prop):Ex→Env→Prop
 | .normal,e=>W P n c Q e
 | ex,e=>Q ex e
theorem W.mono {c:Code} {Q Q':Ex→Env→Prop} {env:Env} (h:W P n c Q env) (hq:∀ ex e,Q ex e→Q' ex e):W P n c Q' env:=by
 obtain⟨ex,e',h1,h2⟩:=h;exact⟨ex,e',h1,hq _ _ h2⟩
theorem W.skip {Q:Ex→Env→Prop} {env:Env} (h:Q .normal env):W P n .skip Q env:=⟨_,_,.skip,h⟩
theorem W.ret {Q:Ex→Env→Prop} {env:Env} (h:Q .ret env):W P n .ret Q env:=⟨_,_,.ret,h⟩
theorem W.exit {Q:Ex→Env→Prop} {env:Env} {id:Nat} (h:Q (.exit id) env):W P n (.exit id) Q env:=⟨_,_,.exit,h⟩
theorem W.seq {x y:Code} {Q:Ex→Env→Prop} {env:Env} (h:W P n x (Then y P n Q) env):W P n (.seq x y) Q env:=by
 obtain⟨ex,e1,h1,h2⟩:=h
 cases ex with
 | normal=>obtain⟨ex2,e2,h3,h4⟩:=h2;exact⟨ex2,e2,.seqN h1 h3,h4⟩
 | exit id=>exact⟨_,e1,.seqX h1,h2⟩
 | ret=>exact⟨_,e1,.seqR h1,h2⟩
theorem W.cond {c:Operand} {x y:Code} {Q:Ex→Env→Prop} {env:Env} (b:Bool) (hc:aop env c=some (.bool b)) (ht:b=true→W P n x Q env) (hf:b=false→W P n y Q env):W P n (.cond c x y) Q env:=by
 cases b with
 | true=>obtain⟨ex,e1,h1,h2⟩:=ht rfl;exact⟨ex,e1,.cond true hc h1,h2⟩
 | false=>obtain⟨ex,e1,h1,h2⟩:=hf rfl;exact⟨ex,e1,.cond false hc h1,h2⟩
def Blk (id:Nat) (Q:Ex→Env→Prop):Ex→Env→Prop:=fun ex e=>Q (ex.unblock id) e
theorem W.block {id:Nat} {c:Code} {Q:Ex→Env→Prop} {env:Env} (h:W P n c (Blk id Q) env):W P n (.block id c) Q env:=by
 obtain⟨ex,e1,h1,h2⟩:=h;exact⟨_,e1,.block h1,h2⟩
theorem W.loop {c:Code} {Q:Ex→Env→Prop} {env:Env} (h:W P n c (Then (.loop c) P n Q) env):W P n (.loop c) Q env:=by
 obtain⟨ex,e1,h1,h2⟩:=h
 cases ex with
 | normal=>obtain⟨ex2,e2,h3,h4⟩:=h2;exact⟨ex2,e2,.loopN h1 h3,h4⟩
 | exit id=>exact⟨_,e1,.loopX h1,h2⟩
 | ret=>exact⟨_,e1,.loopR h1,h2⟩
theorem W.weak {c:Code} {Q:Ex→Env→Prop} {env:Env} (keep frz:List Nat) (nl:List (Nat×Nat×Nat×Nat×Nat)) (rl:List (Nat×Option Nat)) {env':Env} (he:weakE keep frz nl rl env=env') (h:W P n c Q env'):W P n c Q env:=by
 subst he;obtain⟨ex,e1,h1,h2⟩:=h;exact⟨ex,e1,.weak keep frz nl rl h1,h2⟩
theorem W.region {id:Nat} {ops:Array Oper} {draw:Bool} {Q:Ex→Env→Prop} {env:Env} (hd:(!draw||(orderOk ops&&Jr ops))=true) (h:WO P n draw ops.toList ops.toList (Q .normal) env):W P n (.region id ops draw) Q env:=by
 obtain⟨e1,h1,h2⟩:=h;refine⟨_,e1,.region (fun hdr=>?_) h1,h2⟩;subst hdr
 simpa using hd
theorem WO.nil {draw:Bool} {all:List Oper} {Q:Env→Prop} {env:Env} (h:Q env):WO P n draw all [] Q env:=⟨env,.nil,h⟩
theorem WO.mono {draw:Bool} {all ops:List Oper} {Q Q':Env→Prop} {env:Env} (h:WO P n draw all ops Q env) (hq:∀ e,Q e→Q' e):WO P n draw all ops Q' env:=by
 obtain⟨e',h1,h2⟩:=h;exact⟨e',h1,hq _ h2⟩
def step1 (P:Program) (n:Nat) (draw:Bool) (all:List Oper) (o:Oper) (env:Env):Option Env :=
 match awanted all o env with
 | some true=>match draw with
  | true=>astepDA P n all o env
  | false=>astep P n o env
 | some false=>eput n o.dst .und env
 | none=>none
def stepsK (P:Program) (n:Nat) (draw:Bool) (all:List Oper):Nat→List Oper→Env→Option Env
 | 0,_,env=>some env
 | _+1,[],env=>some env
 | k+1,o::rest,env=>match step1 P n draw all o env with
  | some e=>stepsK P n draw all k rest e
  | none=>none
theorem qcO {draw:Bool} {all rest:List Oper} {o:Oper} {env e e':Env} (h:step1 P n draw all o env=some e) (hr:Run P (.ops n draw all rest e e')):Run P (.ops n draw all (o::rest) env e'):=by
 unfold step1 at h;split at h
 ·rename_i hw;refine .op hw ?_ hr;cases draw<;>exact h
 ·rename_i hw;exact .not hw h hr
 ·cases h
theorem WO.steps {draw:Bool} {all:List Oper} {Q:Env→Prop}:∀ (k:Nat) {ops:List Oper} {env e1:Env},stepsK P n draw all k ops env=some e1→WO P n draw all (ops.drop k) Q e1→WO P n draw all ops Q env
 | 0,ops,env,e1,h,hr=>by cases h;exact hr
 | k+1,[],env,e1,h,hr=>by cases h;exact hr
 | k+1,o::rest,env,e1,h,hr=>by
  simp only[stepsK]at h;split at h
  ·rename_i e he;obtain⟨e',h1,h2⟩:=WO.steps k h hr;exact⟨e',qcO he h1,h2⟩
  ·cases h
theorem WO.step {draw:Bool} {all rest:List Oper} {o:Oper} {Q:Env→Prop} {env e1:Env} (h:step1 P n draw all o env=some e1) (hr:WO P n draw all rest Q e1):WO P n draw all (o::rest) Q env:=by
 obtain⟨e',h1,h2⟩:=hr;exact⟨e',qcO h h1,h2⟩
theorem WO.call {draw:Bool} {all rest:List Oper} {o:Oper} {Q:Env→Prop} {env e1:Env} {f:Nat} {args:List AV} {r:AV} (hw:awanted all o env=some true) (hc:acallee P o env=some (f,args)) (hr:Run P (.call f args r)) (he:callPut n draw o.dst r env=some e1) (h:WO P n draw all rest Q e1):WO P n draw all (o::rest) Q env:=by
 obtain⟨e',h1,h2⟩:=h;exact⟨e',.callOp hw hc hr he h1,h2⟩
theorem WO.row {all:List Oper} {o:Oper} {ops:List Oper} {Q:Env→Prop} {env e1:Env} (hw:awanted all o env=some true) (he:arow P n o env=some e1) (h:WO P n false all ops Q e1):WO P n false all (o::ops) Q env:=by
 obtain⟨e',h1,h2⟩:=h;exact⟨e',.rowOp hw he h1,h2⟩
theorem WO.drop {all ops:List Oper} {Q:Env→Prop} {env:Env} (keep:List Nat) {e1:Env} (he:dropE keep env=e1) (h:WO P n false all ops Q e1):WO P n false all ops Q env:=by
 subst he;obtain⟨e',h1,h2⟩:=h;exact⟨e',.drop keep h1,h2⟩
def Seg (P:Program) (n:Nat) (all:List Oper) (k:Nat) (keep:List Nat) (ops:List Oper) (env envj:Env):Prop :=
 ∀ Q,WO P n false all (ops.drop k) Q envj→WO P n false all ops Q env
theorem Seg.steps {all:List Oper} {k:Nat} {keep:List Nat} {ops:List Oper} {env envj e1:Env} (h:stepsK P n false all k ops env=some e1) (he:dropE keep e1=envj):Seg P n all k keep ops env envj :=
 fun Q hq=>WO.steps k h (WO.drop keep he hq)
def Post (P:Program) (fn:Func) (r:AV):Ex→Env→Prop
 | .exit _,_=>False
 | _,e=>ju P fn e=some r
theorem qir {f:Nat} {args:List AV} {r:AV} {fn:Func} {c:Code} (hf:P.funcs[f]? = some fn) (hb:fn.body=some c) (hlen:(A2 args.length fn.ntmps&&A2 fn.ntmps 1000000)=true) {env0:Env} (he:argsEnv 0 (args.map AV.strip)=env0) (h:W P fn.ntmps c (Post P fn r) env0):Run P (.call f args r):=by
 subst he;obtain⟨ex,e1,h1,h2⟩:=h;refine .call hf hb hlen h1 ?_ ?_
 ·cases ex<;>first | trivial | exact h2
 ·cases ex<;>first | exact h2 | exact h2.elim
theorem W.join {σ:Type} {c:Code} {Q:Ex→Env→Prop} {env:Env} (E:σ→Env) (Pz:σ→Prop) (hrest:∀ s,Pz s→Q .normal (E s)) (h:(∀ s,Pz s→Q .normal (E s))→W P n c Q env):W P n c Q env:=h hrest
theorem W.range {α σ:Type} {c:Code} {Q:Ex→Env→Prop} (xs:List α) (E:Nat→σ→Env) (Pz:List α→Nat→σ→Prop)
  (hnil:∀ s,Pz [] xs.length s→W P n c (Then (.loop c) P n Q) (E xs.length s))
  (hcons:∀ x rest k s,xs[k]? = some x→k<xs.length→Pz (x::rest) k s→(∀ s',Pz rest (k+1) s'→W P n (.loop c) Q (E (k+1) s'))→W P n c (Then (.loop c) P n Q) (E k s)) :
  ∀ s,Pz xs 0 s→W P n (.loop c) Q (E 0 s):=by
 have key:∀ (rest:List α) (k:Nat) (s:σ),xs.drop k=rest→k≤xs.length→Pz rest k s→W P n (.loop c) Q (E k s):=by
  intro rest
  induction rest with
  | nil =>
   intro k s hd hk hp
   have:k=xs.length:=by
    have:=congrArg List.length hd;simp at this;omega
   subst this;exact W.loop (hnil s hp)
  | cons x rest ih =>
   intro k s hd hk hp
   have hx:xs[k]? = some x:=by
    have:=congrArg List.head? hd
    simpa[List.head?_drop] using this
   have hlt:k<xs.length:=(List.getElem?_eq_some_iff.1 hx).1;refine W.loop (hcons x rest k s hx hlt hp fun s' hp'=>ih (k+1) s' ?_ hlt hp')
   have:xs.drop (k+1)=(xs.drop k).drop 1:=by rw[A5]
   rw[this,hd];rfl
 exact fun s hp=>key xs 0 s (List.drop_zero) (Nat.zero_le _) hp
theorem W.fuel {σ:Type} {c:Code} {Q:Ex→Env→Prop} (E:σ→Env) (Pz:Nat→σ→Prop) (h0:∀ s,Pz 0 s→False)
  (hs:∀ m s,Pz (m+1) s→(∀ s',Pz m s'→W P n (.loop c) Q (E s'))→W P n c (Then (.loop c) P n Q) (E s)) :
  ∀ m s,Pz m s→W P n (.loop c) Q (E s):=by
 intro m
 induction m with
 | zero=>intro s hp;exact (h0 s hp).elim
 | succ m ih=>intro s hp;exact W.loop (hs m s hp ih)
theorem WO.bool {draw:Bool} {all ops:List Oper} {Q:Env→Prop} (E:Bool→Env) (b:Bool) (ht:b=true→WO P n draw all ops Q (E true)) (hf:b=false→WO P n draw all ops Q (E false)):WO P n draw all ops Q (E b):=by
 cases b with
 | true=>exact ht rfl
 | false=>exact hf rfl
def plainOp:Op→Bool
 | .alloc _ | .box .. | .makeSlice .. | .store .. | .buildSlice .. | .makeMap .. | .mapUpdate .. | .range ..=>false
 | .call { callee:=.builtin .append,.. }=>false
 | .call { callee:=.value _,.. }=>false
 | _=>true
theorem qaO {o:Oper} {env:Env} (h:plainOp o.op=true):astep P n o env=match apure P o env with
  | some v=>eput n o.dst v env
  | none=>none:=by
 unfold astep
 split<;>first | (cases apure P o env<;>rfl) | simp_all [plainOp]
theorem qfj {o:Op} (h:plainOp o=true):isEff o=false:=by
 unfold isEff;split<;>simp_all [plainOp]
theorem Vv {all:List Oper} {o:Oper} {env:Env} (h:isApp o.op=false):lfOk all o env=true:=by
 unfold lfOk;split
 ·rename_i ho;rw[ho]at h;cases h
 ·rfl
theorem YT {all:List Oper} {o:Oper} {env:Env} {r:Option Env} (hl:lfOk all o env=true) (h:astepD P n o env=r):astepDA P n all o env=r:=by
 unfold astepDA;rw[hl];exact h
theorem qfk {o:Op} (h:plainOp o=true):isApp o=false:=by
 unfold isApp;split<;>simp_all [plainOp]
theorem WO.pureE {draw:Bool} {all rest:List Oper} {o:Oper} {Q:Env→Prop} {env e1:Env} {v:AV} {X:Option AV} (hw:awanted all o env=some true) (hp:(plainOp o.op&&notBox v)=true) (hv:apure P o env=X) (hX:X=some v) (he:eput n o.dst v env=some e1) (h:WO P n draw all rest Q e1):WO P n draw all (o::rest) Q env:=by
 rw[hX]at hv;simp only[A6]at hp;refine WO.step (e1:=e1) ?_ h;unfold step1;rw[hw]
 cases draw with
 | true =>
  refine YT (Vv (qfk hp.1)) ?_;unfold astepD;simp only[qfj hp.1,hv,hp.2,he]
 | false =>
  simp only[qaO hp.1,hv,he]
def appPre (P:Program) (all:List Oper) (o:Oper) (env:Env):Option (Nat×Nat×Nat×Nat×List AV×List AV×Env) :=
 match awanted all o env with
 | some true=>match o.op with
  | .call { callee:=.builtin .append,args,argTypes }=>match args.toList,argTypes.toList,o.dst with
   | [x,y],[t,t'],some d=>match aop env x,aop env y with
    | some a,some b=>match Jl P t with
     | some (e,s)=>match A0 t t'&&A7 0 s&&(match (P.info? e).bind (·.zero) with | some z=>A0 z.cells.size s | none=>false) with
      | false=>none
      | true=>match b with
       | .lst ey ky _ ys=>match A0 ky s with
        | false=>none
        | true=>match a with
         | .nils=>some (d,e,s,((P.info? e).map (·.bytes)).getD 0,[],ys,relabE d none env)
         | .lst ex kx (some c) xs=>match A0 ex e&&A0 kx s with
          | false=>none
          | true=>some (d,e,s,((P.info? e).map (·.bytes)).getD 0,xs,ys,relabE d none (relabE c none env))
         | _=>none
       | _=>none
     | none=>none
    | _,_=>none
   | _,_,_=>none
  | _=>none
 | _=>none
def appPreD (P:Program) (draw:Bool) (all:List Oper) (o:Oper) (env:Env):Option (Nat×Nat×Nat×Nat×List AV×List AV×Env) :=
 match !draw||lfOk all o env with
 | true=>appPre P all o env
 | false=>none
theorem DQ {draw:Bool} {all:List Oper} {o:Oper} {env:Env} {r:Nat×Nat×Nat×Nat×List AV×List AV×Env} (h:appPreD P draw all o env=some r):(!draw||lfOk all o env)=true∧appPre P all o env=some r:=by
 unfold appPreD at h;split at h
 ·rename_i hl;exact⟨hl,h⟩
 ·cases h
def capOk (bytes n:Nat):Bool:=A2 (n*bytes) 140737488355328&&A2 n 140737488355328
theorem WO.append {draw:Bool} {all rest:List Oper} {o:Oper} {Q:Env→Prop} {env env1 e1:Env} {d e s bytes:Nat} {xs ys zs:List AV} (hl:(!draw||lfOk all o env)=true) (hp:appPre P all o env=some (d,e,s,bytes,xs,ys,env1)) (hz:xs++ys=zs) (hc:capOk bytes zs.length=true) (he:eput n (some d) (.lst e s (some d) zs) env1=some e1) (h:WO P n draw all rest Q e1):WO P n draw all (o::rest) Q env:=by
 subst hz;simp only[capOk,A6,A8,List.length_append]at hc;refine WO.step (e1:=e1) ?_ h;unfold step1
 have key:astep P n o env=some e1∧awanted all o env=some true∧isEff o.op=true:=by
  unfold appPre at hp;unfold astep
  split at hp<;>try cases hp
  rename_i hw
  split at hp<;>try cases hp
  rename_i args ats ho
  split at hp<;>try cases hp
  rename_i x y t t' d hax hat hd
  split at hp<;>try cases hp
  rename_i a b ha hb
  split at hp<;>try cases hp
  rename_i e s hse
  split at hp<;>try cases hp
  rename_i hcond
  split at hp<;>try cases hp
  rename_i ey ky l ys
  split at hp<;>try cases hp
  rename_i hky
  have hei:isEff o.op=true:=by rw[ho];rfl
  refine⟨?_,hw,hei⟩;have hcond':=hcond
  split at hp<;>try cases hp
  ·have e1':aappend P t t' d .nils (.lst ey ky l ys) env=some (.lst e s (some d) ys,relabE d none env):=by
    unfold aappend;simp only[hse];split
    ·rename_i hcf;exact A3 (hcf.symm.trans hcond')
    ·simp only[hky];rw[if_pos (by simpa using hc)]
   rw[ho];simp only[hax,hat,hd,ha,hb,e1']
   simpa[hd] using he
  ·rename_i ex kx c xs
   split at hp<;>try cases hp
   rename_i hx
   have e1':aappend P t t' d (.lst ex kx (some c) xs) (.lst ey ky l ys) env=some (.lst e s (some d) (xs++ys),relabE d none (relabE c none env)):=by
    unfold aappend;simp only[hse];split
    ·rename_i hcf;exact A3 (hcf.symm.trans hcond')
    ·simp only[hky,hx];rw[if_pos hc]
   rw[ho];simp only[hax,hat,hd,ha,hb,e1']
   simpa[hd] using he
 rw[key.2.1]
 cases draw with
 | true =>
  refine YT hl ?_;unfold astepD;simp only[key.2.2,key.1]
 | false=>exact key.1
def okFn (P:Program) (F:Nat):Bool:=match P.funcs[F]? with
 | some fn => fn.name != "runtime.NumGoroutine"&&fn.body.isSome
 | none=>false
def callPre (all:List Oper) (o:Oper) (env:Env):Option (Nat×List AV×List AV) :=
 match awanted all o env with
 | some true=>match o.op with
  | .call { callee:=.value f,args,.. }=>match aop env f,optAll (args.toList.map (aop env)) with
   | some (.clo g caps),some l=>match l.all (fun x=>match x with | .box _ | .pb .. | .sb .. | .pe .. | .obj .. | .tpr .. | .hob .. | .mb .. | .bxg _ | .slf | .agr _ | .clb ..=>false | _=>true) with
    | true=>some (g,l.map AV.strip,caps)
    | false=>none
   | _,_=>none
  | _=>none
 | _=>none
theorem WO.callF {draw:Bool} {all rest:List Oper} {o:Oper} {Q:Env→Prop} {env e1:Env} {F:Nat} {l C:List AV} {r:AV} (hp:callPre all o env=some (F,l,C)) (hok:okFn P F=true) (hr:Run P (.call F (l++C) r)) (he:callPut n draw o.dst r env=some e1) (h:WO P n draw all rest Q e1):WO P n draw all (o::rest) Q env:=by
 unfold callPre at hp
 split at hp<;>try cases hp
 rename_i hw
 split at hp<;>try cases hp
 rename_i f args ats ho
 split at hp<;>try cases hp
 rename_i g caps l hf hl
 split at hp<;>try cases hp
 rename_i hall;refine WO.call hw ?_ hr he h;unfold acallee;rw[ho];simp only[hf,hl];unfold okFn at hok;split at hok
 ·rename_i fn hfn;simp only[hfn,hok];split
  ·rfl
  ·rename_i hcf;exact A3 (hcf.symm.trans hall)
 ·cases hok
def chk {α:Type} (b:Bool) (o:Option α):Option α:=bif b then o else none
theorem qi {α:Type} {b:Bool} {o:Option α} {r:α} (h:chk b o=some r):b=true∧o=some r:=by
 cases b with
 | true=>exact⟨rfl,h⟩
 | false=>cases h
theorem qe {α β:Type} {o:Option α} {f:α→Option β} {r:β} (h:o.bind f=some r):∃ x,o=some x∧f x=some r:=by
 cases o with
 | none=>cases h
 | some x=>exact⟨x,rfl,h⟩
def idx {α:Type} (l:List α) (i:Int):Option α:=if 0≤i then l[i.toNat]? else none
theorem QZ {α:Type} {l:List α} {i:Int} {x:α} {f:α→AV} (h:idx l i=some x):(if 0≤i then ((l.map f)[i.toNat]?).map AV.ptr else none)=some (.ptr (f x)):=by
 unfold idx at h;split at h
 ·rename_i h0;rw[if_pos h0,B0,h];rfl
 ·cases h
theorem qV {α:Type} {l:List α} {k:Nat} {x:α} {f:α→AV} (h:l[k]? = some x):(if (0:Int)≤(k:Int) then ((l.map f)[(k:Int).toNat]?).map AV.ptr else none)=some (.ptr (f x)) :=
 QZ (l:=l) (by unfold idx;rw[if_pos (Int.natCast_nonneg k),Int.toNat_natCast,h])
def lenOk {α:Type} (l:List α):Bool:=A2 l.length 9223372036854775807
theorem qjG {a:Int} (h1 : -9223372036854775808≤a) (h2:a<9223372036854775808):B1 .i64 a=a:=by
 simp[B1,IntKind.signed,IntKind.bits];omega
theorem qy {α:Type} {l:List α} {k:Nat} (hl:lenOk l=true) (hk:k<l.length):B1 .i64 ((k:Int)+1)=((k+1:Nat):Int):=by
 simp only[lenOk,A8]at hl;rw[qjG (by omega) (by omega)];rfl
theorem qU {α:Type} {l:List α} {k:Nat} (hk:k<l.length):decide ((k:Int)<(l.length:Int))=true:=by
 simp;exact_mod_cast hk
theorem qJ {α:Type} {l:List α}:decide ((l.length:Int)<(l.length:Int))=false:=by
 simp
theorem Nq {n:Int} {k:Nat} (hk:k<(List.range n.toNat).length):decide ((k:Int)<n)=true:=by
 simp at hk;simp;omega
theorem Up {n:Int}:decide (((List.range n.toNat).length:Int)<n)=false:=by
 simp;omega
def sub {α:Type} (l:List α) (lo hi:Int):Option (List α):=if 0≤lo∧lo≤hi∧hi≤l.length then some ((l.take hi.toNat).drop lo.toNat) else none
theorem qfV {α:Type} {l r:List α} {lo hi:Int} {f:α→AV} {e k:Nat} {lb:Option Nat} (h:sub l lo hi=some r):(if (0:Int)≤lo∧lo≤hi∧hi≤((A1 f l).length:Int) then some (AV.lst e k lb (((A1 f l).take hi.toNat).drop lo.toNat)) else none)=some (AV.lst e k lb (A1 f r)):=by
 unfold sub at h;split at h
 ·rename_i h0;cases h;rw[if_pos (by simpa using h0),List.map_drop,List.map_take]
 ·cases h
theorem qcv {a:Int} (h:decide (0≤a)=true):¬ a<0:=by
 have:=oT h;omega
def iOr (k:IntKind) (a b:Int):Int:=k.wrap ((BitVec.ofInt k.bits a ||| BitVec.ofInt k.bits b).toNat)
def iShl (k:IntKind) (a b:Int):Int:=k.wrap (a*2 ^ (min b.toNat k.bits))
def stepsE (P:Program) (n:Nat) (draw:Bool) (all:List Oper) (k:Nat) (ops:List Oper) (env:Env) {α:Type} (f:List Oper→Env→Option α):Option α :=
 match stepsK P n draw all k ops env with
 | some e=>f (ops.drop k) e
 | none=>none
theorem qZ {draw:Bool} {all ops:List Oper} {k:Nat} {env:Env} {α:Type} {f:List Oper→Env→Option α} {x:α} (h:stepsE P n draw all k ops env f=some x):∃ e,stepsK P n draw all k ops env=some e∧f (ops.drop k) e=some x:=by
 unfold stepsE at h;split at h
 ·rename_i e he;exact⟨e,he,h⟩
 ·cases h
def finE (P:Program) (n:Nat) (draw:Bool) (all ops:List Oper) (keep frz:List Nat) (nl:List (Nat×Nat×Nat×Nat×Nat)) (rl:List (Nat×Option Nat)) (env:Env):Option Env :=
 (stepsK P n draw all ops.length ops env).map (weakE keep frz nl rl)
theorem WO.fin {draw:Bool} {all ops:List Oper} {Q:Env→Prop} {env e2:Env} {c:Code} {Q':Ex→Env→Prop} (keep frz:List Nat) (nl:List (Nat×Nat×Nat×Nat×Nat)) (rl:List (Nat×Option Nat)) (he:finE P n draw all ops keep frz nl rl env=some e2) (hQ:∀ e,W P n c Q' e→Q e) (h:W P n c Q' e2):WO P n draw all ops Q env:=by
 unfold finE at he;rw[B4]at he;obtain⟨e1,h1,h2⟩:=he;refine WO.steps ops.length h1 ?_;rw[B7];exact .nil (hQ _ (W.weak keep frz nl rl h2 h))
theorem W.regS {id:Nat} {ops:Array Oper} {draw:Bool} {y:Code} {Q:Ex→Env→Prop} {env e2:Env} (keep frz:List Nat) (nl:List (Nat×Nat×Nat×Nat×Nat)) (rl:List (Nat×Option Nat)) (hd:(!draw||(orderOk ops&&Jr ops))=true) (he:finE P n draw ops.toList ops.toList keep frz nl rl env=some e2) (h:W P n y Q e2):W P n (.seq (.region id ops draw) y) Q env :=
 W.seq (W.region hd (WO.fin keep frz nl rl he (fun _ h=>h) h))
theorem W.regT {id:Nat} {ops:Array Oper} {draw:Bool} {y:Code} {Q Q':Ex→Env→Prop} {env e2:Env} (keep frz:List Nat) (nl:List (Nat×Nat×Nat×Nat×Nat)) (rl:List (Nat×Option Nat)) (hd:(!draw||(orderOk ops&&Jr ops))=true) (he:finE P n draw ops.toList ops.toList keep frz nl rl env=some e2) (hQ:∀ e,W P n y Q' e→Q .normal e) (h:W P n y Q' e2):W P n (.region id ops draw) Q env :=
 W.region hd (WO.fin keep frz nl rl he hQ h)
theorem WO.callK {draw:Bool} {all ops:List Oper} {Q:Env→Prop} {env e1:Env} {F:Nat} {l C:List AV} {r:AV} (k:Nat)
  (hp:stepsE P n draw all k ops env (fun os e=>match os with | o::_=>callPre all o e | []=>none)=some (F,l,C)) (hok:okFn P F=true) (hr:Run P (.call F (l++C) r))
  (he:stepsE P n draw all k ops env (fun os e=>match os with | o::_=>callPut n draw o.dst r e | []=>none)=some e1) (h:WO P n draw all (ops.drop (k+1)) Q e1):WO P n draw all ops Q env:=by
 obtain⟨e,h1,h2⟩:=qZ hp;obtain⟨e',h3,h4⟩:=qZ he;rw[h1]at h3;cases h3;refine WO.steps k h1 ?_
 have hd:ops.drop (k+1)=(ops.drop k).drop 1:=by rw[A5]
 rw[hd]at h
 cases hos:ops.drop k with
 | nil=>rw[hos]at h2;cases h2
 | cons o rest =>
  rw[hos]at h2 h4 h;exact WO.callF h2 hok hr h4 h
theorem WO.agr {all:List Oper} {o:Oper} {ops:List Oper} {Q:Env→Prop} {env e1:Env} (hw:awanted all o env=some true) (he:aagr P n o env=some e1) (h:WO P n false all ops Q e1):WO P n false all (o::ops) Q env:=by
 obtain⟨e',h1,h2⟩:=h;exact⟨e',.agrOp hw he h1,h2⟩
theorem WO.pureK {draw:Bool} {all ops:List Oper} {Q:Env→Prop} {env e1:Env} {v:AV} (k:Nat) (X:Option AV)
  (hp:stepsE P n draw all k ops env (fun os e=>match os with
   | o::_=>match awanted all o e with
    | some true=>match plainOp o.op&&notBox v with
     | true=>some (apure P o e)
     | false=>none
    | _=>none
   | []=>none)=some X) (hX:X=some v)
  (he:stepsE P n draw all k ops env (fun os e=>match os with | o::_=>eput n o.dst v e | []=>none)=some e1) (h:WO P n draw all (ops.drop (k+1)) Q e1):WO P n draw all ops Q env:=by
 obtain⟨e,h1,h2⟩:=qZ hp;obtain⟨e',h3,h4⟩:=qZ he;rw[h1]at h3;cases h3;refine WO.steps k h1 ?_
 have hd:ops.drop (k+1)=(ops.drop k).drop 1:=by rw[A5]
 rw[hd]at h
 cases hos:ops.drop k with
 | nil=>rw[hos]at h2;cases h2
 | cons o rest =>
  rw[hos]at h2 h4 h;simp only at h2
  split at h2<;>try cases h2
  rename_i hw
  split at h2<;>try cases h2
  rename_i hpl;exact WO.pureE hw hpl rfl hX h4 h
theorem WO.appendK {draw:Bool} {all ops:List Oper} {Q:Env→Prop} {env env1 e1:Env} {d e s bytes:Nat} {xs ys zs:List AV} (k:Nat)
  (hp:stepsE P n draw all k ops env (fun os e=>match os with | o::_=>appPreD P draw all o e | []=>none)=some (d,e,s,bytes,xs,ys,env1)) (hz:xs++ys=zs) (hc:capOk bytes zs.length=true) (he:eput n (some d) (.lst e s (some d) zs) env1=some e1) (h:WO P n draw all (ops.drop (k+1)) Q e1):WO P n draw all ops Q env:=by
 obtain⟨e,h1,h2⟩:=qZ hp;refine WO.steps k h1 ?_
 have hd:ops.drop (k+1)=(ops.drop k).drop 1:=by rw[A5]
 rw[hd]at h
 cases hos:ops.drop k with
 | nil=>rw[hos]at h2;cases h2
 | cons o rest =>
  rw[hos]at h2 h;exact WO.append (DQ h2).1 (DQ h2).2 hz hc he h
theorem WO.boolK {draw:Bool} {all ops:List Oper} {Q:Env→Prop} {env:Env} (k:Nat) (E:Bool→Env) (b:Bool) (he:stepsK P n draw all k ops env=some (E b)) (ht:b=true→WO P n draw all (ops.drop k) Q (E true)) (hf:b=false→WO P n draw all (ops.drop k) Q (E false)):WO P n draw all ops Q env :=
 WO.steps k he (WO.bool E b ht hf)
def WB (P:Program) (n:Nat) (all ops:List Oper) (Q:Env→Prop) (env:Env):Prop:=∃ e',Run P (.opsB n all ops env e')∧Q (dropB all e')
def stepB1 (P:Program) (n:Nat) (all:List Oper) (o:Oper) (env:Env):Option Env :=
 match awanted all o env with
 | some true=>astepB P n o env
 | _=>none
def stepsB (P:Program) (n:Nat) (all:List Oper):Nat→List Oper→Env→Option Env
 | 0,_,env=>some env
 | _+1,[],env=>some env
 | k+1,o::rest,env=>match stepB1 P n all o env with
  | some e=>stepsB P n all k rest e
  | none=>none
theorem WB.step {all rest:List Oper} {o:Oper} {Q:Env→Prop} {env e1:Env} (h:stepB1 P n all o env=some e1) (hr:WB P n all rest Q e1):WB P n all (o::rest) Q env:=by
 obtain⟨e',h1,h2⟩:=hr;unfold stepB1 at h;split at h
 ·rename_i hw;exact⟨e',.opB hw h h1,h2⟩
 ·cases h
theorem WB.steps {all:List Oper} {Q:Env→Prop}:∀ (k:Nat) {ops:List Oper} {env e1:Env},stepsB P n all k ops env=some e1→WB P n all (ops.drop k) Q e1→WB P n all ops Q env
 | 0,ops,env,e1,h,hr=>by cases h;exact hr
 | k+1,[],env,e1,h,hr=>by cases h;exact hr
 | k+1,o::rest,env,e1,h,hr=>by
  simp only[stepsB]at h;split at h
  ·rename_i e he;exact WB.step he (WB.steps k h hr)
  ·cases h
def stepsEB (P:Program) (n:Nat) (all:List Oper) (k:Nat) (ops:List Oper) (env:Env) {α:Type} (f:List Oper→Env→Option α):Option α :=
 match stepsB P n all k ops env with
 | some e=>f (ops.drop k) e
 | none=>none
theorem ZZ {all ops:List Oper} {k:Nat} {env:Env} {α:Type} {f:List Oper→Env→Option α} {x:α} (h:stepsEB P n all k ops env f=some x):∃ e,stepsB P n all k ops env=some e∧f (ops.drop k) e=some x:=by
 unfold stepsEB at h;split at h
 ·rename_i e he;exact⟨e,he,h⟩
 ·cases h
def quietB:Op→Bool
 | .call { callee:=.builtin .append,.. }=>false
 | .buildSlice ..=>false
 | _=>true
theorem qeq {o:Oper} {env:Env} (h:quietB o.op=true):astepB P n o env=match o.dst,apure P o env with
  | some d,some v=>match memFree o.op&&notBox v with
   | true=>eput n o.dst v.strip env
   | false=>none
  | _,_=>none:=by
 unfold astepB
 split<;>first | rfl | simp_all [quietB]
theorem WB.pureK {all ops:List Oper} {Q:Env→Prop} {env e1:Env} {v:AV} (k:Nat) (X:Option AV)
  (hp:stepsEB P n all k ops env (fun os e=>match os with
   | o::_=>match awanted all o e with
    | some true=>match quietB o.op&&memFree o.op&&notBox v&&o.dst.isSome with
     | true=>some (apure P o e)
     | false=>none
    | _=>none
   | []=>none)=some X) (hX:X=some v)
  (he:stepsEB P n all k ops env (fun os e=>match os with | o::_=>eput n o.dst v.strip e | []=>none)=some e1) (h:WB P n all (ops.drop (k+1)) Q e1):WB P n all ops Q env:=by
 obtain⟨e,h1,h2⟩:=ZZ hp;obtain⟨e',h3,h4⟩:=ZZ he;rw[h1]at h3;cases h3;refine WB.steps k h1 ?_
 have hd:ops.drop (k+1)=(ops.drop k).drop 1:=by rw[A5]
 rw[hd]at h
 cases hos:ops.drop k with
 | nil=>rw[hos]at h2;cases h2
 | cons o rest =>
  rw[hos]at h2 h4 h;simp only at h2
  split at h2<;>try cases h2
  rename_i hw
  split at h2<;>try cases h2
  rename_i hpl;simp only[A6]at hpl;refine WB.step (e1:=e1) ?_ h;unfold stepB1;rw[hw];simp only[qeq hpl.1.1.1]
  cases hdst:o.dst with
  | none=>rw[hdst]at hpl;cases hpl.2
  | some d =>
   rw[hX];simp only[hpl.1.1.2,hpl.1.2,Bool.and_self];rw[← hdst];exact h4
def sideB (o:Oper) (env:Env):Bool:=match o.op with
 | .call { callee:=.builtin .append,args,.. }=>match args.toList,o.dst with
  | [.tmp x,.tmp y],some d=>match aop env (.tmp x) with
   | some (.lst _ _ (some c) _)=>A0 c x&&!A0 x d&&!A0 y d
   | _=>false
  | _,_=>false
 | _=>false
theorem WB.append {all rest:List Oper} {o:Oper} {Q:Env→Prop} {env env1 e1:Env} {d e s bytes:Nat} {xs ys zs:List AV} (hs:sideB o env=true) (hp:appPre P all o env=some (d,e,s,bytes,xs,ys,env1)) (hz:xs++ys=zs) (hc:capOk bytes zs.length=true) (he:eput n (some d) (.lst e s (some d) zs) env1=some e1) (h:WB P n all rest Q e1):WB P n all (o::rest) Q env:=by
 subst hz;simp only[capOk,A6,A8,List.length_append]at hc;refine WB.step (e1:=e1) ?_ h;unfold stepB1;unfold sideB at hs
 split at hs<;>try (cases hs;done)
 rename_i args ats ho
 split at hs<;>try (cases hs;done)
 rename_i x y d' hax hd'
 split at hs<;>try (cases hs;done)
 rename_i ex0 kx0 c0 xs0 hx0;unfold appPre at hp
 split at hp<;>try cases hp
 rename_i hw;rw[ho]at hp;simp only[hax]at hp
 split at hp<;>try cases hp
 rename_i x' y' t t' d2 hxy hat hd;cases hxy;rw[hd']at hd;cases hd;rw[hx0]at hp
 split at hp<;>try cases hp
 rename_i a b ha hb;cases ha
 split at hp<;>try cases hp
 rename_i e s hse
 split at hp<;>try cases hp
 rename_i hcond
 split at hp<;>try cases hp
 rename_i ey ky l ys
 split at hp<;>try cases hp
 rename_i hky;simp only at hp
 split at hp<;>try cases hp
 rename_i hx
 have e1':aappend P t t' d (.lst ex0 kx0 (some c0) xs) (.lst ey ky l ys) env=some (.lst e s (some d) (xs++ys),relabE d none (relabE c0 none env)):=by
  unfold aappend;simp only[hse];split
  ·rename_i hcf;exact A3 (hcf.symm.trans hcond)
  ·simp only[hky,hx];rw[if_pos hc]
 unfold astepB;rw[ho];simp only[hax,hat,hd',hx0,hb,hs,e1'];exact he
theorem WB.appendK {all ops:List Oper} {Q:Env→Prop} {env env1 e1:Env} {d e s bytes:Nat} {xs ys zs:List AV} (k:Nat)
  (hs:stepsEB P n all k ops env (fun os e=>match os with | o::_=>some (sideB o e) | []=>none)=some true)
  (hp:stepsEB P n all k ops env (fun os e=>match os with | o::_=>appPre P all o e | []=>none)=some (d,e,s,bytes,xs,ys,env1)) (hz:xs++ys=zs) (hc:capOk bytes zs.length=true) (he:eput n (some d) (.lst e s (some d) zs) env1=some e1) (h:WB P n all (ops.drop (k+1)) Q e1):WB P n all ops Q env:=by
 obtain⟨e,h1,h2⟩:=ZZ hp;obtain⟨e',h1',h2'⟩:=ZZ hs;rw[h1]at h1';cases h1';refine WB.steps k h1 ?_
 have hd:ops.drop (k+1)=(ops.drop k).drop 1:=by rw[A5]
 rw[hd]at h
 cases hos:ops.drop k with
 | nil=>rw[hos]at h2;cases h2
 | cons o rest =>
  rw[hos]at h2 h2' h;exact WB.append (Option.some.inj h2') h2 hz hc he h
def finB (P:Program) (n:Nat) (all ops:List Oper) (keep frz:List Nat) (nl:List (Nat×Nat×Nat×Nat×Nat)) (rl:List (Nat×Option Nat)) (env:Env):Option Env :=
 (stepsB P n all ops.length ops env).map fun e=>weakE keep frz nl rl (dropB all e)
theorem WB.fin {all ops:List Oper} {Q:Env→Prop} {env e2:Env} {c:Code} {Q':Ex→Env→Prop} (keep frz:List Nat) (nl:List (Nat×Nat×Nat×Nat×Nat)) (rl:List (Nat×Option Nat)) (he:finB P n all ops keep frz nl rl env=some e2) (hQ:∀ e,W P n c Q' e→Q e) (h:W P n c Q' e2):WB P n all ops Q env:=by
 unfold finB at he;rw[B4]at he;obtain⟨e1,h1,h2⟩:=he;refine WB.steps ops.length h1 ?_;rw[B7];exact⟨e1,.nilB,hQ _ (W.weak keep frz nl rl h2 h)⟩
def encL {α:Type} (e k:Nat) (f:α→AV) (l:List α):AV:=.lst e k none (l.map f)
end
end Go.AM
namespace Go.AM
section
variable {P:Program} {n:Nat}
theorem W.mv {c:Code} {Q:Ex→Env→Prop} {env env':Env} (q:List Mv) (he:mvAll env q=env') (h:W P n c Q env'):W P n c Q env:=by
 subst he;obtain⟨ex,e1,h1,h2⟩:=h;exact⟨ex,e1,.mv q h1,h2⟩
theorem WO.mv {all ops:List Oper} {Q:Env→Prop} {env env':Env} (q:List Mv) (he:mvAll env q=env') (h:WO P n false all ops Q env'):WO P n false all ops Q env:=by
 subst he;obtain⟨e',h1,h2⟩:=h;exact⟨e',.mvOp q h1,h2⟩
theorem W.seqU {v:Code} {c:Operand} {x y z:Code} {Q:Ex→Env→Prop} {env e0 ei e2:Env} (p:Bool) (h0:W P n v (fun ex' e'=>ex'=.normal∧e'=e0) env) (hc:aop e0 c=some (.ub p)) (ht:p=true→W P n x (fun ex' e'=>ex'=.ret∧e'=e2) e0) (hf:W P n y (fun ex' e'=>ex'=.normal∧e'=ei) e0) (hz:W P n z (fun ex' e'=>ex'=.ret∧e'=e2) ei) (hq:Q .ret e2):W P n (.seq (.seq v (.cond c x y)) z) Q env:=by
 refine⟨.ret,e2,.seqU (e0:=e0) (ei:=ei) p ?_ hc (fun hp=>?_) ?_ ?_,hq⟩
 ·obtain⟨ex',e',h1,rfl,rfl⟩:=h0;exact h1
 ·obtain⟨ex',e',h1,rfl,rfl⟩:=ht hp;exact h1
 ·obtain⟨ex',e',h1,rfl,rfl⟩:=hf;exact h1
 ·obtain⟨ex',e',h1,rfl,rfl⟩:=hz;exact h1
theorem XZ {ops:List Oper} {k:Nat} {o:Oper} {rest:List Oper} (h:ops.drop k=o::rest):ops.drop (k+1)=rest:=by
 have hd:ops.drop (k+1)=(ops.drop k).drop 1:=by rw[A5]
 rw[hd,h];rfl
def qcd (all:List Oper) (o:Oper) (env:Env):Option (Nat×List AV×List AV) :=
 match awanted all o env with
 | some true=>match o.op with
  | .call { callee:=.value f,args,.. }=>match aop env f,optAll (args.toList.map (aop env)) with
   | some (.clo g caps),some l=>match optAll (l.map (asnap env)) with
    | some l'=>some (g,l',caps)
    | none=>none
   | _,_=>none
  | _=>none
 | _=>none
theorem WO.callRF {draw:Bool} {all rest:List Oper} {o:Oper} {Q:Env→Prop} {env e1:Env} {F:Nat} {l C args:List AV} {r:AV} (hp:qcd all o env=some (F,l,C)) (ha:l++C=args) (hok:okFn P F=true) (hpl:r.plain=true) (hr:Run P (.call F args r)) (he:eput n o.dst r env=some e1) (h:WO P n draw all rest Q e1):WO P n draw all (o::rest) Q env:=by
 subst ha;unfold qcd at hp
 split at hp<;>try cases hp
 rename_i hw
 split at hp<;>try cases hp
 rename_i f args ats ho
 split at hp<;>try cases hp
 rename_i g caps l hf hl
 split at hp<;>try cases hp
 rename_i l' hl';obtain⟨e',h1,h2⟩:=h;refine⟨e',.callOpR hw ?_ hpl hr he h1,h2⟩;unfold XM;rw[ho];simp only[hf,hl];unfold okFn at hok;split at hok
 ·rename_i fn hfn;simp only[hfn,hok,hl']
 ·cases hok
theorem WO.callRK {draw:Bool} {all ops:List Oper} {Q:Env→Prop} {env e1:Env} {F:Nat} {l C args:List AV} {r:AV} (k:Nat)
  (hp:stepsE P n draw all k ops env (fun os e=>match os with | o::_=>qcd all o e | []=>none)=some (F,l,C)) (ha:l++C=args) (hok:okFn P F=true) (hpl:r.plain=true) (hr:Run P (.call F args r))
  (he:stepsE P n draw all k ops env (fun os e=>match os with | o::_=>eput n o.dst r e | []=>none)=some e1) (h:WO P n draw all (ops.drop (k+1)) Q e1):WO P n draw all ops Q env:=by
 obtain⟨e,h1,h2⟩:=qZ hp;obtain⟨e',h3,h4⟩:=qZ he;rw[h1]at h3;cases h3;refine WO.steps k h1 ?_
 cases hos:ops.drop k with
 | nil=>rw[hos]at h2;cases h2
 | cons o rest =>
  rw[hos]at h2 h4;rw[XZ hos]at h;exact WO.callRF h2 ha hok hpl hr h4 h
def qce (P:Program) (all:List Oper) (o:Oper) (env:Env) (ρ:List (Nat×Nat)):Option (Nat×List AV×Env) :=
 match awanted all o env with
 | some true=>DR P o env ρ
 | _=>none
theorem WO.callMK {all ops:List Oper} {Q:Env→Prop} {env e1:Env} {F:Nat} {args:List AV} {hp hp2:Env} {r:AV} (k:Nat) (ρ nw:List (Nat×Nat))
  (h0:stepsE P n false all k ops env (fun os e=>match os with | o::_=>qce P all o e ρ | []=>none)=some (F,args,hp)) (hr:Run P (.callM F args hp r hp2))
  (he:stepsE P n false all k ops env (fun os e=>match os with | o::_=>NE n o.dst ρ nw r hp2 e | []=>none)=some e1) (h:WO P n false all (ops.drop (k+1)) Q e1):WO P n false all ops Q env:=by
 obtain⟨e,h1,h2⟩:=qZ h0;obtain⟨e',h3,h4⟩:=qZ he;rw[h1]at h3;cases h3;refine WO.steps k h1 ?_
 cases hos:ops.drop k with
 | nil=>rw[hos]at h2;cases h2
 | cons o rest =>
  rw[hos]at h2 h4;rw[XZ hos]at h;simp only[qce]at h2
  split at h2<;>try cases h2
  rename_i hw;obtain⟨e2,g1,g2⟩:=h;exact⟨e2,.callOpM ρ nw hw h2 hr h4 g1,g2⟩
def stPre (P:Program) (all:List Oper) (o:Oper) (env:Env):Option (Nat×Nat×Nat×List AV×Nat×Nat×List AV) :=
 match awanted all o env with
 | some true=>match o.op with
  | .store t p x=>match o.dst,aop env p,aop env x,tSize P t with
   | none,some (.pe id k j off),some v,some sz=>match A0 v.cells.length sz,look env id with
    | true,some (.obj e k' xs)=>match A0 k k' with
     | true=>some (id,e,k,xs,j,off,v.cells)
     | false=>none
    | _,_=>none
   | _,_,_,_=>none
  | _=>none
 | _=>none
theorem WO.storeK {draw:Bool} {all ops:List Oper} {Q:Env→Prop} {env e1:Env} {id e s:Nat} {xs zs vs:List AV} {j off:Nat} {y y':AV} (k:Nat)
  (hp:stepsE P n draw all k ops env (fun os e=>match os with | o::_=>stPre P all o e | []=>none)=some (id,e,s,xs,j,off,vs)) (hy:xs[j]? = some y) (hput:putElem y off vs=some y') (hz:xs.set j y'=zs)
  (he:stepsE P n draw all k ops env (fun os en=>some (ins id (.obj e s zs) en))=some e1) (h:WO P n draw all (ops.drop (k+1)) Q e1):WO P n draw all ops Q env:=by
 subst hz;obtain⟨en,h1,h2⟩:=qZ hp;obtain⟨en',h3,h4⟩:=qZ he;rw[h1]at h3;cases h3;cases h4;refine WO.steps k h1 ?_
 cases hos:ops.drop k with
 | nil=>rw[hos]at h2;cases h2
 | cons o rest =>
  rw[hos]at h2;rw[XZ hos]at h;simp only[stPre]at h2
  split at h2<;>try cases h2
  rename_i hw
  split at h2<;>try cases h2
  rename_i t p x ho
  split at h2<;>try cases h2
  rename_i id' k' j' off' v sz hd hpp hx hsz
  split at h2<;>try cases h2
  rename_i e' k2 xs' hlen hl
  split at h2<;>try cases h2
  rename_i hk
  have hst:astep P n o en=some (ins id (.obj e s (xs.set j y')) en):=by
   unfold astep;rw[ho];simp only[hd,hpp,hx,hsz,hlen];unfold putObj;simp only[hl,hk,hy,hput]
  refine WO.step (e1:=ins id (.obj e s (xs.set j y')) en) ?_ h;unfold step1;rw[hw]
  cases draw with
  | true =>
   have:isEff o.op=true:=by rw[ho];rfl
   refine YT (Vv (by rw[ho];rfl)) ?_;unfold astepD;simp only[this,hst]
  | false=>exact hst
def mkPre (P:Program) (n:Nat) (all:List Oper) (o:Oper) (env:Env):Option (Nat×Nat×Nat×Int×Int×Nat×AV×Env) :=
 match awanted all o env with
 | some true=>match o.op with
  | .makeSlice t l c=>match o.dst,aop env l,aop env c,Jl P t with
   | some d,some (.int _ m),some (.int _ m'),some (e,s)=>match YM P e,clearOf (1000000+d) env&&A7 0 s with
    | some z,true=>match A0 z.length s&&z.all AV.one with
     | true=>(eput n o.dst (.sb (1000000+d) e s 0 m.toNat) env).map fun env1=>(d,e,s,m,m',((P.info? e).map (·.bytes)).getD 0,elemOf z s,env1)
     | false=>none
    | _,_=>none
   | _,_,_,_=>none
  | _=>none
 | _=>none
def mkOk (bytes:Nat) (m:Int):Bool:=decide (0≤m)&&decide (m*bytes≤281474976710656)&&decide (m≤9223372036854775807)
theorem WO.makeK {draw:Bool} {all ops:List Oper} {Q:Env→Prop} {env env1 e1:Env} {d e s bytes:Nat} {m:Int} {z:AV} {zs:List AV} (k:Nat)
  (hp:stepsE P n draw all k ops env (fun os e=>match os with | o::_=>mkPre P n all o e | []=>none)=some (d,e,s,m,m,bytes,z,env1)) (hc:mkOk bytes m=true) (hz:A4 m.toNat z=zs)
  (he:ins (1000000+d) (.obj e s zs) env1=e1) (h:WO P n draw all (ops.drop (k+1)) Q e1):WO P n draw all ops Q env:=by
 subst hz;subst he;obtain⟨en,h1,h2⟩:=qZ hp;refine WO.steps k h1 ?_
 cases hos:ops.drop k with
 | nil=>rw[hos]at h2;cases h2
 | cons o rest =>
  rw[hos]at h2;rw[XZ hos]at h;simp only[mkPre]at h2
  split at h2<;>try cases h2
  rename_i hw
  split at h2<;>try cases h2
  rename_i t l c ho
  split at h2<;>try cases h2
  rename_i d' k1 m1 k2 m2 e' s' hd hl hcc hse
  split at h2<;>try cases h2
  rename_i z' hzc hcl
  split at h2<;>try cases h2
  rename_i hzl;rw[B4]at h2;obtain⟨env',g1,g2⟩:=h2;cases g2;simp only[mkOk,A6,decide_eq_true_eq]at hc
  have hst:astep P n o en=some (ins (1000000+d) (.obj e s (A4 m.toNat (elemOf z' s))) env1):=by
   unfold astep;rw[ho];simp only[hd,hl,hcc,hse,hzc,hcl,hzl];rw[if_pos ⟨trivial,hc.1.1,hc.1.2,hc.2⟩];rw[hd]at g1;rw[g1];rfl
  refine WO.step (e1:=ins (1000000+d) (.obj e s (A4 m.toNat (elemOf z' s))) env1) ?_ h;unfold step1;rw[hw]
  cases draw with
  | true =>
   have:isEff o.op=true:=by rw[ho];rfl
   refine YT (Vv (by rw[ho];rfl)) ?_;unfold astepD;simp only[this,hst]
  | false=>exact hst
def aoPre (P:Program) (n:Nat) (all:List Oper) (o:Oper) (env:Env):Option (Nat×Nat×Nat×Nat×Nat×List AV×List AV×Env) :=
 match awanted all o env with
 | some true=>match o.op with
  | .call { callee:=.builtin .append,args,argTypes }=>match args.toList,argTypes.toList,o.dst with
   | [x,y],[t,t'],some d=>match aop env x,aop env y with
    | some (.sb id ex kx off m),some q=>match Jl P t with
     | some (e,s)=>match A0 t t'&&A7 0 s&&(match (P.info? e).bind (·.zero) with | some z=>A0 z.cells.size s | none=>false) with
      | true=>match look env id,content env q with
       | some (.obj e' k' xs),some (ky,ys)=>match A0 ex e&&A0 e' e&&A0 kx s&&A0 k' s&&A0 ky s&&A0 off 0&&(usable id&&A7 e 1000000000) with
        | true=>match clearOf (1000000+d) (forget id env)&&(match look env d with | some (.box _)=>false | some (.obj ..)=>false | some (.hob ..)=>false | some (.bxg _)=>false | _=>true)&&A7 d n with
         | true=>some (d,e,s,((P.info? e).map (·.bytes)).getD 0,m,xs,ys,forget id env)
         | false=>none
        | false=>none
       | _,_=>none
      | false=>none
     | none=>none
    | _,_=>none
   | _,_,_=>none
  | _=>none
 | _=>none
def aoPreD (P:Program) (n:Nat) (draw:Bool) (all:List Oper) (o:Oper) (env:Env):Option (Nat×Nat×Nat×Nat×Nat×List AV×List AV×Env) :=
 match !draw||lfOk all o env with
 | true=>aoPre P n all o env
 | false=>none
theorem qfP {draw:Bool} {all:List Oper} {o:Oper} {env:Env} {r:Nat×Nat×Nat×Nat×Nat×List AV×List AV×Env} (h:aoPreD P n draw all o env=some r):(!draw||lfOk all o env)=true∧aoPre P n all o env=some r:=by
 unfold aoPreD at h;split at h
 ·rename_i hl;exact⟨hl,h⟩
 ·cases h
theorem WO.appendOK {draw:Bool} {all ops:List Oper} {Q:Env→Prop} {env env1 e1:Env} {d e s bytes m n2:Nat} {xs ys zs:List AV} (k:Nat)
  (hp:stepsE P n draw all k ops env (fun os e=>match os with | o::_=>aoPreD P n draw all o e | []=>none)=some (d,e,s,bytes,m,xs,ys,env1)) (hc:capOk bytes (m+ys.length)=true) (hz:snapA 0 m xs++ys=zs) (hn:zs.length=n2)
  (he:ins (1000000+d) (.obj e s zs) (ins d (.sb (1000000+d) e s 0 n2) env1)=e1) (h:WO P n draw all (ops.drop (k+1)) Q e1):WO P n draw all ops Q env:=by
 subst hn;subst hz;subst he;obtain⟨en,h1,h2⟩:=qZ hp;refine WO.steps k h1 ?_
 cases hos:ops.drop k with
 | nil=>rw[hos]at h2;cases h2
 | cons o rest =>
  rw[hos]at h2;rw[XZ hos]at h;simp only at h2;obtain⟨hlf0,h2⟩:=qfP h2;simp only[capOk,A6,A8]at hc;simp only[aoPre]at h2
  split at h2<;>try cases h2
  rename_i hw
  split at h2<;>try cases h2
  rename_i args ats ho
  split at h2<;>try cases h2
  rename_i x y t t' d' hax hat hd
  split at h2<;>try cases h2
  rename_i id ex kx off m' q ha hb
  split at h2<;>try cases h2
  rename_i e' s' hse
  split at h2<;>try cases h2
  rename_i hcond
  split at h2<;>try cases h2
  rename_i e2 k2 xs' ky ys' hl hcon
  split at h2<;>try cases h2
  rename_i hk
  split at h2<;>try cases h2
  rename_i hcl
  have hao:VF P n t t' d (.sb id ex kx off m) q en=some (ins (1000000+d) (.obj e s (snapA 0 m xs++ys)) (ins d (.sb (1000000+d) e s 0 (snapA 0 m xs++ys).length) (forget id en))):=by
   unfold VF;simp only[hse];split
   ·rename_i hcf;exact A3 (hcf.symm.trans hcond)
   ·simp only[hl,hcon,hk];split
    ·rw[if_pos hc]
    ·rename_i hcf;exact A3 (hcf.symm.trans hcl)
  have hst:astep P n o en=some (ins (1000000+d) (.obj e s (snapA 0 m xs++ys)) (ins d (.sb (1000000+d) e s 0 (snapA 0 m xs++ys).length) (forget id en))):=by
   unfold astep;rw[ho];simp only[hax,hat,hd,ha,hb,hao]
  refine WO.step (e1:=_) ?_ h;unfold step1;rw[hw]
  cases draw with
  | true =>
   have hlf:lfOk all o en=true:=by simpa using hlf0
   have:isEff o.op=true:=by rw[ho];rfl
   refine YT hlf ?_;unfold astepD;simp only[this,hst]
  | false=>exact hst
def PostM (P:Program) (fn:Func) (r:AV) (hp:Env):Ex→Env→Prop
 | .exit _,_=>False
 | _,e=>He P fn e=some r∧ents e=hp
theorem qgM {f:Nat} {args:List AV} {r:AV} {hp hp2:Env} {fn:Func} {c:Code} (hf:P.funcs[f]? = some fn) (hb:fn.body=some c) (hlen:(A2 args.length fn.ntmps&&A2 fn.ntmps 1000000&&hpOk hp)=true) {env0:Env} (he:argsEnv 0 (args.map AV.strip)++hp=env0) (h:W P fn.ntmps c (PostM P fn r hp2) env0):Run P (.callM f args hp r hp2):=by
 subst he;obtain⟨ex,e1,h1,h2⟩:=h
 cases ex with
 | exit id=>exact h2.elim
 | normal=>obtain⟨h2,rfl⟩:=h2;exact .callM hf hb hlen h1 trivial h2
 | ret=>obtain⟨h2,rfl⟩:=h2;exact .callM hf hb hlen h1 trivial h2
theorem WO.end0 {draw:Bool} {all ops:List Oper} {Q:Env→Prop} {env e2:Env} (he:stepsK P n draw all ops.length ops env=some e2) (h:Q e2):WO P n draw all ops Q env:=by
 refine WO.steps ops.length he ?_;rw[B7];exact .nil h
def snap {α:Type} (off n:Nat) (l:List α):List α:=(l.drop off).take n
theorem Yx {α:Type} {f:α→AV} {off n:Nat} {l:List α}:snapA off n (A1 f l)=A1 f (snap off n l):=by
 unfold snapA snap;rw[List.map_take,List.map_drop]
theorem XN {α:Type} {l:List α}:snap 0 l.length l=l:=by
 unfold snap;simp
theorem Yw {α:Type} {n:Nat} {x:α}:snap 0 n (A4 n x)=A4 n x:=by
 unfold snap;simp
def upd {α:Type} (l:List α) (j:Nat) (v:α):Option (List α):=if j<l.length then some (l.set j v) else none
theorem qeB {α:Type} {l l':List α} {j:Nat} {v:α} (h:upd l j v=some l'):∃ y,l[j]? = some y∧l.set j v=l':=by
 unfold upd at h;split at h
 ·rename_i hj;exact⟨l[j],List.getElem?_eq_getElem hj,Option.some.inj h⟩
 ·cases h
theorem qjK {α:Type} {l:List α} {j:Nat} {y:α} {f:α→AV} (h:l[j]? = some y):(A1 f l)[j]? = some (f y):=by
 rw[B0,h];rfl
theorem qjJ {α:Type} {l l':List α} {j:Nat} {v:α} {f:α→AV} (h:l.set j v=l'):(A1 f l).set j (f v)=A1 f l':=by
 rw[← h,List.map_set]
theorem qkn {α β:Type} {l:List α} {j:Nat} {y:α} {f:α→AV} {G:AV→Option β} (h:l[j]? = some y):(match (A1 f l)[j]? with | some y=>G y | none=>none)=G (f y):=by
 rw[B0,h];rfl
theorem qbb {α:Type} {f:α→AV} {m:Nat} {x:α}:A4 m (f x)=A1 f (A4 m x):=List.map_replicate.symm
theorem qji {α:Type} {c:Prop} [Decidable c] {x:α} (h:decide c=true):(if c then some x else none)=some x:=if_pos (oT h)
theorem W.rg {id:Nat} {ops:Array Oper} {draw:Bool} {Q:Ex→Env→Prop} {env:Env} (h:WO P n draw ops.toList ops.toList (Q .normal) env) (hd:(!draw||(orderOk ops&&Jr ops))=true:=by kernel_rfl):W P n (.region id ops draw) Q env:=W.region hd h
theorem W.wk {c:Code} {Q:Ex→Env→Prop} {env e:Env} (h:W P n c Q e) (he:weakE (e.map A9) [] [] [] env=e:=by kernel_rfl):W P n c Q env:=W.weak _ _ _ _ he h
theorem WO.fn {draw:Bool} {all ops:List Oper} {Q:Env→Prop} {env e2:Env} {c:Code} {Q':Ex→Env→Prop} (h:W P n c Q' e2) (he:finE P n draw all ops (e2.map A9) [] [] [] env=some e2:=by kernel_rfl) (hQ:∀ e,W P n c Q' e→Q e:=by exact fun _ h=>h):WO P n draw all ops Q env:=WO.fin _ _ _ _ he hQ h
theorem W.rt {id:Nat} {ops:Array Oper} {draw:Bool} {y:Code} {Q Q':Ex→Env→Prop} {env e2:Env} (h:W P n y Q' e2) (hd:(!draw||(orderOk ops&&Jr ops))=true:=by kernel_rfl) (he:finE P n draw ops.toList ops.toList (e2.map A9) [] [] [] env=some e2:=by kernel_rfl) (hQ:∀ e,W P n y Q' e→Q .normal e:=by exact fun _ h=>h):W P n (.region id ops draw) Q env:=W.regT _ _ _ _ hd he hQ h
theorem W.cb {c:Operand} {x y:Code} {Q:Ex→Env→Prop} {env:Env} (b:Bool) (ht:b=true→W P n x Q env) (hf:b=false→W P n y Q env) (hc:aop env c=some (.bool b):=by kernel_rfl):W P n (.cond c x y) Q env:=W.cond b hc ht hf
theorem WO.ck {draw:Bool} {all ops:List Oper} {Q:Env→Prop} {env e1:Env} {F:Nat} {l C:List AV} {r:AV} (k:Nat) (hr:Run P (.call F (l++C) r)) (h:WO P n draw all (ops.drop (k+1)) Q e1)
  (hp:stepsE P n draw all k ops env (fun os e=>match os with | o::_=>callPre all o e | []=>none)=some (F,l,C):=by kernel_rfl) (hok:okFn P F=true:=by kernel_rfl)
  (he:stepsE P n draw all k ops env (fun os e=>match os with | o::_=>callPut n draw o.dst r e | []=>none)=some e1:=by kernel_rfl):WO P n draw all ops Q env:=WO.callK k hp hok hr he h
theorem WO.cm {all ops:List Oper} {Q:Env→Prop} {env e1:Env} {F:Nat} {args:List AV} {hp hp2:Env} {r:AV} (k:Nat) (ρ nw:List (Nat×Nat)) (hr:Run P (.callM F args hp r hp2)) (h:WO P n false all (ops.drop (k+1)) Q e1)
  (h0:stepsE P n false all k ops env (fun os e=>match os with | o::_=>qce P all o e ρ | []=>none)=some (F,args,hp):=by kernel_rfl)
  (he:stepsE P n false all k ops env (fun os e=>match os with | o::_=>NE n o.dst ρ nw r hp2 e | []=>none)=some e1:=by kernel_rfl):WO P n false all ops Q env:=WO.callMK k ρ nw h0 hr he h
def pureX (P:Program) (n:Nat) (draw:Bool) (all:List Oper) (k:Nat) (ops:List Oper) (env:Env) (v:AV):Option (Option AV) :=
 stepsE P n draw all k ops env (fun os e=>match os with
   | o::_=>match awanted all o e with
    | some true=>match plainOp o.op&&notBox v with
     | true=>some (apure P o e)
     | false=>none
    | _=>none
   | []=>none)
def putX (n:Nat) (P:Program) (draw:Bool) (all:List Oper) (k:Nat) (ops:List Oper) (env:Env) (v:AV):Option Env :=
 stepsE P n draw all k ops env (fun os e=>match os with | o::_=>eput n o.dst v e | []=>none)
theorem WO.pk {draw:Bool} {all ops:List Oper} {Q:Env→Prop} {env e1:Env} {v:AV} (k:Nat) (X:Option AV) (hX:X=some v) (h:WO P n draw all (ops.drop (k+1)) Q e1) (hp:pureX P n draw all k ops env v=some X:=by kernel_rfl) (he:putX n P draw all k ops env v=some e1:=by kernel_rfl):WO P n draw all ops Q env :=
 WO.pureK k X hp hX he h
theorem WO.pi {draw:Bool} {all ops:List Oper} {Q:Env→Prop} {env e1:Env} {v:AV} (k:Nat) {c:Prop} [Decidable c] (hc:decide c=true) (h:WO P n draw all (ops.drop (k+1)) Q e1) (hp:pureX P n draw all k ops env v=some (if c then some v else none):=by kernel_rfl) (he:putX n P draw all k ops env v=some e1:=by kernel_rfl):WO P n draw all ops Q env :=
 WO.pureK k _ hp (qji hc) he h
theorem WO.pl {draw:Bool} {all ops:List Oper} {Q:Env→Prop} {env e1:Env} {v:AV} {α:Type} {l:List α} {j:Nat} {y:α} (k:Nat) (F:α→AV) (T O:Nat) (hj:l[j]? = some y) (h:WO P n draw all (ops.drop (k+1)) Q e1)
  (hp:pureX P n draw all k ops env v=some (match (A1 F l)[j]? with | some y=>cut P T (y.cells.map AV.strip) O | none=>none):=by kernel_rfl) (hv:cut P T ((F y).cells.map AV.strip) O=some v:=by kernel_rfl) (he:putX n P draw all k ops env v=some e1:=by kernel_rfl):WO P n draw all ops Q env :=
 WO.pureK k _ hp ((qkn (f:=F) (G:=fun y=>cut P T (y.cells.map AV.strip) O) hj).trans hv) he h
theorem WO.sk {draw:Bool} {all ops:List Oper} {Q:Env→Prop} {env e1:Env} {id e s:Nat} {vs:List AV} {j off:Nat} {α:Type} {l l':List α} {y w:α} (k:Nat) (F:α→AV) (hy:l[j]? = some y) (hz:l.set j w=l') (h:WO P n draw all (ops.drop (k+1)) Q e1)
  (hp:stepsE P n draw all k ops env (fun os e=>match os with | o::_=>stPre P all o e | []=>none)=some (id,e,s,A1 F l,j,off,vs):=by kernel_rfl) (hput:putElem (F y) off vs=some (F w):=by kernel_rfl)
  (he:stepsE P n draw all k ops env (fun os en=>some (ins id (.obj e s (A1 F l')) en))=some e1:=by kernel_rfl):WO P n draw all ops Q env :=
 WO.storeK k hp (qjK hy) hput (qjJ hz) he h
theorem cW {f:Nat} {args:List AV} {r:AV} {fn:Func} {c:Code} (hf:P.funcs[f]? = some fn) (hb:fn.body=some c) {env0:Env} (h:W P fn.ntmps c (Post P fn r) env0) (hlen:(A2 args.length fn.ntmps&&A2 fn.ntmps 1000000)=true:=by kernel_rfl) (he:argsEnv 0 (args.map AV.strip)=env0:=by kernel_rfl):Run P (.call f args r):=qir hf hb hlen he h
theorem cM {f:Nat} {args:List AV} {r:AV} {hp hp2:Env} {fn:Func} {c:Code} (hf:P.funcs[f]? = some fn) (hb:fn.body=some c) {env0:Env} (h:W P fn.ntmps c (PostM P fn r hp2) env0) (hlen:(A2 args.length fn.ntmps&&A2 fn.ntmps 1000000&&hpOk hp)=true:=by kernel_rfl) (he:argsEnv 0 (args.map AV.strip)++hp=env0:=by kernel_rfl):Run P (.callM f args hp r hp2):=qgM hf hb hlen he h
abbrev EN (l:Env):Env:=l
abbrev hB (l:List Bool):AV:=.hob 3 [] (A1 AV.bool l)
abbrev hZ:AV:=.hob 3 [] (A1 AV.bool (A4 252 false))
theorem WO.pq {draw:Bool} {all ops:List Oper} {Q:Env→Prop} {env e1:Env} {X:Option AV} {v:AV} (k:Nat) (hX:X=some v) (h:WO P n draw all (ops.drop (k+1)) Q e1) (hp:pureX P n draw all k ops env v=some X:=by kernel_rfl) (he:putX n P draw all k ops env v=some e1:=by kernel_rfl):WO P n draw all ops Q env :=
 WO.pureK k X hp hX he h
theorem jB {b c:Bool} (h:b=c):(some (AV.bool b):Option AV)=some (.bool c):=by rw[h]
theorem jI {a b:Int} (h:a=b):(some (AV.int .i64 a):Option AV)=some (.int .i64 b):=by rw[h]
theorem jM {α:Type} (f:α→AV) (l:List α):(some (AV.int .i64 ((A1 f l).length:Int)):Option AV)=some (.int .i64 (l.length:Int)):=by rw[List.length_map]
theorem W.rr {Q:Ex→Env→Prop} {env:Env} (h:Q .ret env:=by exact (show ju _ _ _=some _ by kernel_rfl)):W P n .ret Q env:=W.ret h
theorem W.sr {id:Nat} {ops:Array Oper} {draw:Bool} {y:Code} {Q:Ex→Env→Prop} {env:Env} (h:WO P n draw ops.toList ops.toList (Then y P n Q .normal) env) (hd:(!draw||(orderOk ops&&Jr ops))=true:=by kernel_rfl):W P n (.seq (.region id ops draw) y) Q env:=W.seq (W.rg h hd)
theorem WO.fi {draw:Bool} {all ops:List Oper} {Q:Env→Prop} {env e2:Env} {c:Code} {Q':Ex→Env→Prop} (keep frz:List Nat) (h:W P n c Q' e2) (he:finE P n draw all ops keep frz [] [] env=some e2:=by kernel_rfl) (hQ:∀ e,W P n c Q' e→Q e:=by exact fun _ h=>h):WO P n draw all ops Q env:=WO.fin _ _ _ _ he hQ h
theorem W.rT {id:Nat} {ops:Array Oper} {draw:Bool} {y:Code} {Q Q':Ex→Env→Prop} {env e2:Env} (keep frz:List Nat) (h:W P n y Q' e2) (hd:(!draw||(orderOk ops&&Jr ops))=true:=by kernel_rfl) (he:finE P n draw ops.toList ops.toList keep frz [] [] env=some e2:=by kernel_rfl) (hQ:∀ e,W P n y Q' e→Q .normal e:=by exact fun _ h=>h):W P n (.region id ops draw) Q env:=W.regT _ _ _ _ hd he hQ h
theorem WO.bh {draw:Bool} {all ops:List Oper} {Q:Env→Prop} {env:Env} {α:Type} {x y o:α} (k:Nat) (E:Bool→Env) (b:Bool) (h:(bif b then x else y)=o) (ht:x=o→WO P n draw all (ops.drop k) Q (E true)) (hf:y=o→WO P n draw all (ops.drop k) Q (E false)) (he:stepsK P n draw all k ops env=some (E b):=by kernel_rfl):WO P n draw all ops Q env:=WO.boolK k E b he (fun hb=>ht (by subst hb;exact h)) (fun hb=>hf (by subst hb;exact h))
theorem W.ch {c:Operand} {x y:Code} {Q:Ex→Env→Prop} {env:Env} {α:Type} {u v o:α} (b:Bool) (h:(bif b then u else v)=o) (ht:u=o→W P n x Q env) (hf:v=o→W P n y Q env) (hc:aop env c=some (.bool b):=by kernel_rfl):W P n (.cond c x y) Q env:=W.cond b hc (fun hb=>ht (by subst hb;exact h)) (fun hb=>hf (by subst hb;exact h))
theorem W.sw {c:Code} {Q Q':Ex→Env→Prop} {env e:Env} (h:W P n c Q' e) (he:weakE (e.map A9) [] [] [] env=e:=by kernel_rfl) (hQ:W P n c Q' env→Q .normal env:=by exact fun h=>h):W P n .skip Q env:=W.skip (hQ (W.wk h he))
theorem W.cF {c:Operand} {x y:Code} {Q:Ex→Env→Prop} {env:Env} (h:W P n y Q env) (hc:aop env c=some (.bool false):=by kernel_rfl):W P n (.cond c x y) Q env:=W.cond false hc (fun h=>A3 h) (fun _=>h)
theorem W.cT {c:Operand} {x y:Code} {Q:Ex→Env→Prop} {env:Env} (h:W P n x Q env) (hc:aop env c=some (.bool true):=by kernel_rfl):W P n (.cond c x y) Q env:=W.cond true hc (fun _=>h) (fun h=>A3 h)
end
end Go.AM
