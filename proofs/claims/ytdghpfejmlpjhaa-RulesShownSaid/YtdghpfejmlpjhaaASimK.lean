import Derived.Test.YtdghpfejmlpjhaaARun
set_option linter.all false
open Nat renaming beq→A0, ble→A2, blt→A6, ble_eq→C0, eq_of_beq_eq_true→D2, ble_eq_true_of_le→D3
open List renaming map→A1, length_map→A4, map_cons→A5, replicate→A8, drop_drop→A9, getElem?_map→C7, mem_cons_of_mem→D4, map_drop→D6, map_take→D7, drop_length→D8, all_eq_true→D9, mem_cons_self→E7, mem_append_right→F6, filter_cons_of_pos→F7, mem_append_left→F8
open Bool renaming and_eq_true→A3, noConfusion→A7, and_self→B1, not_eq_true'→E0
open Option renaming map_eq_some_iff→D0
open Prod renaming fst→D1
open Go.IntKind renaming wrap→D5
open Go.Region renaming wanted→E8
open Array renaming getD_eq_getD_getElem?→E9
namespace Go.AM
variable {c y:Code} {Q:Env->Prop} {Q':Ex->Env->Prop} {e1 e2 env env1:Env} {draw:Bool} {rest:LF} {o:Oper} {F bytes d e id k s:Nat} {α σ:Type} {v:AV} {C l xs ys zs:LJ}
section
variable {P:Program} {n:Nat}
def W (P:Program) (n:Nat) (c:Code) (Q:Ex->Env->Prop) (env:Env):Prop:=∃ ex e',Run P (.code n c env ex e')/\Q ex e'
def WO (P:Program) (n:Nat) (draw:Bool) (all ops:LF) (Q:Env->Prop) (env:Env):Prop:=∃ e',Run P (.ops n draw all ops env e')/\Q e'
def Then (c:Code) (P:Program) (n:Nat) (Q:Ex->Env->Prop):Ex->Env->Prop
 | .normal,e=>W P n c Q e
 | ex,e=>Q ex e
theorem W.mono {Q:Ex->Env->Prop} (h:W P n c Q env) (hq:∀ ex e,Q ex e->Q' ex e):W P n c Q' env:=by
 obtain⟨ex,e',h1,h2⟩:=h;exact⟨ex,e',h1,hq _ _ h2⟩
theorem W.skip {Q:Ex->Env->Prop} {env:Env} (h:Q .normal env):W P n .skip Q env:=⟨_,_,.skip,h⟩
theorem W.ret {Q:Ex->Env->Prop} {env:Env} (h:Q .ret env):W P n .ret Q env:=⟨_,_,.ret,h⟩
theorem W.exit {Q:Ex->Env->Prop} {env:Env} {id:Nat} (h:Q (.exit id) env):W P n (.exit id) Q env:=⟨_,_,.exit,h⟩
theorem W.seq {x y:Code} {Q:Ex->Env->Prop} {env:Env} (h:W P n x (Then y P n Q) env):W P n (.seq x y) Q env:=by
 obtain⟨ex,e1,h1,h2⟩:=h
 cases ex with
 | normal=>obtain⟨ex2,e2,h3,h4⟩:=h2;exact⟨ex2,e2,.seqN h1 h3,h4⟩
 | exit id=>exact⟨_,e1,.seqX h1,h2⟩
 | ret=>exact⟨_,e1,.seqR h1,h2⟩
theorem W.cond {c:Operand} {x y:Code} {Q:Ex->Env->Prop} {env:Env} (b:Bool) (hc:aop env c=some (.bool b)) (ht:b=true->W P n x Q env) (hf:b=false->W P n y Q env):W P n (.cond c x y) Q env:=by
 cases b with
 | true=>obtain⟨ex,e1,h1,h2⟩:=ht rfl;exact⟨ex,e1,.cond true hc h1,h2⟩
 | false=>obtain⟨ex,e1,h1,h2⟩:=hf rfl;exact⟨ex,e1,.cond false hc h1,h2⟩
def Blk (id:Nat) (Q:Ex->Env->Prop):Ex->Env->Prop:=fun ex e=>Q (ex.unblock id) e
theorem W.block {id:Nat} {c:Code} {Q:Ex->Env->Prop} {env:Env} (h:W P n c (Blk id Q) env):W P n (.block id c) Q env:=by
 obtain⟨ex,e1,h1,h2⟩:=h;exact⟨_,e1,.block h1,h2⟩
theorem W.loop {c:Code} {Q:Ex->Env->Prop} {env:Env} (h:W P n c (Then (.loop c) P n Q) env):W P n (.loop c) Q env:=by
 obtain⟨ex,e1,h1,h2⟩:=h
 cases ex with
 | normal=>obtain⟨ex2,e2,h3,h4⟩:=h2;exact⟨ex2,e2,.loopN h1 h3,h4⟩
 | exit id=>exact⟨_,e1,.loopX h1,h2⟩
 | ret=>exact⟨_,e1,.loopR h1,h2⟩
theorem W.weak {c:Code} {Q:Ex->Env->Prop} {env:Env} (keep frz:LP) (nl:LW) (rl:Lk) {env':Env} (he:weakE keep frz nl rl env=env') (h:W P n c Q env'):W P n c Q env:=by
 subst he;obtain⟨ex,e1,h1,h2⟩:=h;exact⟨ex,e1,.weak keep frz nl rl h1,h2⟩
theorem W.region {id:Nat} {ops:Lh} {draw:Bool} {Q:Ex->Env->Prop} {env:Env} (hd:(!draw || (orderOk ops && ju ops))=true) (h:WO P n draw ops.toList ops.toList (Q .normal) env):W P n (.region id ops draw) Q env:=by
 obtain⟨e1,h1,h2⟩:=h;refine⟨_,e1,.region (fun hdr=>?_) h1,h2⟩;subst hdr
 simpa using hd
theorem WO.nil {draw:Bool} {all:LF} {Q:Env->Prop} {env:Env} (h:Q env):WO P n draw all [] Q env:=⟨env,.nil,h⟩
theorem WO.mono {all ops:LF} {Q':Env->Prop} (h:WO P n draw all ops Q env) (hq:∀ e,Q e->Q' e):WO P n draw all ops Q' env:=by
 obtain⟨e',h1,h2⟩:=h;exact⟨e',h1,hq _ h2⟩
def step1 (P:Program) (n:Nat) (draw:Bool) (all:LF) (o:Oper) (env:Env):Le :=
 match awanted all o env with
 | some true=>match draw with
  | true=>astepDA P n all o env
  | false=>astep P n o env
 | some false=>eput n o.dst .und env
 | none=>none
def stepsK (P:Program) (n:Nat) (draw:Bool) (all:LF):Nat->LF->Env->Le
 | 0,_,env=>some env
 | _+1,[],env=>some env
 | k+1,o::rest,env=>match step1 P n draw all o env with
  | some e=>stepsK P n draw all k rest e
  | none=>none
theorem qei {all:LF} {e e':Env} (h:step1 P n draw all o env=some e) (hr:Run P (.ops n draw all rest e e')):Run P (.ops n draw all (o::rest) env e'):=by
 unfold step1 at h;split at h
 .rename_i hw;refine .op hw ?_ hr;cases draw <;> exact h
 .rename_i hw;exact .not hw h hr
 cases h
theorem WO.steps {draw:Bool} {all:LF} {Q:Env->Prop}:∀ (k:Nat) {ops:LF} {env e1:Env},stepsK P n draw all k ops env=some e1->WO P n draw all (ops.drop k) Q e1->WO P n draw all ops Q env
 | 0,ops,env,e1,h,hr=>by cases h;exact hr
 | k+1,[],env,e1,h,hr=>by cases h;exact hr
 | k+1,o::rest,env,e1,h,hr=>by
  simp only[stepsK]at h;split at h
  .rename_i e he;obtain⟨e',h1,h2⟩:=WO.steps k h hr;exact⟨e',qei he h1,h2⟩
  cases h
theorem WO.step {draw:Bool} {all rest:LF} {o:Oper} {Q:Env->Prop} {env e1:Env} (h:step1 P n draw all o env=some e1) (hr:WO P n draw all rest Q e1):WO P n draw all (o::rest) Q env:=by
 obtain⟨e',h1,h2⟩:=hr;exact⟨e',qei h h1,h2⟩
theorem WO.call {draw:Bool} {all rest:LF} {o:Oper} {Q:Env->Prop} {env e1:Env} {f:Nat} {args:LJ} {r:AV} (hw:awanted all o env=some true) (hc:acallee P o env=some (f,args)) (hr:Run P (.call f args r)) (he:callPut n draw o.dst r env=some e1) (h:WO P n draw all rest Q e1):WO P n draw all (o::rest) Q env:=by
 obtain⟨e',h1,h2⟩:=h;exact⟨e',.callOp hw hc hr he h1,h2⟩
theorem WO.row {all:LF} {ops:LF} (hw:awanted all o env=some true) (he:arow P n o env=some e1) (h:WO P n false all ops Q e1):WO P n false all (o::ops) Q env:=by
 obtain⟨e',h1,h2⟩:=h;exact⟨e',.rowOp hw he h1,h2⟩
theorem WO.drop {all ops:LF} {Q:Env->Prop} {env:Env} (keep:LP) {e1:Env} (he:dropE keep env=e1) (h:WO P n false all ops Q e1):WO P n false all ops Q env:=by
 subst he;obtain⟨e',h1,h2⟩:=h;exact⟨e',.drop keep h1,h2⟩
def Seg (P:Program) (n:Nat) (all:LF) (k:Nat) (keep:LP) (ops:LF) (env envj:Env):Prop :=
 ∀ Q,WO P n false all (ops.drop k) Q envj->WO P n false all ops Q env
theorem Seg.steps {all:LF} {k:Nat} {keep:LP} {ops:LF} {env envj e1:Env} (h:stepsK P n false all k ops env=some e1) (he:dropE keep e1=envj):Seg P n all k keep ops env envj :=
 fun Q hq=>WO.steps k h (WO.drop keep he hq)
def Post (P:Program) (fn:Func) (r:AV):Ex->Env->Prop
 | .exit _,_=>False
 | _,e=>jX P fn e=some r
theorem qkg {f:Nat} {args:LJ} {r:AV} {fn:Func} (hf:P.funcs[f]? = some fn) (hb:fn.body=some c) (hlen:(A2 args.length fn.ntmps && A2 fn.ntmps 1000000)=true) {env0:Env} (he:argsEnv 0 (args.map AV.strip)=env0) (h:W P fn.ntmps c (Post P fn r) env0):Run P (.call f args r):=by
 subst he;obtain⟨ex,e1,h1,h2⟩:=h;refine .call hf hb hlen h1 ?_ ?_
 .cases ex <;> first | trivial | exact h2
 cases ex <;> first | exact h2 | exact h2.elim
theorem W.join {Q:Ex->Env->Prop} (E:σ->Env) (Pz:σ->Prop) (hrest:∀ s,Pz s->Q .normal (E s)) (h:(∀ s,Pz s->Q .normal (E s))->W P n c Q env):W P n c Q env:=h hrest
theorem W.range {Q:Ex->Env->Prop} (xs:List α) (E:Nat->σ->Env) (Pz:List α->Nat->σ->Prop)
  (hnil:∀ s,Pz [] xs.length s->W P n c (Then (.loop c) P n Q) (E xs.length s))
  (hcons:∀ x rest k s,xs[k]? = some x->k<xs.length->Pz (x::rest) k s->(∀ s',Pz rest (k+1) s'->W P n (.loop c) Q (E (k+1) s'))->W P n c (Then (.loop c) P n Q) (E k s)) :
  ∀ s,Pz xs 0 s->W P n (.loop c) Q (E 0 s):=by
 have key:∀ (rest:List α) (k:Nat) (s:σ),xs.drop k=rest->k<=xs.length->Pz rest k s->W P n (.loop c) Q (E k s):=by
  intro rest
  induction rest with
  | nil =>
   intro k s hd hk hp
   have:k=xs.length:=by
    have:=congrArg List.length hd;simp at this;omega
   subst this;exact W.loop (hnil s hp)
  | cons x rest ih =>
   intro k s hd hk hp
   have hx:xs[k]? = some x:=by
    have:=congrArg List.head? hd
    simpa[List.head?_drop] using this
   have hlt:k<xs.length:=(List.getElem?_eq_some_iff.1 hx).1;refine W.loop (hcons x rest k s hx hlt hp fun s' hp'=>ih (k+1) s' ?_ hlt hp')
   have:xs.drop (k+1)=(xs.drop k).drop 1:=by rw[A9]
   rw[this,hd];rfl
 exact fun s hp=>key xs 0 s (List.drop_zero) (Nat.zero_le _) hp
theorem W.fuel {Q:Ex->Env->Prop} (E:σ->Env) (Pz:Nat->σ->Prop) (h0:∀ s,Pz 0 s->False)
  (hs:∀ m s,Pz (m+1) s->(∀ s',Pz m s'->W P n (.loop c) Q (E s'))->W P n c (Then (.loop c) P n Q) (E s)) :
  ∀ m s,Pz m s->W P n (.loop c) Q (E s):=by
 intro m
 induction m with
 | zero=>intro s hp;exact (h0 s hp).elim
 | succ m ih=>intro s hp;exact W.loop (hs m s hp ih)
theorem WO.bool {all ops:LF} (E:Bool->Env) (b:Bool) (ht:b=true->WO P n draw all ops Q (E true)) (hf:b=false->WO P n draw all ops Q (E false)):WO P n draw all ops Q (E b):=by
 cases b with
 | true=>exact ht rfl
 | false=>exact hf rfl
def plainOp:Op->Bool
 | .alloc _ | .box .. | .makeSlice .. | .store .. | .buildSlice .. | .makeMap .. | .mapUpdate .. | .range ..=>false
 | .call { callee:=.builtin .append,.. }=>false
 | .call { callee:=.value _,.. }=>false
 | _=>true
theorem qhm (h:plainOp o.op=true):astep P n o env=match apure P o env with
  | some v=>eput n o.dst v env
  | none=>none:=by
 unfold astep
 split <;> first | (cases apure P o env <;> rfl) | simp_all [plainOp]
theorem qgI {o:Op} (h:plainOp o=true):isEff o=false:=by
 unfold isEff;split <;> simp_all [plainOp]
theorem VM {all:LF} (h:isApp o.op=false):lfOk all o env=true:=by
 unfold lfOk;split
 .rename_i ho;rw[ho]at h;cases h
 rfl
theorem YF {all:LF} {r:Le} (hl:lfOk all o env=true) (h:astepD P n o env=r):astepDA P n all o env=r:=by
 unfold astepDA;rw[hl];exact h
theorem qgJ {o:Op} (h:plainOp o=true):isApp o=false:=by
 unfold isApp;split <;> simp_all [plainOp]
theorem WO.pureE {all:LF} {X:Lc} (hw:awanted all o env=some true) (hp:(plainOp o.op && notBox v)=true) (hv:apure P o env=X) (hX:X=some v) (he:eput n o.dst v env=some e1) (h:WO P n draw all rest Q e1):WO P n draw all (o::rest) Q env:=by
 rw[hX]at hv;simp only[A3]at hp;refine WO.step (e1:=e1) ?_ h;unfold step1;rw[hw]
 cases draw with
 | true =>
  refine YF (VM (qgJ hp.1)) ?_;unfold astepD;simp only[qgI hp.1,hv,hp.2,he]
 | false =>
  simp only[qhm hp.1,hv,he]
def appPre (P:Program) (all:LF) (o:Oper) (env:Env):Option (Nat×Nat×Nat×Nat×LJ×LJ×Env) :=
 match awanted all o env with
 | some true=>match o.op with
  | .call { callee:=.builtin .append,args,argTypes }=>match args.toList,argTypes.toList,o.dst with
   | [x,y],[t,t'],some d=>match aop env x,aop env y with
    | some a,some b=>match jT P t with
     | some (e,s)=>match A0 t t' && A6 0 s && (match (P.info? e).bind (·.zero) with | some z=>A0 z.cells.size s | none=>false) with
      | false=>none
      | true=>match b with
       | .lst ey ky _ ys=>match A0 ky s with
        | false=>none
        | true=>match a with
         | .nils=>some (d,e,s,((P.info? e).map (·.bytes)).getD 0,[],ys,relabE d none env)
         | .lst ex kx (some c) xs=>match A0 ex e && A0 kx s with
          | false=>none
          | true=>some (d,e,s,((P.info? e).map (·.bytes)).getD 0,xs,ys,relabE d none (relabE c none env))
         | _=>none
       | _=>none
     | none=>none
    | _,_=>none
   | _,_,_=>none
  | _=>none
 | _=>none
def appPreD (P:Program) (draw:Bool) (all:LF) (o:Oper) (env:Env):Option (Nat×Nat×Nat×Nat×LJ×LJ×Env) :=
 match !draw || lfOk all o env with
 | true=>appPre P all o env
 | false=>none
theorem qbc {all:LF} {r:Nat×Nat×Nat×Nat×LJ×LJ×Env} (h:appPreD P draw all o env=some r):(!draw || lfOk all o env)=true/\appPre P all o env=some r:=by
 unfold appPreD at h;split at h
 .rename_i hl;exact⟨hl,h⟩
 cases h
def capOk (bytes n:Nat):Bool:=A2 (n * bytes) 140737488355328 && A2 n 140737488355328
theorem WO.append {all:LF} (hl:(!draw || lfOk all o env)=true) (hp:appPre P all o env=some (d,e,s,bytes,xs,ys,env1)) (hz:xs++ys=zs) (hc:capOk bytes zs.length=true) (he:eput n (some d) (.lst e s (some d) zs) env1=some e1) (h:WO P n draw all rest Q e1):WO P n draw all (o::rest) Q env:=by
 subst hz;simp only[capOk,A3,C0,List.length_append]at hc;refine WO.step (e1:=e1) ?_ h;unfold step1
 have key:astep P n o env=some e1/\awanted all o env=some true/\isEff o.op=true:=by
  unfold appPre at hp;unfold astep
  split at hp <;> try cases hp
  rename_i hw
  split at hp <;> try cases hp
  rename_i args ats ho
  split at hp <;> try cases hp
  rename_i x y t t' d hax hat hd
  split at hp <;> try cases hp
  rename_i a b ha hb
  split at hp <;> try cases hp
  rename_i e s hse
  split at hp <;> try cases hp
  rename_i hcond
  split at hp <;> try cases hp
  rename_i ey ky l ys
  split at hp <;> try cases hp
  rename_i hky
  have hei:isEff o.op=true:=by rw[ho];rfl
  refine⟨?_,hw,hei⟩;have hcond':=hcond
  split at hp <;> try cases hp
  .have e1':aappend P t t' d .nils (.lst ey ky l ys) env=some (.lst e s (some d) ys,relabE d none env):=by
    unfold aappend;simp only[hse];split
    .rename_i hcf;exact A7 (hcf.symm.trans hcond')
    simp only[hky];rw[if_pos (by simpa using hc)]
   rw[ho];simp only[hax,hat,hd,ha,hb,e1']
   simpa[hd] using he
  rename_i ex kx c xs
  split at hp <;> try cases hp
  rename_i hx
  have e1':aappend P t t' d (.lst ex kx (some c) xs) (.lst ey ky l ys) env=some (.lst e s (some d) (xs++ys),relabE d none (relabE c none env)):=by
   unfold aappend;simp only[hse];split
   .rename_i hcf;exact A7 (hcf.symm.trans hcond')
   simp only[hky,hx];rw[if_pos hc]
  rw[ho];simp only[hax,hat,hd,ha,hb,e1']
  simpa[hd] using he
 rw[key.2.1]
 cases draw with
 | true =>
  refine YF hl ?_;unfold astepD;simp only[key.2.2,key.1]
 | false=>exact key.1
def okFn (P:Program) (F:Nat):Bool:=match P.funcs[F]? with
 | some fn => fn.name != "runtime.NumGoroutine" && fn.body.isSome
 | none=>false
def callPre (all:LF) (o:Oper) (env:Env):Option (Nat×LJ×LJ) :=
 match awanted all o env with
 | some true=>match o.op with
  | .call { callee:=.value f,args,.. }=>match aop env f,optAll (args.toList.map (aop env)) with
   | some (.clo g caps),some l=>match l.all (fun x=>match x with | .box _ | .pb .. | .sb .. | .pe .. | .obj .. | .tpr .. | .hob .. | .mb .. | .bxg _ | .slf | .agr _ | .clb ..=>false | _=>true) with
    | true=>some (g,l.map AV.strip,caps)
    | false=>none
   | _,_=>none
  | _=>none
 | _=>none
theorem WO.callF {all:LF} {r:AV} (hp:callPre all o env=some (F,l,C)) (hok:okFn P F=true) (hr:Run P (.call F (l++C) r)) (he:callPut n draw o.dst r env=some e1) (h:WO P n draw all rest Q e1):WO P n draw all (o::rest) Q env:=by
 unfold callPre at hp
 split at hp <;> try cases hp
 rename_i hw
 split at hp <;> try cases hp
 rename_i f args ats ho
 split at hp <;> try cases hp
 rename_i g caps l hf hl
 split at hp <;> try cases hp
 rename_i hall;refine WO.call hw ?_ hr he h;unfold acallee;rw[ho];simp only[hf,hl];unfold okFn at hok;split at hok
 .rename_i fn hfn;simp only[hfn,hok];split
  .rfl
  rename_i hcf;exact A7 (hcf.symm.trans hall)
 cases hok
def chk {α:Type} (b:Bool) (o:Option α):Option α:=bif b then o else none
theorem qm {b:Bool} {o:Option α} {r:α} (h:chk b o=some r):b=true/\o=some r:=by
 cases b with
 | true=>exact⟨rfl,h⟩
 | false=>cases h
theorem qb {β:Type} {o:Option α} {f:α->Option β} {r:β} (h:o.bind f=some r):∃ x,o=some x/\f x=some r:=by
 cases o with
 | none=>cases h
 | some x=>exact⟨x,rfl,h⟩
def idx {α:Type} (l:List α) (i:Int):Option α:=if 0<=i then l[i.toNat]? else none
theorem ZX {l:List α} {i:Int} {x:α} {f:α->AV} (h:idx l i=some x):(if 0<=i then ((l.map f)[i.toNat]?).map AV.ptr else none)=some (.ptr (f x)):=by
 unfold idx at h;split at h
 .rename_i h0;rw[if_pos h0,C7,h];rfl
 cases h
theorem jA {l:List α} {x:α} {f:α->AV} (h:l[k]? = some x):(if (0:Int)<=(k:Int) then ((l.map f)[(k:Int).toNat]?).map AV.ptr else none)=some (.ptr (f x)) :=
 ZX (l:=l) (by unfold idx;rw[if_pos (Int.natCast_nonneg k),Int.toNat_natCast,h])
def lenOk {α:Type} (l:List α):Bool:=A2 l.length 9223372036854775807
theorem qlF {a:Int} (h1 : -9223372036854775808<=a) (h2:a<9223372036854775808):D5 .i64 a=a:=by
 simp[D5,IntKind.signed,IntKind.bits];omega
theorem qN {l:List α} (hl:lenOk l=true) (hk:k<l.length):D5 .i64 ((k:Int)+1)=((k+1:Nat):Int):=by
 simp only[lenOk,C0]at hl;rw[qlF (by omega) (by omega)];rfl
theorem jy {l:List α} (hk:k<l.length):decide ((k:Int)<(l.length:Int))=true:=by
 simp;exact_mod_cast hk
theorem ja {l:List α}:decide ((l.length:Int)<(l.length:Int))=false:=by
 simp
theorem qkZ {n:Int} (hk:k<(List.range n.toNat).length):decide ((k:Int)<n)=true:=by
 simp at hk;simp;omega
theorem qjT {n:Int}:decide (((List.range n.toNat).length:Int)<n)=false:=by
 simp;omega
def sub {α:Type} (l:List α) (lo hi:Int):Option (List α):=if 0<=lo/\lo<=hi/\hi<=l.length then some ((l.take hi.toNat).drop lo.toNat) else none
theorem qhw {l r:List α} {lo hi:Int} {f:α->AV} {lb:LR} (h:sub l lo hi=some r):(if (0:Int)<=lo/\lo<=hi/\hi<=((A1 f l).length:Int) then some (AV.lst e k lb (((A1 f l).take hi.toNat).drop lo.toNat)) else none)=some (AV.lst e k lb (A1 f r)):=by
 unfold sub at h;split at h
 .rename_i h0;cases h;rw[if_pos (by simpa using h0),D6,D7]
 cases h
def iAnd (k:IntKind) (a b:Int):Int:=k.wrap ((BitVec.ofInt k.bits a &&& BitVec.ofInt k.bits b).toNat)
def iShr (k:IntKind) (a b:Int):Int:=a.fdiv (2 ^ (min b.toNat k.bits))
def stepsE (P:Program) (n:Nat) (draw:Bool) (all:LF) (k:Nat) (ops:LF) (env:Env) {α:Type} (f:LF->Env->Option α):Option α :=
 match stepsK P n draw all k ops env with
 | some e=>f (ops.drop k) e
 | none=>none
theorem qS {all ops:LF} {f:LF->Env->Option α} {x:α} (h:stepsE P n draw all k ops env f=some x):∃ e,stepsK P n draw all k ops env=some e/\f (ops.drop k) e=some x:=by
 unfold stepsE at h;split at h
 .rename_i e he;exact⟨e,he,h⟩
 cases h
def finE (P:Program) (n:Nat) (draw:Bool) (all ops:LF) (keep frz:LP) (nl:LW) (rl:Lk) (env:Env):Le :=
 (stepsK P n draw all ops.length ops env).map (weakE keep frz nl rl)
theorem WO.fin {all ops:LF} (keep frz:LP) (nl:LW) (rl:Lk) (he:finE P n draw all ops keep frz nl rl env=some e2) (hQ:∀ e,W P n c Q' e->Q e) (h:W P n c Q' e2):WO P n draw all ops Q env:=by
 unfold finE at he;rw[D0]at he;obtain⟨e1,h1,h2⟩:=he;refine WO.steps ops.length h1 ?_;rw[D8];exact .nil (hQ _ (W.weak keep frz nl rl h2 h))
theorem W.regS {ops:Lh} {Q:Ex->Env->Prop} (keep frz:LP) (nl:LW) (rl:Lk) (hd:(!draw || (orderOk ops && ju ops))=true) (he:finE P n draw ops.toList ops.toList keep frz nl rl env=some e2) (h:W P n y Q e2):W P n (.seq (.region id ops draw) y) Q env :=
 W.seq (W.region hd (WO.fin keep frz nl rl he (fun _ h=>h) h))
theorem W.regT {ops:Lh} {Q:Ex->Env->Prop} (keep frz:LP) (nl:LW) (rl:Lk) (hd:(!draw || (orderOk ops && ju ops))=true) (he:finE P n draw ops.toList ops.toList keep frz nl rl env=some e2) (hQ:∀ e,W P n y Q' e->Q .normal e) (h:W P n y Q' e2):W P n (.region id ops draw) Q env :=
 W.region hd (WO.fin keep frz nl rl he hQ h)
theorem WO.callK {all ops:LF} {r:AV} (k:Nat)
  (hp:stepsE P n draw all k ops env (fun os e=>match os with | o::_=>callPre all o e | []=>none)=some (F,l,C)) (hok:okFn P F=true) (hr:Run P (.call F (l++C) r))
  (he:stepsE P n draw all k ops env (fun os e=>match os with | o::_=>callPut n draw o.dst r e | []=>none)=some e1) (h:WO P n draw all (ops.drop (k+1)) Q e1):WO P n draw all ops Q env:=by
 obtain⟨e,h1,h2⟩:=qS hp;obtain⟨e',h3,h4⟩:=qS he;rw[h1]at h3;cases h3;refine WO.steps k h1 ?_
 have hd:ops.drop (k+1)=(ops.drop k).drop 1:=by rw[A9]
 rw[hd]at h
 cases hos:ops.drop k with
 | nil=>rw[hos]at h2;cases h2
 | cons o rest =>
  rw[hos]at h2 h4 h;exact WO.callF h2 hok hr h4 h
theorem WO.agr {all:LF} {ops:LF} (hw:awanted all o env=some true) (he:aagr P n o env=some e1) (h:WO P n false all ops Q e1):WO P n false all (o::ops) Q env:=by
 obtain⟨e',h1,h2⟩:=h;exact⟨e',.agrOp hw he h1,h2⟩
theorem WO.pureK {all ops:LF} (k:Nat) (X:Lc)
  (hp:stepsE P n draw all k ops env (fun os e=>match os with
   | o::_=>match awanted all o e with
    | some true=>match plainOp o.op && notBox v with
     | true=>some (apure P o e)
     | false=>none
    | _=>none
   | []=>none)=some X) (hX:X=some v)
  (he:stepsE P n draw all k ops env (fun os e=>match os with | o::_=>eput n o.dst v e | []=>none)=some e1) (h:WO P n draw all (ops.drop (k+1)) Q e1):WO P n draw all ops Q env:=by
 obtain⟨e,h1,h2⟩:=qS hp;obtain⟨e',h3,h4⟩:=qS he;rw[h1]at h3;cases h3;refine WO.steps k h1 ?_
 have hd:ops.drop (k+1)=(ops.drop k).drop 1:=by rw[A9]
 rw[hd]at h
 cases hos:ops.drop k with
 | nil=>rw[hos]at h2;cases h2
 | cons o rest =>
  rw[hos]at h2 h4 h;simp only at h2
  split at h2 <;> try cases h2
  rename_i hw
  split at h2 <;> try cases h2
  rename_i hpl;exact WO.pureE hw hpl rfl hX h4 h
theorem WO.appendK {all ops:LF} (k:Nat)
  (hp:stepsE P n draw all k ops env (fun os e=>match os with | o::_=>appPreD P draw all o e | []=>none)=some (d,e,s,bytes,xs,ys,env1)) (hz:xs++ys=zs) (hc:capOk bytes zs.length=true) (he:eput n (some d) (.lst e s (some d) zs) env1=some e1) (h:WO P n draw all (ops.drop (k+1)) Q e1):WO P n draw all ops Q env:=by
 obtain⟨e,h1,h2⟩:=qS hp;refine WO.steps k h1 ?_
 have hd:ops.drop (k+1)=(ops.drop k).drop 1:=by rw[A9]
 rw[hd]at h
 cases hos:ops.drop k with
 | nil=>rw[hos]at h2;cases h2
 | cons o rest =>
  rw[hos]at h2 h;exact WO.append (qbc h2).1 (qbc h2).2 hz hc he h
theorem WO.boolK {all ops:LF} (k:Nat) (E:Bool->Env) (b:Bool) (he:stepsK P n draw all k ops env=some (E b)) (ht:b=true->WO P n draw all (ops.drop k) Q (E true)) (hf:b=false->WO P n draw all (ops.drop k) Q (E false)):WO P n draw all ops Q env :=
 WO.steps k he (WO.bool E b ht hf)
def WB (P:Program) (n:Nat) (all ops:LF) (Q:Env->Prop) (env:Env):Prop:=∃ e',Run P (.opsB n all ops env e')/\Q (dropB all e')
def stepB1 (P:Program) (n:Nat) (all:LF) (o:Oper) (env:Env):Le :=
 match awanted all o env with
 | some true=>astepB P n o env
 | _=>none
def stepsB (P:Program) (n:Nat) (all:LF):Nat->LF->Env->Le
 | 0,_,env=>some env
 | _+1,[],env=>some env
 | k+1,o::rest,env=>match stepB1 P n all o env with
  | some e=>stepsB P n all k rest e
  | none=>none
theorem WB.step {all rest:LF} {o:Oper} {Q:Env->Prop} {env e1:Env} (h:stepB1 P n all o env=some e1) (hr:WB P n all rest Q e1):WB P n all (o::rest) Q env:=by
 obtain⟨e',h1,h2⟩:=hr;unfold stepB1 at h;split at h
 .rename_i hw;exact⟨e',.opB hw h h1,h2⟩
 cases h
theorem WB.steps {all:LF} {Q:Env->Prop}:∀ (k:Nat) {ops:LF} {env e1:Env},stepsB P n all k ops env=some e1->WB P n all (ops.drop k) Q e1->WB P n all ops Q env
 | 0,ops,env,e1,h,hr=>by cases h;exact hr
 | k+1,[],env,e1,h,hr=>by cases h;exact hr
 | k+1,o::rest,env,e1,h,hr=>by
  simp only[stepsB]at h;split at h
  .rename_i e he;exact WB.step he (WB.steps k h hr)
  cases h
def stepsEB (P:Program) (n:Nat) (all:LF) (k:Nat) (ops:LF) (env:Env) {α:Type} (f:LF->Env->Option α):Option α :=
 match stepsB P n all k ops env with
 | some e=>f (ops.drop k) e
 | none=>none
theorem ZZ {all ops:LF} {f:LF->Env->Option α} {x:α} (h:stepsEB P n all k ops env f=some x):∃ e,stepsB P n all k ops env=some e/\f (ops.drop k) e=some x:=by
 unfold stepsEB at h;split at h
 .rename_i e he;exact⟨e,he,h⟩
 cases h
def quietB:Op->Bool
 | .call { callee:=.builtin .append,.. }=>false
 | .buildSlice ..=>false
 | _=>true
theorem qfJ (h:quietB o.op=true):astepB P n o env=match o.dst,apure P o env with
  | some d,some v=>match memFree o.op && notBox v with
   | true=>eput n o.dst v.strip env
   | false=>none
  | _,_=>none:=by
 unfold astepB
 split <;> first | rfl | simp_all [quietB]
theorem WB.pureK {all ops:LF} (k:Nat) (X:Lc)
  (hp:stepsEB P n all k ops env (fun os e=>match os with
   | o::_=>match awanted all o e with
    | some true=>match quietB o.op && memFree o.op && notBox v && o.dst.isSome with
     | true=>some (apure P o e)
     | false=>none
    | _=>none
   | []=>none)=some X) (hX:X=some v)
  (he:stepsEB P n all k ops env (fun os e=>match os with | o::_=>eput n o.dst v.strip e | []=>none)=some e1) (h:WB P n all (ops.drop (k+1)) Q e1):WB P n all ops Q env:=by
 obtain⟨e,h1,h2⟩:=ZZ hp;obtain⟨e',h3,h4⟩:=ZZ he;rw[h1]at h3;cases h3;refine WB.steps k h1 ?_
 have hd:ops.drop (k+1)=(ops.drop k).drop 1:=by rw[A9]
 rw[hd]at h
 cases hos:ops.drop k with
 | nil=>rw[hos]at h2;cases h2
 | cons o rest =>
  rw[hos]at h2 h4 h;simp only at h2
  split at h2 <;> try cases h2
  rename_i hw
  split at h2 <;> try cases h2
  rename_i hpl;simp only[A3]at hpl;refine WB.step (e1:=e1) ?_ h;unfold stepB1;rw[hw];simp only[qfJ hpl.1.1.1]
  cases hdst:o.dst with
  | none=>rw[hdst]at hpl;cases hpl.2
  | some d =>
   rw[hX];simp only[hpl.1.1.2,hpl.1.2,B1];rw[<- hdst];exact h4
def sideB (o:Oper) (env:Env):Bool:=match o.op with
 | .call { callee:=.builtin .append,args,.. }=>match args.toList,o.dst with
  | [.tmp x,.tmp y],some d=>match aop env (.tmp x) with
   | some (.lst _ _ (some c) _)=>A0 c x && !A0 x d && !A0 y d
   | _=>false
  | _,_=>false
 | _=>false
theorem WB.append {all:LF} (hs:sideB o env=true) (hp:appPre P all o env=some (d,e,s,bytes,xs,ys,env1)) (hz:xs++ys=zs) (hc:capOk bytes zs.length=true) (he:eput n (some d) (.lst e s (some d) zs) env1=some e1) (h:WB P n all rest Q e1):WB P n all (o::rest) Q env:=by
 subst hz;simp only[capOk,A3,C0,List.length_append]at hc;refine WB.step (e1:=e1) ?_ h;unfold stepB1;unfold sideB at hs
 split at hs <;> try (cases hs;done)
 rename_i args ats ho
 split at hs <;> try (cases hs;done)
 rename_i x y d' hax hd'
 split at hs <;> try (cases hs;done)
 rename_i ex0 kx0 c0 xs0 hx0;unfold appPre at hp
 split at hp <;> try cases hp
 rename_i hw;rw[ho]at hp;simp only[hax]at hp
 split at hp <;> try cases hp
 rename_i x' y' t t' d2 hxy hat hd;cases hxy;rw[hd']at hd;cases hd;rw[hx0]at hp
 split at hp <;> try cases hp
 rename_i a b ha hb;cases ha
 split at hp <;> try cases hp
 rename_i e s hse
 split at hp <;> try cases hp
 rename_i hcond
 split at hp <;> try cases hp
 rename_i ey ky l ys
 split at hp <;> try cases hp
 rename_i hky;simp only at hp
 split at hp <;> try cases hp
 rename_i hx
 have e1':aappend P t t' d (.lst ex0 kx0 (some c0) xs) (.lst ey ky l ys) env=some (.lst e s (some d) (xs++ys),relabE d none (relabE c0 none env)):=by
  unfold aappend;simp only[hse];split
  .rename_i hcf;exact A7 (hcf.symm.trans hcond)
  simp only[hky,hx];rw[if_pos hc]
 unfold astepB;rw[ho];simp only[hax,hat,hd',hx0,hb,hs,e1'];exact he
theorem WB.appendK {all ops:LF} (k:Nat)
  (hs:stepsEB P n all k ops env (fun os e=>match os with | o::_=>some (sideB o e) | []=>none)=some true)
  (hp:stepsEB P n all k ops env (fun os e=>match os with | o::_=>appPre P all o e | []=>none)=some (d,e,s,bytes,xs,ys,env1)) (hz:xs++ys=zs) (hc:capOk bytes zs.length=true) (he:eput n (some d) (.lst e s (some d) zs) env1=some e1) (h:WB P n all (ops.drop (k+1)) Q e1):WB P n all ops Q env:=by
 obtain⟨e,h1,h2⟩:=ZZ hp;obtain⟨e',h1',h2'⟩:=ZZ hs;rw[h1]at h1';cases h1';refine WB.steps k h1 ?_
 have hd:ops.drop (k+1)=(ops.drop k).drop 1:=by rw[A9]
 rw[hd]at h
 cases hos:ops.drop k with
 | nil=>rw[hos]at h2;cases h2
 | cons o rest =>
  rw[hos]at h2 h2' h;exact WB.append (Option.some.inj h2') h2 hz hc he h
def finB (P:Program) (n:Nat) (all ops:LF) (keep frz:LP) (nl:LW) (rl:Lk) (env:Env):Le :=
 (stepsB P n all ops.length ops env).map fun e=>weakE keep frz nl rl (dropB all e)
theorem WB.fin {all ops:LF} (keep frz:LP) (nl:LW) (rl:Lk) (he:finB P n all ops keep frz nl rl env=some e2) (hQ:∀ e,W P n c Q' e->Q e) (h:W P n c Q' e2):WB P n all ops Q env:=by
 unfold finB at he;rw[D0]at he;obtain⟨e1,h1,h2⟩:=he;refine WB.steps ops.length h1 ?_;rw[D8];exact⟨e1,.nilB,hQ _ (W.weak keep frz nl rl h2 h)⟩
def encL {α:Type} (e k:Nat) (f:α->AV) (l:List α):AV:=.lst e k none (l.map f)
end
end Go.AM
namespace Go.AM
variable {o:Oper} {rest:LF} {draw:Bool} {Q:Env->Prop} {e1 e2 env env0 env1 hp hp2:Env} {F bytes d e f id j m off s:Nat} {C args l vs xs zs:LJ} {c x y:Code} {α:Type} {Q':Ex->Env->Prop} {v:AV}
section
variable {P:Program} {n:Nat}
theorem W.mv {c:Code} {Q:Ex->Env->Prop} {env env':Env} (q:List Mv) (he:mvAll env q=env') (h:W P n c Q env'):W P n c Q env:=by
 subst he;obtain⟨ex,e1,h1,h2⟩:=h;exact⟨ex,e1,.mv q h1,h2⟩
theorem WO.mv {all ops:LF} {Q:Env->Prop} {env env':Env} (q:List Mv) (he:mvAll env q=env') (h:WO P n false all ops Q env'):WO P n false all ops Q env:=by
 subst he;obtain⟨e',h1,h2⟩:=h;exact⟨e',.mvOp q h1,h2⟩
theorem W.seqU {v:Code} {c:Operand} {x y z:Code} {Q:Ex->Env->Prop} {env e0 ei e2:Env} (p:Bool) (h0:W P n v (fun ex' e'=>ex'=.normal/\e'=e0) env) (hc:aop e0 c=some (.ub p)) (ht:p=true->W P n x (fun ex' e'=>ex'=.ret/\e'=e2) e0) (hf:W P n y (fun ex' e'=>ex'=.normal/\e'=ei) e0) (hz:W P n z (fun ex' e'=>ex'=.ret/\e'=e2) ei) (hq:Q .ret e2):W P n (.seq (.seq v (.cond c x y)) z) Q env:=by
 refine⟨.ret,e2,.seqU (e0:=e0) (ei:=ei) p ?_ hc (fun hp=>?_) ?_ ?_,hq⟩
 .obtain⟨ex',e',h1,rfl,rfl⟩:=h0;exact h1
 .obtain⟨ex',e',h1,rfl,rfl⟩:=ht hp;exact h1
 .obtain⟨ex',e',h1,rfl,rfl⟩:=hf;exact h1
 obtain⟨ex',e',h1,rfl,rfl⟩:=hz;exact h1
theorem Yi {ops:LF} {k:Nat} (h:ops.drop k=o::rest):ops.drop (k+1)=rest:=by
 have hd:ops.drop (k+1)=(ops.drop k).drop 1:=by rw[A9]
 rw[hd,h];rfl
def qdy (all:LF) (o:Oper) (env:Env):Option (Nat×LJ×LJ) :=
 match awanted all o env with
 | some true=>match o.op with
  | .call { callee:=.value f,args,.. }=>match aop env f,optAll (args.toList.map (aop env)) with
   | some (.clo g caps),some l=>match optAll (l.map (asnap env)) with
    | some l'=>some (g,l',caps)
    | none=>none
   | _,_=>none
  | _=>none
 | _=>none
theorem WO.callRF {all:LF} {r:AV} (hp:qdy all o env=some (F,l,C)) (ha:l++C=args) (hok:okFn P F=true) (hpl:r.plain=true) (hr:Run P (.call F args r)) (he:eput n o.dst r env=some e1) (h:WO P n draw all rest Q e1):WO P n draw all (o::rest) Q env:=by
 subst ha;unfold qdy at hp
 split at hp <;> try cases hp
 rename_i hw
 split at hp <;> try cases hp
 rename_i f args ats ho
 split at hp <;> try cases hp
 rename_i g caps l hf hl
 split at hp <;> try cases hp
 rename_i l' hl';obtain⟨e',h1,h2⟩:=h;refine⟨e',.callOpR hw ?_ hpl hr he h1,h2⟩;unfold Xr;rw[ho];simp only[hf,hl];unfold okFn at hok;split at hok
 .rename_i fn hfn;simp only[hfn,hok,hl']
 cases hok
theorem WO.callRK {all ops:LF} {r:AV} (k:Nat)
  (hp:stepsE P n draw all k ops env (fun os e=>match os with | o::_=>qdy all o e | []=>none)=some (F,l,C)) (ha:l++C=args) (hok:okFn P F=true) (hpl:r.plain=true) (hr:Run P (.call F args r))
  (he:stepsE P n draw all k ops env (fun os e=>match os with | o::_=>eput n o.dst r e | []=>none)=some e1) (h:WO P n draw all (ops.drop (k+1)) Q e1):WO P n draw all ops Q env:=by
 obtain⟨e,h1,h2⟩:=qS hp;obtain⟨e',h3,h4⟩:=qS he;rw[h1]at h3;cases h3;refine WO.steps k h1 ?_
 cases hos:ops.drop k with
 | nil=>rw[hos]at h2;cases h2
 | cons o rest =>
  rw[hos]at h2 h4;rw[Yi hos]at h;exact WO.callRF h2 ha hok hpl hr h4 h
def qdz (P:Program) (all:LF) (o:Oper) (env:Env) (ρ:LV):Option (Nat×LJ×Env) :=
 match awanted all o env with
 | some true=>qbd P o env ρ
 | _=>none
theorem WO.callMK {all ops:LF} {r:AV} (k:Nat) (ρ nw:LV)
  (h0:stepsE P n false all k ops env (fun os e=>match os with | o::_=>qdz P all o e ρ | []=>none)=some (F,args,hp)) (hr:Run P (.callM F args hp r hp2))
  (he:stepsE P n false all k ops env (fun os e=>match os with | o::_=>Hx n o.dst ρ nw r hp2 e | []=>none)=some e1) (h:WO P n false all (ops.drop (k+1)) Q e1):WO P n false all ops Q env:=by
 obtain⟨e,h1,h2⟩:=qS h0;obtain⟨e',h3,h4⟩:=qS he;rw[h1]at h3;cases h3;refine WO.steps k h1 ?_
 cases hos:ops.drop k with
 | nil=>rw[hos]at h2;cases h2
 | cons o rest =>
  rw[hos]at h2 h4;rw[Yi hos]at h;simp only[qdz]at h2
  split at h2 <;> try cases h2
  rename_i hw;obtain⟨e2,g1,g2⟩:=h;exact⟨e2,.callOpM ρ nw hw h2 hr h4 g1,g2⟩
def stPre (P:Program) (all:LF) (o:Oper) (env:Env):Option (Nat×Nat×Nat×LJ×Nat×Nat×LJ) :=
 match awanted all o env with
 | some true=>match o.op with
  | .store t p x=>match o.dst,aop env p,aop env x,tSize P t with
   | none,some (.pe id k j off),some v,some sz=>match A0 v.cells.length sz,look env id with
    | true,some (.obj e k' xs)=>match A0 k k' with
     | true=>some (id,e,k,xs,j,off,v.cells)
     | false=>none
    | _,_=>none
   | _,_,_,_=>none
  | _=>none
 | _=>none
theorem WO.storeK {all ops:LF} {y y':AV} (k:Nat)
  (hp:stepsE P n draw all k ops env (fun os e=>match os with | o::_=>stPre P all o e | []=>none)=some (id,e,s,xs,j,off,vs)) (hy:xs[j]? = some y) (hput:putElem y off vs=some y') (hz:xs.set j y'=zs)
  (he:stepsE P n draw all k ops env (fun os en=>some (ins id (.obj e s zs) en))=some e1) (h:WO P n draw all (ops.drop (k+1)) Q e1):WO P n draw all ops Q env:=by
 subst hz;obtain⟨en,h1,h2⟩:=qS hp;obtain⟨en',h3,h4⟩:=qS he;rw[h1]at h3;cases h3;cases h4;refine WO.steps k h1 ?_
 cases hos:ops.drop k with
 | nil=>rw[hos]at h2;cases h2
 | cons o rest =>
  rw[hos]at h2;rw[Yi hos]at h;simp only[stPre]at h2
  split at h2 <;> try cases h2
  rename_i hw
  split at h2 <;> try cases h2
  rename_i t p x ho
  split at h2 <;> try cases h2
  rename_i id' k' j' off' v sz hd hpp hx hsz
  split at h2 <;> try cases h2
  rename_i e' k2 xs' hlen hl
  split at h2 <;> try cases h2
  rename_i hk
  have hst:astep P n o en=some (ins id (.obj e s (xs.set j y')) en):=by
   unfold astep;rw[ho];simp only[hd,hpp,hx,hsz,hlen];unfold putObj;simp only[hl,hk,hy,hput]
  refine WO.step (e1:=ins id (.obj e s (xs.set j y')) en) ?_ h;unfold step1;rw[hw]
  cases draw with
  | true =>
   have:isEff o.op=true:=by rw[ho];rfl
   refine YF (VM (by rw[ho];rfl)) ?_;unfold astepD;simp only[this,hst]
  | false=>exact hst
def mkPre (P:Program) (n:Nat) (all:LF) (o:Oper) (env:Env):Option (Nat×Nat×Nat×Int×Int×Nat×AV×Env) :=
 match awanted all o env with
 | some true=>match o.op with
  | .makeSlice t l c=>match o.dst,aop env l,aop env c,jT P t with
   | some d,some (.int _ m),some (.int _ m'),some (e,s)=>match Yy P e,clearOf (1000000+d) env && A6 0 s with
    | some z,true=>match A0 z.length s && z.all AV.one with
     | true=>(eput n o.dst (.sb (1000000+d) e s 0 m.toNat) env).map fun env1=>(d,e,s,m,m',((P.info? e).map (·.bytes)).getD 0,elemOf z s,env1)
     | false=>none
    | _,_=>none
   | _,_,_,_=>none
  | _=>none
 | _=>none
def mkOk (bytes:Nat) (m:Int):Bool:=decide (0<=m) && decide (m * bytes<=281474976710656) && decide (m<=9223372036854775807)
theorem WO.makeK {all ops:LF} {m:Int} {z:AV} (k:Nat)
  (hp:stepsE P n draw all k ops env (fun os e=>match os with | o::_=>mkPre P n all o e | []=>none)=some (d,e,s,m,m,bytes,z,env1)) (hc:mkOk bytes m=true) (hz:A8 m.toNat z=zs)
  (he:ins (1000000+d) (.obj e s zs) env1=e1) (h:WO P n draw all (ops.drop (k+1)) Q e1):WO P n draw all ops Q env:=by
 subst hz;subst he;obtain⟨en,h1,h2⟩:=qS hp;refine WO.steps k h1 ?_
 cases hos:ops.drop k with
 | nil=>rw[hos]at h2;cases h2
 | cons o rest =>
  rw[hos]at h2;rw[Yi hos]at h;simp only[mkPre]at h2
  split at h2 <;> try cases h2
  rename_i hw
  split at h2 <;> try cases h2
  rename_i t l c ho
  split at h2 <;> try cases h2
  rename_i d' k1 m1 k2 m2 e' s' hd hl hcc hse
  split at h2 <;> try cases h2
  rename_i z' hzc hcl
  split at h2 <;> try cases h2
  rename_i hzl;rw[D0]at h2;obtain⟨env',g1,g2⟩:=h2;cases g2;simp only[mkOk,A3,decide_eq_true_eq]at hc
  have hst:astep P n o en=some (ins (1000000+d) (.obj e s (A8 m.toNat (elemOf z' s))) env1):=by
   unfold astep;rw[ho];simp only[hd,hl,hcc,hse,hzc,hcl,hzl];rw[if_pos ⟨trivial,hc.1.1,hc.1.2,hc.2⟩];rw[hd]at g1;rw[g1];rfl
  refine WO.step (e1:=ins (1000000+d) (.obj e s (A8 m.toNat (elemOf z' s))) env1) ?_ h;unfold step1;rw[hw]
  cases draw with
  | true =>
   have:isEff o.op=true:=by rw[ho];rfl
   refine YF (VM (by rw[ho];rfl)) ?_;unfold astepD;simp only[this,hst]
  | false=>exact hst
def aoPre (P:Program) (n:Nat) (all:LF) (o:Oper) (env:Env):Option (Nat×Nat×Nat×Nat×Nat×LJ×LJ×Env) :=
 match awanted all o env with
 | some true=>match o.op with
  | .call { callee:=.builtin .append,args,argTypes }=>match args.toList,argTypes.toList,o.dst with
   | [x,y],[t,t'],some d=>match aop env x,aop env y with
    | some (.sb id ex kx off m),some q=>match jT P t with
     | some (e,s)=>match A0 t t' && A6 0 s && (match (P.info? e).bind (·.zero) with | some z=>A0 z.cells.size s | none=>false) with
      | true=>match look env id,content env q with
       | some (.obj e' k' xs),some (ky,ys)=>match A0 ex e && A0 e' e && A0 kx s && A0 k' s && A0 ky s && A0 off 0 && (usable id && A6 e 1000000000) with
        | true=>match clearOf (1000000+d) (forget id env) && (match look env d with | some (.box _)=>false | some (.obj ..)=>false | some (.hob ..)=>false | some (.bxg _)=>false | _=>true) && A6 d n with
         | true=>some (d,e,s,((P.info? e).map (·.bytes)).getD 0,m,xs,ys,forget id env)
         | false=>none
        | false=>none
       | _,_=>none
      | false=>none
     | none=>none
    | _,_=>none
   | _,_,_=>none
  | _=>none
 | _=>none
def aoPreD (P:Program) (n:Nat) (draw:Bool) (all:LF) (o:Oper) (env:Env):Option (Nat×Nat×Nat×Nat×Nat×LJ×LJ×Env) :=
 match !draw || lfOk all o env with
 | true=>aoPre P n all o env
 | false=>none
theorem qhq {all:LF} {r:Nat×Nat×Nat×Nat×Nat×LJ×LJ×Env} (h:aoPreD P n draw all o env=some r):(!draw || lfOk all o env)=true/\aoPre P n all o env=some r:=by
 unfold aoPreD at h;split at h
 .rename_i hl;exact⟨hl,h⟩
 cases h
theorem WO.appendOK {all ops:LF} {n2:Nat} {ys:LJ} (k:Nat)
  (hp:stepsE P n draw all k ops env (fun os e=>match os with | o::_=>aoPreD P n draw all o e | []=>none)=some (d,e,s,bytes,m,xs,ys,env1)) (hc:capOk bytes (m+ys.length)=true) (hz:snapA 0 m xs++ys=zs) (hn:zs.length=n2)
  (he:ins (1000000+d) (.obj e s zs) (ins d (.sb (1000000+d) e s 0 n2) env1)=e1) (h:WO P n draw all (ops.drop (k+1)) Q e1):WO P n draw all ops Q env:=by
 subst hn;subst hz;subst he;obtain⟨en,h1,h2⟩:=qS hp;refine WO.steps k h1 ?_
 cases hos:ops.drop k with
 | nil=>rw[hos]at h2;cases h2
 | cons o rest =>
  rw[hos]at h2;rw[Yi hos]at h;simp only at h2;obtain⟨hlf0,h2⟩:=qhq h2;simp only[capOk,A3,C0]at hc;simp only[aoPre]at h2
  split at h2 <;> try cases h2
  rename_i hw
  split at h2 <;> try cases h2
  rename_i args ats ho
  split at h2 <;> try cases h2
  rename_i x y t t' d' hax hat hd
  split at h2 <;> try cases h2
  rename_i id ex kx off m' q ha hb
  split at h2 <;> try cases h2
  rename_i e' s' hse
  split at h2 <;> try cases h2
  rename_i hcond
  split at h2 <;> try cases h2
  rename_i e2 k2 xs' ky ys' hl hcon
  split at h2 <;> try cases h2
  rename_i hk
  split at h2 <;> try cases h2
  rename_i hcl
  have hao:VZ P n t t' d (.sb id ex kx off m) q en=some (ins (1000000+d) (.obj e s (snapA 0 m xs++ys)) (ins d (.sb (1000000+d) e s 0 (snapA 0 m xs++ys).length) (forget id en))):=by
   unfold VZ;simp only[hse];split
   .rename_i hcf;exact A7 (hcf.symm.trans hcond)
   simp only[hl,hcon,hk];split
   .rw[if_pos hc]
   rename_i hcf;exact A7 (hcf.symm.trans hcl)
  have hst:astep P n o en=some (ins (1000000+d) (.obj e s (snapA 0 m xs++ys)) (ins d (.sb (1000000+d) e s 0 (snapA 0 m xs++ys).length) (forget id en))):=by
   unfold astep;rw[ho];simp only[hax,hat,hd,ha,hb,hao]
  refine WO.step (e1:=_) ?_ h;unfold step1;rw[hw]
  cases draw with
  | true =>
   have hlf:lfOk all o en=true:=by simpa using hlf0
   have:isEff o.op=true:=by rw[ho];rfl
   refine YF hlf ?_;unfold astepD;simp only[this,hst]
  | false=>exact hst
def PostM (P:Program) (fn:Func) (r:AV) (hp:Env):Ex->Env->Prop
 | .exit _,_=>False
 | _,e=>Dx P fn e=some r/\ents e=hp
theorem qiq {r:AV} {fn:Func} (hf:P.funcs[f]? = some fn) (hb:fn.body=some c) (hlen:(A2 args.length fn.ntmps && A2 fn.ntmps 1000000 && hpOk hp)=true) (he:argsEnv 0 (args.map AV.strip)++hp=env0) (h:W P fn.ntmps c (PostM P fn r hp2) env0):Run P (.callM f args hp r hp2):=by
 subst he;obtain⟨ex,e1,h1,h2⟩:=h
 cases ex with
 | exit id=>exact h2.elim
 | normal=>obtain⟨h2,rfl⟩:=h2;exact .callM hf hb hlen h1 trivial h2
 | ret=>obtain⟨h2,rfl⟩:=h2;exact .callM hf hb hlen h1 trivial h2
theorem WO.end0 {all ops:LF} (he:stepsK P n draw all ops.length ops env=some e2) (h:Q e2):WO P n draw all ops Q env:=by
 refine WO.steps ops.length he ?_;rw[D8];exact .nil h
def snap {α:Type} (off n:Nat) (l:List α):List α:=(l.drop off).take n
theorem UE {f:α->AV} {n:Nat} {l:List α}:snapA off n (A1 f l)=A1 f (snap off n l):=by
 unfold snapA snap;rw[D7,D6]
theorem Vp {l:List α}:snap 0 l.length l=l:=by
 unfold snap;simp
theorem UD {n:Nat} {x:α}:snap 0 n (A8 n x)=A8 n x:=by
 unfold snap;simp
def upd {α:Type} (l:List α) (j:Nat) (v:α):Option (List α):=if j<l.length then some (l.set j v) else none
theorem qkt {l l':List α} {v:α} (h:upd l j v=some l'):∃ y,l[j]? = some y/\l.set j v=l':=by
 unfold upd at h;split at h
 .rename_i hj;exact⟨l[j],List.getElem?_eq_getElem hj,Option.some.inj h⟩
 cases h
theorem qlK {l:List α} {y:α} {f:α->AV} (h:l[j]? = some y):(A1 f l)[j]? = some (f y):=by
 rw[C7,h];rfl
theorem qlJ {l l':List α} {v:α} {f:α->AV} (h:l.set j v=l'):(A1 f l).set j (f v)=A1 f l':=by
 rw[<- h,List.map_set]
theorem qmr {β:Type} {l:List α} {y:α} {f:α->AV} {G:AV->Option β} (h:l[j]? = some y):(match (A1 f l)[j]? with | some y=>G y | none=>none)=G (f y):=by
 rw[C7,h];rfl
theorem qiM {f:α->AV} {x:α}:A8 m (f x)=A1 f (A8 m x):=List.map_replicate.symm
theorem qle {c:Prop} [Decidable c] {x:α} (h:decide c=true):(if c then some x else none)=some x:=if_pos (of_decide_eq_true h)
theorem W.rg {ops:Lh} {Q:Ex->Env->Prop} (h:WO P n draw ops.toList ops.toList (Q .normal) env) (hd:(!draw || (orderOk ops && ju ops))=true:=by kernel_rfl):W P n (.region id ops draw) Q env:=W.region hd h
theorem W.wk {Q:Ex->Env->Prop} {e:Env} (h:W P n c Q e) (he:weakE (e.map D1) [] [] [] env=e:=by kernel_rfl):W P n c Q env:=W.weak _ _ _ _ he h
theorem WO.fn {all ops:LF} (h:W P n c Q' e2) (he:finE P n draw all ops (e2.map D1) [] [] [] env=some e2:=by kernel_rfl) (hQ:∀ e,W P n c Q' e->Q e:=by exact fun _ h=>h):WO P n draw all ops Q env:=WO.fin _ _ _ _ he hQ h
theorem W.rt {ops:Lh} {Q:Ex->Env->Prop} (h:W P n y Q' e2) (hd:(!draw || (orderOk ops && ju ops))=true:=by kernel_rfl) (he:finE P n draw ops.toList ops.toList (e2.map D1) [] [] [] env=some e2:=by kernel_rfl) (hQ:∀ e,W P n y Q' e->Q .normal e:=by exact fun _ h=>h):W P n (.region id ops draw) Q env:=W.regT _ _ _ _ hd he hQ h
theorem W.cb {c:Operand} {Q:Ex->Env->Prop} (b:Bool) (ht:b=true->W P n x Q env) (hf:b=false->W P n y Q env) (hc:aop env c=some (.bool b):=by kernel_rfl):W P n (.cond c x y) Q env:=W.cond b hc ht hf
theorem WO.bk {all ops:LF} (k:Nat) (E:Bool->Env) (b:Bool) (ht:b=true->WO P n draw all (ops.drop k) Q (E true)) (hf:b=false->WO P n draw all (ops.drop k) Q (E false)) (he:stepsK P n draw all k ops env=some (E b):=by kernel_rfl):WO P n draw all ops Q env:=WO.boolK k E b he ht hf
def gE:Le->Env
 | some e=>e
 | none=>[]
theorem gE_some:∀{o:Le},o.isSome=true->o=some (gE o)
 | some _,_=>rfl
theorem WO.sl {all ops:LF} (k:Nat) (h:WO P n draw all (ops.drop k) Q (gE (stepsK P n draw all k ops env))) (he:(stepsK P n draw all k ops env).isSome=true:=by kernel_rfl):WO P n draw all ops Q env:=WO.steps k (gE_some he) h
def ap6:Option (Nat×Nat×Nat×Nat×LJ×LJ×Env)->Env
 | some x=>x.2.2.2.2.2.2
 | none=>[]
theorem WO.ak {all ops:LF} (k d e s:Nat) (f:α->AV) (l m:List α) (hc:capOk bytes (l++m).length=true) (h:WO P n draw all (ops.drop (k+1)) Q (gE (eput n (some d) (.lst e s (some d) (A1 f (l++m))) (ap6 (stepsE P n draw all k ops env (fun os e=>match os with | o::_=>appPreD P draw all o e | []=>none))))))  (hp:stepsE P n draw all k ops env (fun os e=>match os with | o::_=>appPreD P draw all o e | []=>none)=some (d,e,s,bytes,A1 f l,A1 f m,ap6 (stepsE P n draw all k ops env (fun os e=>match os with | o::_=>appPreD P draw all o e | []=>none))):=by kernel_rfl) (he:(eput n (some d) (.lst e s (some d) (A1 f (l++m))) (ap6 (stepsE P n draw all k ops env (fun os e=>match os with | o::_=>appPreD P draw all o e | []=>none)))).isSome=true:=by kernel_rfl):WO P n draw all ops Q env:=WO.appendK k hp List.map_append.symm (by rw[A4];exact hc) (gE_some he) h
theorem WO.ck {all ops:LF} {r:AV} (k:Nat) (hr:Run P (.call F (l++C) r)) (h:WO P n draw all (ops.drop (k+1)) Q (gE (stepsE P n draw all k ops env (fun os e=>match os with | o::_=>callPut n draw o.dst r e | []=>none))))
  (hp:stepsE P n draw all k ops env (fun os e=>match os with | o::_=>callPre all o e | []=>none)=some (F,l,C):=by kernel_rfl) (hok:okFn P F=true:=by kernel_rfl)
  (he:(stepsE P n draw all k ops env (fun os e=>match os with | o::_=>callPut n draw o.dst r e | []=>none)).isSome=true:=by kernel_rfl):WO P n draw all ops Q env:=WO.callK k hp hok hr (gE_some he) h
theorem WO.cm {all ops:LF} {r:AV} (k:Nat) (ρ nw:LV) (hr:Run P (.callM F args hp r hp2)) (h:WO P n false all (ops.drop (k+1)) Q e1)
  (h0:stepsE P n false all k ops env (fun os e=>match os with | o::_=>qdz P all o e ρ | []=>none)=some (F,args,hp):=by kernel_rfl)
  (he:stepsE P n false all k ops env (fun os e=>match os with | o::_=>Hx n o.dst ρ nw r hp2 e | []=>none)=some e1:=by kernel_rfl):WO P n false all ops Q env:=WO.callMK k ρ nw h0 hr he h
def pureX (P:Program) (n:Nat) (draw:Bool) (all:LF) (k:Nat) (ops:LF) (env:Env) (v:AV):Option Lc :=
 stepsE P n draw all k ops env (fun os e=>match os with
   | o::_=>match awanted all o e with
    | some true=>match plainOp o.op && notBox v with
     | true=>some (apure P o e)
     | false=>none
    | _=>none
   | []=>none)
def putX (n:Nat) (P:Program) (draw:Bool) (all:LF) (k:Nat) (ops:LF) (env:Env) (v:AV):Le :=
 stepsE P n draw all k ops env (fun os e=>match os with | o::_=>eput n o.dst v e | []=>none)
theorem WO.pk {all ops:LF} (k:Nat) (X:Lc) (hX:X=some v) (h:WO P n draw all (ops.drop (k+1)) Q (gE (putX n P draw all k ops env v))) (hp:pureX P n draw all k ops env v=some X:=by kernel_rfl) (he:(putX n P draw all k ops env v).isSome=true:=by kernel_rfl):WO P n draw all ops Q env :=
 WO.pureK k X hp hX (gE_some he) h
theorem WO.pi {all ops:LF} (k:Nat) {c:Prop} [Decidable c] (hc:decide c=true) (h:WO P n draw all (ops.drop (k+1)) Q (gE (putX n P draw all k ops env v))) (hp:pureX P n draw all k ops env v=some (if c then some v else none):=by kernel_rfl) (he:(putX n P draw all k ops env v).isSome=true:=by kernel_rfl):WO P n draw all ops Q env :=
 WO.pureK k _ hp (qle hc) (gE_some he) h
theorem WO.pl {all ops:LF} {l:List α} {y:α} (k:Nat) (F:α->AV) (T O:Nat) (hj:l[j]? = some y) (h:WO P n draw all (ops.drop (k+1)) Q (gE (putX n P draw all k ops env v)))
  (hp:pureX P n draw all k ops env v=some (match (A1 F l)[j]? with | some y=>cut P T (y.cells.map AV.strip) O | none=>none):=by kernel_rfl) (hv:cut P T ((F y).cells.map AV.strip) O=some v:=by kernel_rfl) (he:(putX n P draw all k ops env v).isSome=true:=by kernel_rfl):WO P n draw all ops Q env :=
 WO.pureK k _ hp ((qmr (f:=F) (G:=fun y=>cut P T (y.cells.map AV.strip) O) hj).trans hv) (gE_some he) h
theorem WO.sk {all ops:LF} {l l':List α} {y w:α} (k:Nat) (F:α->AV) (hy:l[j]? = some y) (hz:l.set j w=l') (h:WO P n draw all (ops.drop (k+1)) Q (gE (stepsE P n draw all k ops env (fun os en=>some (ins id (.obj e s (A1 F l')) en)))))
  (hp:stepsE P n draw all k ops env (fun os e=>match os with | o::_=>stPre P all o e | []=>none)=some (id,e,s,A1 F l,j,off,vs):=by kernel_rfl) (hput:putElem (F y) off vs=some (F w):=by kernel_rfl)
  (he:(stepsE P n draw all k ops env (fun os en=>some (ins id (.obj e s (A1 F l')) en))).isSome=true:=by kernel_rfl):WO P n draw all ops Q env :=
 WO.storeK k hp (qlK hy) hput (qlJ hz) (gE_some he) h
theorem cW {r:AV} {fn:Func} (hf:P.funcs[f]? = some fn) (hb:fn.body=some c) (h:W P fn.ntmps c (Post P fn r) env0) (hlen:(A2 args.length fn.ntmps && A2 fn.ntmps 1000000)=true:=by kernel_rfl) (he:argsEnv 0 (args.map AV.strip)=env0:=by kernel_rfl):Run P (.call f args r):=qkg hf hb hlen he h
theorem cM {r:AV} {fn:Func} (hf:P.funcs[f]? = some fn) (hb:fn.body=some c) (h:W P fn.ntmps c (PostM P fn r hp2) env0) (hlen:(A2 args.length fn.ntmps && A2 fn.ntmps 1000000 && hpOk hp)=true:=by kernel_rfl) (he:argsEnv 0 (args.map AV.strip)++hp=env0:=by kernel_rfl):Run P (.callM f args hp r hp2):=qiq hf hb hlen he h
abbrev EN (l:Env):Env:=l
abbrev hB (l:LM):AV:=.hob 3 [] (A1 AV.bool l)
abbrev hZ:AV:=.hob 3 [] (A1 AV.bool (A8 252 false))
theorem WO.pq {all ops:LF} {X:Lc} (k:Nat) (hX:X=some v) (h:WO P n draw all (ops.drop (k+1)) Q (gE (putX n P draw all k ops env v))) (hp:pureX P n draw all k ops env v=some X:=by kernel_rfl) (he:(putX n P draw all k ops env v).isSome=true:=by kernel_rfl):WO P n draw all ops Q env :=
 WO.pureK k X hp hX (gE_some he) h
theorem jB {b c:Bool} (h:b=c):(some (AV.bool b):Lc)=some (.bool c):=by rw[h]
theorem jI {a b:Int} (h:a=b):(some (AV.int .i64 a):Lc)=some (.int .i64 b):=by rw[h]
theorem jM (f:α->AV) (l:List α):(some (AV.int .i64 ((A1 f l).length:Int)):Lc)=some (.int .i64 (l.length:Int)):=by rw[A4]
theorem W.rr {Q:Ex->Env->Prop} (h:Q .ret env:=by exact (show jX _ _ _=some _ by kernel_rfl)):W P n .ret Q env:=W.ret h
theorem W.sr {ops:Lh} {Q:Ex->Env->Prop} (h:WO P n draw ops.toList ops.toList (Then y P n Q .normal) env) (hd:(!draw || (orderOk ops && ju ops))=true:=by kernel_rfl):W P n (.seq (.region id ops draw) y) Q env:=W.seq (W.rg h hd)
theorem WO.fi {all ops:LF} (keep frz:LP) (h:W P n c Q' e2) (he:finE P n draw all ops keep frz [] [] env=some e2:=by kernel_rfl) (hQ:∀ e,W P n c Q' e->Q e:=by exact fun _ h=>h):WO P n draw all ops Q env:=WO.fin _ _ _ _ he hQ h
theorem W.rT {ops:Lh} {Q:Ex->Env->Prop} (keep frz:LP) (h:W P n y Q' e2) (hd:(!draw || (orderOk ops && ju ops))=true:=by kernel_rfl) (he:finE P n draw ops.toList ops.toList keep frz [] [] env=some e2:=by kernel_rfl) (hQ:∀ e,W P n y Q' e->Q .normal e:=by exact fun _ h=>h):W P n (.region id ops draw) Q env:=W.regT _ _ _ _ hd he hQ h
theorem WO.bh {all ops:LF} {x y o:α} (k:Nat) (E:Bool->Env) (b:Bool) (h:(bif b then x else y)=o) (ht:x=o->WO P n draw all (ops.drop k) Q (E true)) (hf:y=o->WO P n draw all (ops.drop k) Q (E false)) (he:stepsK P n draw all k ops env=some (E b):=by kernel_rfl):WO P n draw all ops Q env:=WO.boolK k E b he (fun hb=>ht (by subst hb;exact h)) (fun hb=>hf (by subst hb;exact h))
theorem W.ch {c:Operand} {Q:Ex->Env->Prop} {u v o:α} (b:Bool) (h:(bif b then u else v)=o) (ht:u=o->W P n x Q env) (hf:v=o->W P n y Q env) (hc:aop env c=some (.bool b):=by kernel_rfl):W P n (.cond c x y) Q env:=W.cond b hc (fun hb=>ht (by subst hb;exact h)) (fun hb=>hf (by subst hb;exact h))
theorem W.sw {Q:Ex->Env->Prop} {e:Env} (h:W P n c Q' e) (he:weakE (e.map D1) [] [] [] env=e:=by kernel_rfl) (hQ:W P n c Q' env->Q .normal env:=by exact fun h=>h):W P n .skip Q env:=W.skip (hQ (W.wk h he))
theorem W.cF {c:Operand} {Q:Ex->Env->Prop} (h:W P n y Q env) (hc:aop env c=some (.bool false):=by kernel_rfl):W P n (.cond c x y) Q env:=W.cond false hc (fun h=>A7 h) (fun _=>h)
theorem W.cT {c:Operand} {Q:Ex->Env->Prop} (h:W P n x Q env) (hc:aop env c=some (.bool true):=by kernel_rfl):W P n (.cond c x y) Q env:=W.cond true hc (fun _=>h) (fun h=>A7 h)
end
end Go.AM
namespace Go.AM
variable {P:Program} {n:Nat} {α:Type} {enc:α->AV}
variable {t:TypeId} {d off s sz:Nat} {o:Oper} {e1 en env:Env} {draw:Bool} {Q:Env->Prop}
def Flat (enc:α->AV):Prop:=∀ x,(enc x).one=true/\(enc x).strip=enc x/\(enc x).cells=[enc x]
theorem qP (k:IntKind):Flat (AV.int k):=fun _=>⟨rfl,rfl,rfl⟩
theorem Flat.all (h:Flat enc) (l:List α):(l.map enc).all AV.one=true:=by
 rw[List.all_map,D9]
 exact fun x _=>(h x).1
theorem Flat.strips (h:Flat enc) (l:List α):(l.map enc).map AV.strip=l.map enc:=by
 rw[List.map_map]
 exact List.map_congr_left fun x _=>(h x).2.1
def cutS (P:Program) (t:TypeId):Bool:=match tSize P t with
 | some sz=>A0 sz 1 && !tAgg P t && (P.underlying t).isSome
 | none=>false
def cutW (P:Program) (t:TypeId) (sz:Nat):Bool:=match tSize P t with
 | some s=>A0 s sz && tAgg P t && (P.underlying t).isSome
 | none=>false
theorem Uz {l:List α} {e:α} (hF:Flat enc) (hc:cutS P t=true) (h:l[off]? = some e):cut P t (l.map enc) off=some (enc e):=by
 unfold cutS at hc;split at hc
 .rename_i sz hs;simp only[A3,E0]at hc;obtain⟨⟨h1,h2⟩,h3⟩:=hc;obtain rfl:=D2 h1;have hlt:=(List.getElem?_eq_some_iff.1 h).1;unfold cut;rw[hs];have e1:A2 (off+1) (l.map enc).length=true:=D3 (by rw[A4];exact hlt)
  have e2:(l.map enc)[off]? = some (enc e):=by rw[C7,h];rfl
  simp only[e1,h3,h2,e2,(hF e).1,B1]
 cases hc
theorem qlr {t:Nat} {l:List α} (hF:Flat enc) (hc:cutW P t sz=true) (h:off+sz<=l.length):cut P t (l.map enc) off=some (.agg (((l.drop off).take sz).map enc)):=by
 unfold cutW at hc;split at hc
 .rename_i s hs;simp only[A3]at hc;obtain⟨⟨h1,h2⟩,h3⟩:=hc;obtain rfl:=D2 h1;unfold cut;rw[hs];have e1:A2 (off+s) (l.map enc).length=true:=D3 (by rw[A4];exact h);simp only[e1,h3,h2,B1];rw[<- D6,<- D7,hF.strips]
 cases hc
theorem Xx {t:Nat} {l:List α} (hF:Flat enc) (hc:cutW P t sz=true) (h:l.length=sz):cut P t (l.map enc) 0=some (.agg (l.map enc)):=by
 rw[qlr hF hc (by omega),List.drop_zero,List.take_of_length_le (by omega)]
def setPre (P:Program) (all:LF) (o:Oper) (env:Env):Option (Nat×Nat×AV×LJ×Nat) :=
 match awanted all o env with
 | some true=>match o.op with
  | .store t p x=>match o.dst,aop env p,aop env x,tSize P t with
   | none,some (.pb s off),some v,some sz=>match look env s with
    | some (.hob 3 [] cs)=>some (s,off,v,cs,sz)
    | _=>none
   | _,_,_,_=>none
  | _=>none
 | _=>none
theorem NR {all:LF} {v:AV} {cs:LJ} (h:setPre P all o env=some (s,off,v,cs,sz)):awanted all o env=some true/\isEff o.op=true/\isApp o.op=false/\look env s=some (.hob 3 [] cs) /\
  (v.one=true->v.cells.length=sz->astep P n o env=putCell s env off v)/\(∀ c2,v=.agg c2->c2.length=sz->astep P n o env=putRow s env off c2):=by
 unfold setPre at h
 split at h <;> try cases h
 rename_i hw
 split at h <;> try cases h
 rename_i t p x ho
 split at h <;> try cases h
 rename_i hd hp hx hs
 split at h <;> try cases h
 rename_i hl;refine⟨hw,by rw[ho];rfl,by rw[ho];rfl,hl,fun h1 hc=>?_,fun c2 hv hc=>?_⟩
 .unfold astep;rw[ho];simp only[hd,hp,hx,hs]
  have:A0 v.cells.length sz=true:=by rw[hc];exact Nat.beq_refl _
  simp only[this]
  cases v <;> first | (simp only[hl];done) | cases h1
 subst hv;unfold astep;rw[ho];simp only[hd,hp,hx,hs]
 have:A0 (AV.agg c2).cells.length sz=true:=by show A0 c2.length sz=true;rw[hc];exact Nat.beq_refl _
 simp only[this]
theorem WO.eff {all ops:LF} (hw:awanted all o en=some true) (hei:isEff o.op=true) (hap:isApp o.op=false) (hst:astep P n o en=some e1) (h:WO P n draw all ops Q e1):WO P n draw all (o::ops) Q en:=by
 refine WO.step (e1:=e1) ?_ h;unfold step1;rw[hw]
 cases draw with
 | true =>
  refine YF (VM hap) ?_;unfold astepD;simp only[hei,hst]
 | false=>exact hst
theorem WO.setA {all ops:LF} {l:List α} {x:α} (k:Nat) (hF:Flat enc) (hlt:decide (off<l.length)=true) (h:WO P n draw all (ops.drop (k+1)) Q e1)
  (hp:stepsE P n draw all k ops env (fun os e=>match os with | o::_=>setPre P all o e | []=>none)=some (s,off,enc x,l.map enc,1):=by kernel_rfl)
  (hs:stepsE P n draw all k ops env (fun os en=>some (ins s (.hob 3 [] ((l.set off x).map enc)) en))=some e1:=by kernel_rfl):WO P n draw all ops Q env:=by
 obtain⟨en,h1,h2⟩:=qS hp;obtain⟨en',h3,h4⟩:=qS hs;rw[h1]at h3;cases h3;cases h4;refine WO.steps k h1 ?_
 cases hos:ops.drop k with
 | nil=>rw[hos]at h2;cases h2
 | cons o rest =>
  rw[hos]at h2;rw[Yi hos]at h;obtain⟨a1,a2,a3,a4,a5,_⟩:=NR (n:=n) h2;refine WO.eff a1 a2 a3 ?_ h;have hone:=(hF x).1;rw[a5 hone (by rw[(hF x).2.2];rfl)];unfold putCell;have:A6 off (l.map enc).length=true:=D3 (by rw[A4];exact of_decide_eq_true hlt);simp only[hone,a4,this];rw[List.map_set,(hF x).2.1]
theorem WO.storeA {all ops:LF} {l l':List α} (k:Nat) (hF:Flat enc) (hl:decide (l.length=sz/\l'.length=sz)=true) (h:WO P n draw all (ops.drop (k+1)) Q e1)
  (hp:stepsE P n draw all k ops env (fun os e=>match os with | o::_=>setPre P all o e | []=>none)=some (s,0,.agg (l.map enc),l'.map enc,sz):=by kernel_rfl)
  (hs:stepsE P n draw all k ops env (fun os en=>some (ins s (.hob 3 [] (l.map enc)) en))=some e1:=by kernel_rfl):WO P n draw all ops Q env:=by
 obtain⟨en,h1,h2⟩:=qS hp;obtain⟨en',h3,h4⟩:=qS hs;rw[h1]at h3;cases h3;cases h4;obtain⟨hl1,hl2⟩:=of_decide_eq_true hl;refine WO.steps k h1 ?_
 cases hos:ops.drop k with
 | nil=>rw[hos]at h2;cases h2
 | cons o rest =>
  rw[hos]at h2;rw[Yi hos]at h;obtain⟨a1,a2,a3,a4,_,a5⟩:=NR (n:=n) h2;refine WO.eff a1 a2 a3 ?_ h;rw[a5 _ rfl (by rw[A4];exact hl1)];unfold putRow;have:A2 (0+(l.map enc).length) (l'.map enc).length=true:=D3 (by rw[A4,A4];omega);simp only[hF.all,a4,this];rw[hF.strips,List.take_zero,List.drop_eq_nil_of_le (by rw[A4,A4];omega),List.nil_append,List.append_nil]
def boxPre (all:LF) (o:Oper) (env:Env):Option (Nat×AV) :=
 match awanted all o env with
 | some true=>match o.op with
  | .box t x=>match o.dst,aop env x with
   | some d,some v=>match clearOf d env with
    | true=>some (d,v)
    | false=>none
   | _,_=>none
  | _=>none
 | _=>none
theorem qeK {d:Nat}:∀ {en:Env},clearOf d en=true->forget d en=en
 | [],_=>rfl
 | (t,y)::r,h=>by
  simp only[clearOf,List.all_cons,A3,E0]at h;have ih:=qeK (en:=r) (d:=d) (by simpa[clearOf] using h.2);unfold forget at ih ⊢
  have hk:killRef d y=y:=by unfold killRef;rw[h.1.2]
  rw[F7 (by simp[h.1.1]),A5,ih,hk]
theorem qdg {d:Nat} {x:AV}:∀ {en:Env},clearOf d en=true->forget d (ins d x en)=en
 | [],_=>by simp[forget,ins]
 | (t,y)::r,h=>by
  have h0:=h;simp only[clearOf,List.all_cons,A3,E0]at h;have ih:=qdg (x:=x) (en:=r) (d:=d) (by simpa[clearOf] using h.2)
  have hk:killRef d y=y:=by unfold killRef;rw[h.1.2]
  simp only[ins];split
  .unfold forget at ih ⊢;rw[F7 (by simp[h.1.1]),A5,ih,hk]
  simp only[h.1.1];have:=qeK h0;unfold forget at this ⊢;rw[List.filter_cons_of_neg (by simp)];exact this
theorem qiS {d:Nat} {x:AV} {p:Nat×AV}:∀ {en:Env},p∈ins d x en->p=(d,x)\/p∈en
 | [],h=>by simpa[ins] using h
 | (t,y)::r,h=>by
  simp only[ins]at h;split at h
  .rcases List.mem_cons.1 h with h | h
   .exact .inr (by rw[h];exact E7 ..)
   exact (qiS h).imp id (D4 _)
  split at h
  .rcases List.mem_cons.1 h with h | h
   .exact .inl h
   exact .inr (D4 _ h)
  rcases List.mem_cons.1 h with h | h
  .exact .inl h
  exact .inr h
theorem DK {d:Nat} {x:AV}:∀ {en:Env},look (ins d x en) d=some x
 | []=>by simp[ins,look]
 | (t,y)::r=>by
  have ih:=DK (x:=x) (en:=r) (d:=d);simp only[ins];split
  .rename_i hb;have:t<d:=Nat.le_of_ble_eq_true hb
   have h2:A0 t d=false:=by rw[Bool.eq_false_iff];intro hh;have:=D2 hh;omega
   simp only[look,h2];exact ih
  split <;> simp[look]
theorem qlm {x y:AV} (h:(eput n (some d) x en).isSome=true):eput n (some d) y en=some (ins d y en):=by
 unfold eput at h ⊢;simp only at h ⊢;split at h
 .rfl
 cases h
theorem WO.boxA {all ops:LF} {l:List α} (k:Nat) (hF:Flat enc) (hl:(!l.isEmpty)=true) (h:WO P n false all (ops.drop (k+1)) Q e1)
  (hp:stepsE P n false all k ops env (fun os e=>match os with | o::_=>boxPre all o e | []=>none)=some (d,.agg (l.map enc)):=by kernel_rfl)
  (hs:stepsE P n false all k ops env (fun os en=>match (eput n (some d) .und en).isSome,clearOf (1000000+d) en && A6 d 1000000 with
   | true,true=>some (ins d (.pb (1000000+d) 0) (ins (1000000+d) (.hob 3 [] (l.map enc)) en))
   | _,_=>none)=some e1:=by kernel_rfl):WO P n false all ops Q env:=by
 obtain⟨en,h1,h2⟩:=qS hp;obtain⟨en',h3,h4⟩:=qS hs;rw[h1]at h3;cases h3;refine WO.steps k h1 ?_
 cases hos:ops.drop k with
 | nil=>rw[hos]at h2;cases h2
 | cons o rest =>
  rw[hos]at h2;rw[Yi hos]at h;simp only[boxPre]at h2
  split at h2 <;> try cases h2
  rename_i hw
  split at h2 <;> try cases h2
  rename_i t x ho
  split at h2 <;> try cases h2
  rename_i hd hx
  split at h2 <;> try cases h2
  rename_i hcl
  split at h4 <;> try cases h4
  rename_i hb hc;refine WO.eff (e1:=ins d (.box (l.map enc)) en) hw (by rw[ho];rfl) (by rw[ho];rfl) ?_ (WO.mv [.arr d] ?_ h)
  .unfold astep;rw[ho];simp only[hd,hx]
   have hne:(l.map enc).isEmpty=false:=by
    cases l with
    | nil=>cases hl
    | cons=>rfl
   have e1':(AV.agg (l.map enc)).cells=l.map enc:=rfl;rw[e1',hcl,hF.all,hne,hF.strips];show eput n (some d) _ en=_;exact qlm hb
  show arrBox (ins d (.box (l.map enc)) en) d=_;unfold arrBox
  have hc2:(clearOf (1000000+d) (ins d (.box (l.map enc)) en) && A6 d 1000000)=true:=by
   simp only[A3]at hc ⊢;refine⟨?_,hc.2⟩;unfold clearOf;rw[D9];intro p hp
   rcases qiS hp with rfl | hp
   .have:A0 d (1000000+d)=false:=by rw[Bool.eq_false_iff];intro hh;have:=D2 hh;omega
    simp[this,AV.refs]
   have:=hc.1;unfold clearOf at this;exact List.all_eq_true.1 this p hp
  rw[DK,hc2];simp only;rw[qdg hcl,hF.strips]
theorem WO.one {all ops:LF} (hw:awanted all o en=some true) (hst:astep P n o en=some e1) (h:WO P n false all ops Q e1):WO P n false all (o::ops) Q en:=by
 refine WO.step (e1:=e1) ?_ h;unfold step1;rw[hw];exact hst
theorem qjV {l:List α} {i:Int} {m:Nat} {e:α} (hF:Flat enc) (hc:cutS P t=true) (hi:(0:Int)<=i/\i<((m:Nat):Int)) (h:l[Int.toNat i * 1]? = some e):(if (0:Int)<=i/\i<((m:Nat):Int) then cut P t (A1 AV.strip (A1 enc l)) (Int.toNat i * 1) else none)=some (enc e):=by
 have hs:A1 AV.strip (A1 enc l)=A1 enc l:=by
  rw[List.map_map]
  exact List.map_congr_left fun x _=>(hF x).2.1
 rw[if_pos hi,hs];exact Uz hF hc h
end Go.AM
namespace Go.AM
variable {P:Program} {n:Nat} {K V:Type} {F:K->AV} {G:V->AV} {eq:K->K->Bool}
variable {kt:TypeId} {k:IntKind} {i:Int}
def mpE (F:K->AV) (G:V->AV) (l:List (K×V)):AV:=.mpv (l.map fun p=>F p.1) (l.map fun p=>G p.2)
def hobE (F:K->AV) (G:V->AV) (l:List (K×V)):AV:=.hob 0 (l.map fun p=>F p.1) (l.map fun p=>G p.2)
def mget (eq:K->K->Bool) (z:V) (k:K):List (K×V)->V
 | []=>z
 | p::r=>bif eq p.1 k then p.2 else mget eq z k r
def mset (eq:K->K->Bool) (k:K) (v:V):List (K×V)->List (K×V)
 | []=>[(k,v)]
 | p::r=>bif eq p.1 k then (p.1,v)::r else p::mset eq k v r
def keq1 (x a:Int):Bool:=x == a
theorem Zx (he:∀ x y,akeq (F x) (F y)=eq x y) (z:V) (k:K):∀ l:List (K×V),
  (∃ j,findA (F k) (l.map fun p=>F p.1)=some j/\(l.map fun p=>G p.2)[j]? = some (G (mget eq z k l)))\/(findA (F k) (l.map fun p=>F p.1)=none/\mget eq z k l=z)
 | []=>.inr ⟨rfl,rfl⟩
 | p::r=>by
  have ih:=Zx he z k r;simp only[A5,findA,mget,he]
  cases hq:eq p.1 k with
  | true=>exact .inl ⟨0,rfl,rfl⟩
  | false =>
   simp only[cN]
   rcases ih with ⟨j,h1,h2⟩ | ⟨h1,h2⟩
   .rw[h1];exact .inl ⟨j+1,rfl,h2⟩
   rw[h1];exact .inr ⟨rfl,h2⟩
theorem Dr (he:∀ x y,akeq (F x) (F y)=eq x y) (k:K) (v:V):∀ l:List (K×V),
  (∃ j,findA (F k) (l.map fun p=>F p.1)=some j/\(mset eq k v l).map (fun p=>F p.1)=l.map (fun p=>F p.1)/\(mset eq k v l).map (fun p=>G p.2)=(l.map fun p=>G p.2).set j (G v)) \/
  (findA (F k) (l.map fun p=>F p.1)=none/\(mset eq k v l).map (fun p=>F p.1)=l.map (fun p=>F p.1)++[F k]/\(mset eq k v l).map (fun p=>G p.2)=(l.map fun p=>G p.2)++[G v])
 | []=>.inr ⟨rfl,rfl,rfl⟩
 | p::r=>by
  have ih:=Dr he k v r;simp only[A5,findA,mset,he]
  cases hq:eq p.1 k with
  | true=>exact .inl ⟨0,rfl,rfl,rfl⟩
  | false =>
   simp only[cN,A5]
   rcases ih with ⟨j,h1,h2,h3⟩ | ⟨h1,h2,h3⟩
   .rw[h1,h2,h3];exact .inl ⟨j+1,rfl,rfl,rfl⟩
   rw[h1,h2,h3];exact .inr ⟨rfl,rfl,rfl⟩
theorem UR (hf:∀ x,keyFits P kt (F x)=true) (l:List (K×V)):(l.map fun p=>F p.1).all (keyFits P kt)=true:=by
 rw[List.all_map,D9]
 exact fun p _=>hf p.1
theorem YG {t e:TypeId} {l:List (K×V)} {k:K} {z:V} (hk:(F k).keyV.isSome=true) (ht:QI P t=some (kt,e)) (hf:∀ x,keyFits P kt (F x)=true) (he:∀ x y,akeq (F x) (F y)=eq x y) (hz:zeroA1 P e=some (G z)):alookup P t [] (mpE F G l) (F k)=some (G (mget eq z k l)):=by
 unfold alookup mpE;rw[ht];simp only[Zi];rw[hf,hk,UR hf];simp only[B1]
 rcases Zx (G:=G) he z k l with ⟨j,h1,h2⟩ | ⟨h1,h2⟩
 .rw[h1];exact h2
 rw[h1,h2];exact hz
theorem qaI (h:wfI k i=true):(AV.int k i).keyV.isSome=true:=by
 simp only[AV.keyV,h];rfl
theorem Nw {j l:Int} (h:(wfI k i && wfI k j && wfI k l)=true):(AV.agg [.int k i,.int k j,.int k l]).keyV.isSome=true:=by
 rw[A3,A3]at h;simp only[AV.keyV,keyVs,h.1.1,h.1.2,h.2];rfl
def mupPre (P:Program) (all:LF) (o:Oper) (env:Env):Option (Nat×TypeId×AV×AV×LJ×LJ) :=
 match awanted all o env with
 | some true=>match o.op with
  | .mapUpdate t m k v=>match o.dst,aop env m,aop env k,aop env v,QI P t with
   | none,some (.mb 0 id),some k,some v,some (kt,e)=>match v.mapElem,look env id with
    | true,some (.hob 0 ks vs)=>some (id,kt,k,v.strip,ks,vs)
    | _,_=>none
   | _,_,_,_,_=>none
  | _=>none
 | _=>none
theorem WO.mapK {draw:Bool} {all ops:LF} {Q:Env->Prop} {env e1:Env} {id kt:Nat} {l:List (K×V)} {a:K} {b:V} (k:Nat) (hk:(F a).keyV.isSome=true) (hn:A6 l.length 1000000000=true) (h:WO P n draw all (ops.drop (k+1)) Q e1)
  (hf:∀ x,keyFits P kt (F x)=true) (he:∀ x y,akeq (F x) (F y)=eq x y)
  (hp:stepsE P n draw all k ops env (fun os e=>match os with | o::_=>mupPre P all o e | []=>none)=some (id,kt,F a,G b,l.map (fun p=>F p.1),l.map (fun p=>G p.2)):=by kernel_rfl)
  (hs:stepsE P n draw all k ops env (fun os en=>some (ins id (hobE F G (mset eq a b l)) en))=some e1:=by kernel_rfl):WO P n draw all ops Q env:=by
 obtain⟨en,h1,h2⟩:=qS hp;obtain⟨en',h3,h4⟩:=qS hs;rw[h1]at h3;cases h3;cases h4;refine WO.steps k h1 ?_
 cases hos:ops.drop k with
 | nil=>rw[hos]at h2;cases h2
 | cons o rest =>
  rw[hos]at h2;rw[Yi hos]at h;simp only[mupPre]at h2
  split at h2 <;> try cases h2
  rename_i hw
  split at h2 <;> try cases h2
  rename_i t m k0 v0 ho
  split at h2 <;> try cases h2
  rename_i id' k' v' kt' e' hd hm hk' hv ht
  split at h2 <;> try cases h2
  rename_i ks vs hel hl;simp only[Option.some.injEq,Prod.mk.injEq]at h2;obtain⟨rfl,rfl,rfl,hb,rfl,rfl⟩:=h2
  have hst:astep P n o en=some (ins id' (hobE F G (mset eq a b l)) en):=by
   unfold astep;rw[ho];simp only[hd,hm,hk',hv,ht,hl];rw[hf,hk,UR hf,hel,A4,hn];simp only[B1];unfold hobE
   rcases Dr (G:=G) he a b l with ⟨j,g1,g2,g3⟩ | ⟨g1,g2,g3⟩
   .rw[g1,g2,g3,hb]
   rw[g1,g2,g3,hb]
  refine WO.step (e1:=ins id' (hobE F G (mset eq a b l)) en) ?_ h;unfold step1;rw[hw]
  cases draw with
  | true =>
   have:isEff o.op=true:=by rw[ho];rfl
   refine YF (VM (by rw[ho];rfl)) ?_;unfold astepD;simp only[this,hst]
  | false=>exact hst
end Go.AM
namespace Go.AM
open Go.RowKit
variable {K:Act->World->Prop} {Q:Exit->Act->World->Prop} {draw:Bool} {x:AV} {d:LR} {f:Nat} {args:LJ}
section
variable {bs:Base} {n:Nat} {M:Mem} {O:Gh} {env:Env} {a:Act} {w:World} {P:Program}
theorem Zg {o:Oper} {env':Env} (h:Leads P bs n o a w env') (hK:∀ a' w' M' O',Inv bs n M' O' env' a' w'->K a' w'):o.wp P a w K Q:=by
 obtain⟨v,w',M',O',h1,h2⟩:=h;unfold Oper.wp
 rcases h1 with h1 | ⟨h1,rfl⟩ <;> rw[h1] <;> exact hK _ _ _ _ h2
theorem qU (h:Inv bs n M O env a w) {all:LF} {o:Oper} {b:Bool} (hw:awanted all o env=some b):E8 o (yielded all.toArray a.tmps)=b:=by
 unfold awanted at hw;unfold E8;split at hw
 .rename_i hg;rw[hg];cases hw;rfl
 rename_i j want hg;rw[hg];simp only;split at hw
 .cases hw
 rename_i t ht;split at hw
 .rename_i c hl;cases hw;have hs:=h.slots t _ hl;have hv:a.tmps.getD t undef=.bool c:=hs.1.bool_inv
  have ht':((all.toArray[j]?).bind (·.dst))=some t:=by simpa using ht
  unfold yielded;rw[ht'];simp only[Option.bind_some]
  have hget:a.tmps[t]? = some (.bool c):=by
   cases hx:a.tmps[t]? with
   | none =>
    rw[E9,hx]at hv;simp[undef]at hv
   | some y =>
    rw[E9,hx]at hv;simp at hv;rw[hv]
  rw[hget];cases c <;> cases want <;> rfl
 .rename_i hl;cases hw;have hs:=h.slots t _ hl
  have hv:a.tmps.getD t undef=undef:=by
   have:=hs.1;generalize a.tmps.getD t undef=y at this;cases this;rfl
  have ht':((all.toArray[j]?).bind (·.dst))=some t:=by simpa using ht
  unfold yielded;rw[ht'];simp only[Option.bind_some]
  cases hx:a.tmps[t]? with
  | none=>rfl
  | some y =>
   rw[E9,hx]at hv;simp at hv;subst hv;rfl
 cases hw
def StepSem (P:Program) (n:Nat) (all:LF) (o:Oper) (e e1:Env):Prop :=
 ∀ (bs:Base) (M:Mem) (O:Gh) (a:Act) (w:World),Inv bs n M O e a w->∀ (K:Act->World->Prop) (Q:Exit->Act->World->Prop),(∀ a' w' M' O',Inv bs n M' O' e1 a' w'->K a' w') ->
  if E8 o (yielded all.toArray a.tmps) then o.wp P a w K Q else K (a.put o.dst undef) w
def insO (d:LR) (x:AV) (E:Env):Env :=
 match d with
 | some t=>ins t x E
 | none=>E
def lookS (env:Env) (t:Nat):Lc:=(look env t).map AV.sk
def NA (all:LF) (o:Oper) (e E:Env):Prop:=∀ t,t∈namesOf all.toArray o->∀ y,lookS e t=some y->lookS E t=some y
def EA (e E:Env):Prop:=∀ s x,x.ent=true->look e s=some x->look E s=some x
def Pure1 (P:Program) (n:Nat) (all:LF) (o:Oper) (e e1:Env):Prop :=
 ∃ x,eput n o.dst x e=some e1/\x.ent=false/\∀ E,NA all o e E->(memFree o.op=true\/EA e E)->StepSem P n all o E (insO o.dst x E)
def St1 (P:Program) (n:Nat) (all:LF) (o:Oper) (e e1:Env):Prop :=
 isStore o.op=true/\o.dst=none/\∃ s x x',look e s=some x/\x.ent=true/\x'.ent=true/\x'.sk=x.sk/\e1=ins s x' e/\∀ E,NA all o e E->look E s=some x->StepSem P n all o E (ins s x' E)
def LE (E F:Env):Prop:=∀ t,look E t=look F t
def ClearL (id:Nat) (E:Env):Prop:=look E id=none/\∀ s x,look E s=some x->x.refs id=false
def Unord (all:LF) (o x:Oper):Prop:=∃ k i,all[k]? = some o/\all[i]? = some x/\i≠k/\((Region.before all.toArray).getD k 0).testBit i=false/\((Region.before all.toArray).getD i 0).testBit k=false
def IsA (P:Program) (n:Nat) (all:LF) (o:Oper) (E E1:Env):Prop :=
 isMk o.op=true/\∃ (d:Nat) (x y:AV),o.dst=some d/\x.ent=false/\ClearL (1000000+d) E/\LE (ins (1000000+d) y (ins d x E)) E1/\∀ F,NA all o E F->ClearL (1000000+d) F->look F d=none->StepSem P n all o F (ins (1000000+d) y (ins d x F))
def IsB (P:Program) (n:Nat) (all:LF) (o:Oper) (E E1:Env):Prop :=
 isApp o.op=true/\((∀ x,¬ Unord all o x)\/∃ (d:Nat) (v:AV) (g:AV->AV),o.dst=some d/\LE (ins d v (E.map fun p=>(p.1,g p.2))) E1/\(∀ x,plainV (some x)=true->g x=x) /\
  (∀ x,Unord all o x->∀ t,t∈namesOf all.toArray x->plainV (look E t)=true)/\∀ F,NA all o E F->look F d=none->StepSem P n all o F (ins d v (F.map fun p=>(p.1,g p.2))))
def Hard (P:Program) (n:Nat) (all:LF) (o:Oper) (e e1:Env):Prop :=
 (isEff o.op=true/\isStore o.op=false)/\(∀ t,t<1000000->o.dst≠some t->look e t=none->look e1 t=none)/\(o.guard=none->isMk o.op=true->IsA P n all o e e1)/\(o.guard=none->isApp o.op=true->IsB P n all o e e1)
def StepOk (P:Program) (n:Nat) (draw:Bool) (all:LF) (o:Oper) (e e1:Env):Prop :=
 StepSem P n all o e e1/\(draw=true->Hard P n all o e e1\/St1 P n all o e e1\/((isEff o.op=false\/isStore o.op=true)/\Pure1 P n all o e e1))
inductive Chain (P:Program) (n:Nat) (draw:Bool) (all:LF):LF->Env->Env->Prop where
 | nil {e}:Chain P n draw all [] e e
 | drop {rest e e'} (e0:Env):draw=false->(∀ (bs:Base) (M:Mem) (O:Gh) (a:Act) (w:World),Inv bs n M O e a w->∃ M' O',Inv bs n M' O' e0 a w)->Chain P n draw all rest e0 e'->Chain P n draw all rest e e'
 | step {o rest e e1 e'}:StepOk P n draw all o e e1->Chain P n draw all rest e1 e'->Chain P n draw all (o::rest) e e'
theorem Dv {all rest:LF} {e e':Env} (hc:Chain P n draw all rest e e'):∀ {M:Mem} {O:Gh} {a:Act} {w:World},Inv bs n M O e a w->∀ {Q:Exit->Act->World->Prop},(∀ a' w' M' O',Inv bs n M' O' e' a' w'->Q .normal a' w')->wpList P all.toArray Q rest a w:=by
 induction hc with
 | nil=>intro M O a w h Q hQ;exact hQ _ _ _ _ h
 | drop e0 _ hw _ ih =>
  intro M O a w h Q hQ;obtain⟨M',O',h'⟩:=hw _ M O a w h;exact ih h' hQ
 | step hs _ ih =>
  intro M O a w h Q hQ;have:=hs.1 bs M O a w h (wpList P all.toArray Q _) Q (fun a' w' M' O' h'=>ih h' hQ);simp only[wpList];split at this
  .rename_i hw;rw[if_pos hw];exact .inl this
  rename_i hw;rw[if_neg hw];exact this
theorem qhH {id:Nat} {ops:Lh} {e e':Env} (hc:Chain P n false ops.toList ops.toList e e') (h:Inv bs n M O e a w) (hQ:∀ a' w' M' O',Inv bs n M' O' e' a' w'->Q .normal a' w'):(Code.region id ops false).wp P Q a w:=by
 refine wp_region_list ?_;have:=Dv hc h hQ
 simpa using this
theorem qkw {all:LF} {o:Oper} {e e1:Env} (hw:awanted all o e=some false) (he:eput n o.dst .und e=some e1):StepSem P n all o e e1:=by
 intro bs M O a w h K Q hK;rw[qU h hw];simp only[Bool.false_eq_true,if_false];exact hK _ _ _ _ (XR h (x:=.und) ⟨.und,trivial⟩ he)
theorem qat {all:LF} {o:Oper} {e e1:Env} (hw:awanted all o e=some true) (he:astep P n o e=some e1):StepSem P n all o e e1:=by
 intro bs M O a w h K Q hK;rw[qU h hw];simp only[if_true];exact Zg (qbZ h he) hK
theorem qkv {all:LF} {o:Oper} {e e1:Env} (hw:awanted all o e=some true) (he:arow P n o e=some e1):StepSem P n all o e e1:=by
 intro bs M O a w h K Q hK;rw[qU h hw];simp only[if_true];exact Zg (qiu h he) hK
theorem qky {all:LF} {o:Oper} {e e1:Env} (hw:awanted all o e=some true) (he:aagr P n o e=some e1):StepSem P n all o e e1:=by
 intro bs M O a w h K Q hK;rw[qU h hw];simp only[if_true];exact Zg (qiw h he) hK
theorem qjq {all:LF} {o:Oper} {e e1:Env} (hw:awanted all o e=some true) (hx:apure P o e=some x) (he:eput n o.dst x e=some e1):StepSem P n all o e e1:=by
 intro bs M O a w h K Q hK;rw[qU h hw];simp only[if_true];exact Zg (Np h hx he) hK
theorem Hp (h:Inv bs n M O env a w) {v:Value} (hv:ValOk O M w x v) (hd:∀ t,d=some t->t<n):Inv bs n M O (insO d x env) (a.put d v) w:=by
 cases d with
 | none=>exact h
 | some t=>exact h.put (hd t rfl) hv
theorem Qq {e e1:Env} (he:eput n d x e=some e1):e1=insO d x e/\(∀ t,d=some t->t<n)/\∀ t,d=some t->∀ y,look e t=some y->y.ent=false:=by
 cases d with
 | none=>cases he;exact⟨rfl,(fun t e=>by cases e),(fun t e=>by cases e)⟩
 | some t =>
  obtain⟨h1,h2,h3⟩:=VV he;exact⟨h2,(fun t' e=>by cases e;exact h1),fun t' e y hy=>by cases e;exact h3 y hy⟩
theorem qaX {all:LF} {o:Oper} {e:Env} {r:AV} (hc:acallee P o e=some (f,args)) (hr:CallOk P f args r) (h:Inv bs n M O e a w) 
  (hK:∀ v w' M',Inv bs n M' O e a w'->R M' r v->OwnR M' w.heap.size w' r v->(∀ i c g,O i c=some g->g<w.heap.size)->(∀ g,w.heap.size<=g->¬ bs.D g)->K (a.put o.dst v) w'):o.wp P a w K Q:=by
 obtain⟨vs,h1,h2,h3⟩:=NE h hc;unfold Oper.wp;rw[h1];show Calls P f vs.toArray w _;refine (hr M w vs h.glob h.cons h2 h3).mono ?_
 rintro ed w' ⟨v,M',rfl,hb,hs,hC,ho,hR,hO⟩
 exact hK v w' M' (h.grown (row:=none) (fun g e=>by cases e) (Um hb) hs hC (fun b o hb _=>ho b o hb)) hR hO (fun i c g hg=>(h.own i c g hg).2) (fun g hg=>h.fresh hg)
theorem qbX {all:LF} {o:Oper} {e:Env} {r:AV} (hc:Xr P o e=some (f,args)) (hp:r.plain=true) (hr:CallOk P f args r) (h:Inv bs n M O e a w) 
  (hK:∀ v w',Inv bs n M O e a w'->R M r v->K (a.put o.dst v) w'):o.wp P a w K Q:=by
 obtain⟨vs,h1,h2,h3⟩:=qdR h hc;unfold Oper.wp;rw[h1];show Calls P f vs.toArray w _;refine (hr _ w vs (h.glob.mono (Yr h)) (qjR h) h2 h3).mono ?_
 rintro ed w' ⟨v,M',rfl,hb,hs,hC,ho,hR,hO⟩
 exact hK v w' (h.grown (row:=none) (fun g e=>by cases e) (Um hb) (Sub.refl M) (fun b o u hu=>hC b o u (hs b o u (Yr h b o u hu))) (fun b o hb _=>rfl)) (qlQ hp hR)
theorem Xs (x:AV):x.strip.lab? = none:=by cases x <;> rfl
theorem qhx {all:LF} {o:Oper} {e e1:Env} {r:AV} (hw:awanted all o e=some true) (hc:Xr P o e=some (f,args)) (hp:r.plain=true) (hr:CallOk P f args r) (he:eput n o.dst r e=some e1):StepSem P n all o e e1:=by
 intro bs M O a w h K Q hK;rw[qU h hw];simp only[if_true]
 exact qbX (all:=all) hc hp hr h fun v w' h' hR=>hK _ _ _ _ (XR h' (jO hR (qet hp)) he)
theorem qjr {all:LF} {o:Oper} {e e1:Env} {r:AV} (hw:awanted all o e=some true) (hc:acallee P o e=some (f,args)) (hr:CallOk P f args r) (he:callPut n draw o.dst r e=some e1):StepSem P n all o e e1:=by
 intro bs M O a w h K Q hK;rw[qU h hw];simp only[if_true]
 refine qaX (all:=all) hc hr h fun v w' M' h' hR hO hlt hB=>?_
 have plain:eput n o.dst r.strip e=some e1->K (a.put o.dst v) w':=fun he=>hK _ _ _ _ (XR h' (jO hR.strip (Xs r)) he)
 unfold callPut at he;split at he
 .split at he
  .exact plain he
  cases he
 split at he
 .rename_i c hl
  cases r with
  | lst el k lab xs =>
   cases lab with
   | none=>cases hl
   | some c' =>
    simp only[AV.strip]at he plain
    cases hd:o.dst with
    | none=>rw[hd]at he plain;exact plain he
    | some d =>
     rw[hd]at he plain;simp only[fresh]at he;split at he
     .exact plain he
     rename_i hlab;obtain⟨hdn,rfl⟩:=VW he
     have hput:∃ O',Inv bs n M' O' (ins d (.lst el k (some d) xs) e) (a.put (some d) v) w':=by
      rcases hO with hv | ⟨g,off,cap,cur,q1,q2,q3,q4,q5,q6,q7⟩
      .exact h'.putFresh (g:=0) (off:=0) (cap:=0) (cur:=#[]) hdn hlab hR.setLab (.inl hv)
      exact h'.putFresh hdn hlab hR.setLab (.inr ⟨q1,hB g q2,fun i c hc=>by have:=hlt i c _ hc;omega,q3,q4,q5,q6,q7⟩)
     obtain⟨O',hput⟩:=hput;exact hK _ _ _ _ hput
  | _=>cases hl
 exact plain he
end
end Go.AM
namespace Go.AM
open Go.RowKit
variable {m p v x y:AV} {E e e1:Env} {t:TypeId} {o:Oper} {f off s:Nat} {args vs:LJ}
section
variable {n:Nat} {P:Program}
def Knows (e E:Env) (xs:List Operand):Prop:=∀ x,x∈xs->∀ v,aop e x=some v->aop E x=some v
theorem qkA (x:AV):x.sk.ent=x.ent:=by cases x <;> rfl
theorem qiE (h:x.ent=false):x.sk=x:=by cases x <;> first | rfl | cases h
theorem qkm {t:Nat} (h:∀ y,lookS e t=some y->lookS E t=some y) (hv:aop e (.tmp t)=some v):aop E (.tmp t)=some v:=by
 simp only[aop]at hv ⊢
 cases hl:look e t with
 | none=>rw[hl]at hv;cases hv
 | some y =>
  have:=h y.sk (by simp[lookS,hl]);simp only[lookS]at this
  cases hL:look E t with
  | none=>rw[hL]at this;cases this
  | some Y =>
   rw[hL]at this;simp only[Option.map_some,Option.some.injEq]at this;rw[hl]at hv
   cases y <;> cases Y <;> simp only[AV.sk]at this <;> first | (cases this;exact hv) | (cases this;done) | exact hv | (simp at hv;done)
theorem qlc {ts:LP} (h:∀ t,t∈ts->∀ y,lookS e t=some y->lookS E t=some y) {xs:List Operand} (hx:∀ x t,x∈xs->x=.tmp t->t∈ts):Knows e E xs:=by
 intro x hxm v hv
 cases x with
 | tmp t=>exact qkm (h t (hx _ t hxm rfl)) hv
 | _=>exact hv
theorem Vj {e E:Env}:∀ {xs:List Operand} {l:LJ},Knows e E xs->optAll (xs.map (aop e))=some l->optAll (xs.map (aop E))=some l
 | [],l,_,h=>h
 | x::xs,l,hk,h=>by
  simp only[A5]at h ⊢
  cases hx:aop e x with
  | none=>rw[hx]at h;cases h
  | some v =>
   rw[hx]at h;rw[hk x (E7 ..) v hx];simp only[optAll]at h ⊢;split at h
   .rename_i l' hl';rw[Vj (fun y hy=>hk y (D4 _ hy)) hl'];exact h
   cases h
theorem He {e E:Env}:∀ {ps:List (Nat×Operand)} {l:Lg},Knows e E (ps.map (·.2)) ->
  optAll (ps.map fun p=>match aop e p.2 with | some v=>some (p.1,v) | none=>none)=some l->optAll (ps.map fun p=>match aop E p.2 with | some v=>some (p.1,v) | none=>none)=some l
 | [],l,_,h=>h
 | (i,x)::ps,l,hk,h=>by
  simp only[A5]at h ⊢ hk
  cases hx:aop e x with
  | none=>rw[hx]at h;cases h
  | some v =>
   rw[hx]at h;rw[hk x (E7 ..) v hx];simp only[optAll]at h ⊢;split at h
   .rename_i l' hl';rw[He (fun y hy=>hk y (D4 _ hy)) hl'];exact h
   cases h
theorem UA {d:Int} {x:Option Operand} (hk:Knows e E x.toList) {m:Int} (h:aoptInt e d x=some m):aoptInt E d x=some m:=by
 cases x with
 | none=>exact h
 | some y =>
  simp only[aoptInt]at h ⊢;split at h
  .rename_i k m' hy;rw[hk y (by simp) _ hy];exact h
  cases h
theorem qhr {r:AV} (hb:EA e E) (h:aload P e t p=some r):aload P E t p=some r:=by
 unfold aload at h ⊢;split at h
 .rename_i s off;split at h
  .rename_i cs hl;simp only[hb s _ rfl hl];exact h
  .rename_i cs hl;simp only[hb s _ rfl hl];exact h
  .rename_i ks cs hl;simp only[hb s _ rfl hl];exact h
  cases h
 .exact h
 .rename_i id k j o;split at h
  .rename_i e' k' xs hl;simp only[hb id _ rfl hl];exact h
  cases h
 cases h
theorem qdP {q:LJ×LJ} (hb:EA e E) (h:Zi e m=some q):Zi E m=some q:=by
 unfold Zi at h ⊢;split at h
 .exact h
 .rename_i id;split at h
  .rename_i ks vs hl;simp only[hb id _ rfl hl];exact h
  cases h
 cases h
theorem qdV {k r:AV} (hb:EA e E) (h:alookup P t e m k=some r):alookup P t E m k=some r:=by
 unfold alookup at h ⊢;split at h
 .rename_i kt et ks vs ht he;simp only[ht,qdP hb he];exact h
 cases h
theorem qfK {r:AV} {lo hi:Option Operand} (hk:Knows e E (lo.toList++hi.toList)) (h:aslice P t p lo hi e=some r):aslice P t p lo hi E=some r:=by
 have h1:∀ d m,aoptInt e d lo=some m->aoptInt E d lo=some m:=fun d m=>UA fun x hx=>hk x (F8 _ hx)
 have h2:∀ d m,aoptInt e d hi=some m->aoptInt E d hi=some m:=fun d m=>UA fun x hx=>hk x (F6 _ hx)
 unfold aslice at h ⊢;split at h
 .split at h
  .split at h
   .split at h
    .rename_i l m hl hm;simp only[h1 _ _ hl,h2 _ _ hm];simp_all
    cases h
   cases h
  cases h
 .split at h
  .split at h
   .split at h
    .rename_i l m hl hm;simp only[h1 _ _ hl,h2 _ _ hm];simp_all
    cases h
   cases h
  cases h
 .split at h
  .split at h
   .rename_i l m hl hm;simp only[h1 _ _ hl,h2 _ _ hm];simp_all
   cases h
  cases h
 .split at h
  .split at h
   .rename_i l m hl hm;simp only[h1 _ _ hl,h2 _ _ hm];simp_all
   cases h
  cases h
 cases h
theorem HA (hk:Knows e E o.op.operands.toList) (hb:memFree o.op=true\/EA e E) (h:apure P o e=some x):apure P o E=some x:=by
 obtain⟨dst,op,ty,pos,after,guard⟩:=o
 cases op with
 | move y=>exact hk y (by simp[Op.operands]) _ h
 | assign y=>exact hk y (by simp[Op.operands]) _ h
 | pick c p q =>
  simp only[apure]at h ⊢;split at h
  .rename_i hc;rw[hk c (by simp[Op.operands]) _ hc];exact hk p (by simp[Op.operands]) _ h
  .rename_i hc;rw[hk c (by simp[Op.operands]) _ hc];exact hk q (by simp[Op.operands]) _ h
  cases h
 | binOp op t y z t' =>
  simp only[apure]at h ⊢;split at h
  .rename_i p q hp hq;rw[hk y (by simp[Op.operands]) _ hp,hk z (by simp[Op.operands]) _ hq];exact h
  cases h
 | unOp op t y =>
  simp only[apure]at h ⊢;split at h
  .rename_i p hp;rw[hk y (by simp[Op.operands]) _ hp];exact h
  cases h
 | convert s t y =>
  simp only[apure]at h ⊢;split at h
  .rename_i p hp;rw[hk y (by simp[Op.operands]) _ hp];exact h
  cases h
 | build t ps =>
  simp only[apure]at h ⊢;split at h
  .rename_i l hl;have:parts? E ps=some l:=He (by simpa[Op.operands] using hk) hl;rw[this];exact h
  cases h
 | buildSlice t m ps =>
  simp only[apure]at h ⊢;split at h
  .rename_i l hl;have:parts? E ps=some l:=He (by simpa[Op.operands] using hk) hl;rw[this];exact h
  cases h
 | load t y =>
  simp only[apure]at h ⊢;split at h
  .rename_i p hp;rw[hk y (by simp[Op.operands]) _ hp]
   rcases hb with hb | hb
   .cases hb
   exact qhr hb h
  cases h
 | fieldAddr t y f =>
  simp only[apure]at h ⊢;split at h
  .rename_i p hp;rw[hk y (by simp[Op.operands]) _ hp];exact h
  cases h
 | field t y f =>
  simp only[apure]at h ⊢;split at h
  .rename_i cs o' ft sz hp hf;rw[hk y (by simp[Op.operands]) _ hp,hf];exact h
  .rename_i cs o' ft sz hp hf;rw[hk y (by simp[Op.operands]) _ hp,hf];exact h
  cases h
 | indexAddr t y i =>
  simp only[apure]at h ⊢;split at h
  .rename_i p q hp hq;rw[hk y (by simp[Op.operands]) _ hp,hk i (by simp[Op.operands]) _ hq];exact h
  cases h
 | index t y i =>
  simp only[apure]at h ⊢;split at h
  .rename_i p q hp hq;rw[hk y (by simp[Op.operands]) _ hp,hk i (by simp[Op.operands]) _ hq];exact h
  cases h
 | slice t y lo hi mx =>
  cases mx with
  | some mx =>
   cases hi with
   | none=>simp[apure]at h
   | some hi =>
    simp only[apure]at h ⊢;split at h
    case h_2=>cases h
    rename_i e0 k0 lab xs k2 m hp hm;simp only[hk y (by simp[Op.operands]) _ hp,hk mx (by simp[Op.operands]) _ hm];split at h
    case h_2=>cases h
    rename_i e' k' hse;split at h
    case h_2=>cases h
    rename_i l k1 c hkk hl hh;simp only[hse,hkk,UA (E:=E) (fun z hz=>hk z (by simp[Op.operands]at hz ⊢;exact .inr (.inl hz))) hl,hk hi (by simp[Op.operands]) _ hh];exact h
  | none =>
   simp only[apure]at h ⊢;split at h
   .rename_i p hp;rw[hk y (by simp[Op.operands]) _ hp];refine qfK (fun z hz=>hk z ?_) h;simp only[Op.operands];simp at hz ⊢
    rcases hz with hz | hz
    .exact .inr (.inl hz)
    exact .inr (.inr hz)
   cases h
 | lookup t y k c =>
  cases c with
  | true=>simp[apure]at h
  | false =>
   have hb:EA e E:=by
    rcases hb with hb | hb
    .simp[memFree]at hb
    exact hb
   simp only[apure]at h ⊢;split at h
   .rename_i p q hp hq;rw[hk y (by simp[Op.operands]) _ hp,hk k (by simp[Op.operands]) _ hq];simp only;rw[D0]at h ⊢;obtain⟨r,hr,e1⟩:=h;exact⟨r,qdV hb hr,e1⟩
   cases h
 | entry y =>
  have hb:EA e E:=by
   rcases hb with hb | hb
   .simp[memFree]at hb
   exact hb
  simp only[apure]at h ⊢;split at h
  .rename_i id hp;rw[hk y (by simp[Op.operands]) _ hp];simp only;split at h
   .rename_i k ks v vs hl;simp only[hb id _ rfl hl];exact h
   cases h
  cases h
 | makeFunc fn first caps =>
  cases fn <;> simp only[apure]at h ⊢ <;> try (cases h;done)
  split at h
  .rename_i l hf hl;rw[Vj (fun z hz=>hk z (by simp[Op.operands];exact .inr (by simpa using hz))) hl];simp only[hf];exact h
  cases h
 | extract y i =>
  simp only[apure]at h ⊢;split at h
  .rename_i vs hp;rw[hk y (by simp[Op.operands]) _ hp];exact h
  .rename_i id e' k off m rest hp;rw[hk y (by simp[Op.operands]) _ hp];exact h
  cases h
 | nilCheck y =>
  simp only[apure]at h ⊢;split at h
  .rename_i z hp;rw[hk y (by simp[Op.operands]) _ hp];exact h
  .rename_i b z hp;rw[hk y (by simp[Op.operands]) _ hp];exact h
  .rename_i s m hp;rw[hk y (by simp[Op.operands]) _ hp];exact h
  cases h
 | call c =>
  obtain⟨callee,args,ats⟩:=c
  cases callee with
  | value f=>simp[apure]at h
  | invoke r m=>simp[apure]at h
  | builtin b =>
   have hka:∀ y,y∈args.toList->∀ v,aop e y=some v->aop E y=some v:=fun y hy=>hk y (by simp[Op.operands,Call.operands];simpa using hy)
   cases b <;> simp only[apure]at h ⊢ <;> try (cases h;done)
   case len =>
    split at h
    .rename_i y t ha ht;split at h
     .rename_i p hp;rw[hka y (by rw[ha];simp) _ hp];exact h
     cases h
    cases h
   case max =>
    split at h
    .rename_i y z ha;split at h
     .rename_i k p k' q hp hq;rw[hka y (by rw[ha];simp) _ hp,hka z (by rw[ha];simp) _ hq];exact h
     cases h
    cases h
   case min =>
    split at h
    .rename_i y z ha;split at h
     .rename_i k p k' q hp hq;rw[hka y (by rw[ha];simp) _ hp,hka z (by rw[ha];simp) _ hq];exact h
     cases h
    cases h
 | _=>simp[apure]at h
theorem qdW (hk:Knows e E o.op.operands.toList) (h:acallee P o e=some (f,args)):acallee P o E=some (f,args):=by
 unfold acallee at h ⊢;split at h
 case h_2=>cases h
 rename_i fo as ats ho;rw[ho]at hk;split at h
 case h_2=>cases h
 rename_i g caps l hf hl;have h1:=hk fo (by simp[Op.operands,Call.operands]) _ hf;have h2:=Vj (E:=E) (fun z hz=>hk z (by simp[Op.operands,Call.operands];exact .inr (by simpa using hz))) hl;simp only[h1,h2];exact h
theorem Jo {all:LF} {b:Bool} (hk:NA all o e E) (h:awanted all o e=some b):awanted all o E=some b:=by
 unfold awanted at h ⊢;split at h
 .exact h
 rename_i j want hg;split at h
 .cases h
 rename_i t ht
 have hmem:t∈namesOf all.toArray o:=by
  unfold namesOf;rw[hg];refine F6 _ ?_
  have ht':(all.toArray[j]?.bind fun x=>x.dst)=some t:=by simpa using ht
  simp only[ht'];simp
 have key:∀ y,y.ent=false->look e t=some y->look E t=some y:=by
  intro y hy hl;have:=hk t hmem y (by simp[lookS,hl,qiE hy]);simp only[lookS]at this
  cases hL:look E t with
  | none=>rw[hL]at this;cases this
  | some Y =>
   rw[hL]at this;simp only[Option.map_some,Option.some.injEq]at this
   have hY:Y.ent=false:=by rw[<- qkA,this];exact hy
   rw[qiE hY]at this;rw[this]
 split at h
 .rename_i c hl;simp only[ht,key _ rfl hl];exact h
 .rename_i hl;simp only[ht,key _ rfl hl];exact h
 cases h
theorem QK {all:LF} (hk:NA all o e E):Knows e E o.op.operands.toList:=by
 refine qlc hk fun x t hx ht=>?_
 subst ht;unfold namesOf;refine F8 _ (F6 _ ?_);exact List.mem_filterMap.2 ⟨_,hx,rfl⟩
theorem qkO {all:LF} (hw:awanted all o e=some true) (hx:apure P o e=some x) (he:eput n o.dst x e=some e1) (hnb:x.ent=false):Pure1 P n all o e e1:=by
 refine⟨x,he,hnb,fun E hk hb=>?_⟩;obtain⟨_,hd,_⟩:=Qq he;intro bs M O a w h K Q hK;rw[qU h (Jo hk hw)];simp only[if_true];obtain⟨v,w',M',h1,h2,h3,h4,h5,h6⟩:=DY h (HA (QK hk) hb hx);have h':=h.grown (row:=none) (fun g e=>by cases e) h2 h3 h4 (fun b o hb _=>h5 b o hb);unfold Oper.wp;rw[h1];exact hK _ _ _ _ (Hp h' h6 hd)
theorem qer {all:LF} (hw:awanted all o e=some false) (he:eput n o.dst .und e=some e1):Pure1 P n all o e e1:=by
 refine⟨.und,he,rfl,fun E hk hb=>?_⟩;obtain⟨_,hd,_⟩:=Qq he;intro bs M O a w h K Q hK;rw[qU h (Jo hk hw)];simp only[Bool.false_eq_true,if_false];exact hK _ _ _ _ (Hp h (x:=.und) ⟨.und,trivial⟩ hd)
theorem qhR {all:LF} {r:AV} (hw:awanted all o e=some true) (hc:acallee P o e=some (f,args)) (hr:CallOk P f args r) (he:callPut n true o.dst r e=some e1):Pure1 P n all o e e1:=by
 have he':notBox r.strip=true/\eput n o.dst r.strip e=some e1:=by
  unfold callPut at he;simp only at he;split at he
  .rename_i hb;exact⟨hb,he⟩
  cases he
 obtain⟨hnb,he⟩:=he';refine⟨r.strip,he,by simpa[notBox] using hnb,fun E hk hb=>?_⟩;obtain⟨_,hd,_⟩:=Qq he;intro bs M O a w h K Q hK;rw[qU h (Jo hk hw)];simp only[if_true]
 exact qaX (all:=all) (qdW (QK hk) hc) hr h fun v w' M' h' hR _ _ _=>hK _ _ _ _ (Hp h' (jO hR.strip (Xs r)) hd)
theorem qkl (hb:EA e E) (h:asnapC e x=some y):asnapC E x=some y:=by
 unfold asnapC at h ⊢;split at h
 .rename_i id;split at h
  .rename_i ks vs hl;simp only[hb id _ rfl hl];exact h
  cases h
 .rename_i id e' k off m;split at h
  .rename_i e2 k2 xs hl;simp only[hb id _ rfl hl];exact h
  cases h
 exact h
theorem Nq {e E:Env} (hb:EA e E):∀ {caps l:LJ},optAll (caps.map (asnapC e))=some l->optAll (caps.map (asnapC E))=some l
 | [],l,h=>h
 | x::xs,l,h=>by
  simp only[A5]at h ⊢
  cases hx:asnapC e x with
  | none=>rw[hx]at h;cases h
  | some v =>
   rw[hx]at h;rw[qkl hb hx];simp only[optAll]at h ⊢;split at h
   .rename_i l' hl';rw[Nq hb hl'];exact h
   cases h
theorem qfb (hb:EA e E) (h:asnapP e x=some y):asnapP E x=some y:=by
 unfold asnapP at h ⊢;split at h
 .exact h
 .rename_i s;split at h
  .rename_i c hl;simp only[hb s _ rfl hl];exact h
  .rename_i cs hne hl;simp only[hb s _ rfl hl];exact h
  .rename_i cs hl;simp only[hb s _ rfl hl];split at h
   .rename_i c hl';rw[Nq hb hl'];exact h
   .rename_i l hne hl';rw[Nq hb hl']
    cases l with
    | nil=>exact h
    | cons c l=>cases l with
     | nil=>exact absurd rfl (hne c)
     | cons c2 l=>exact h
   cases h
  cases h
 cases h
theorem qcR {e E:Env} (hb:EA e E):∀ {caps l:LJ},optAll (caps.map (asnapP e))=some l->optAll (caps.map (asnapP E))=some l
 | [],l,h=>h
 | x::xs,l,h=>by
  simp only[A5]at h ⊢
  cases hx:asnapP e x with
  | none=>rw[hx]at h;cases h
  | some v =>
   rw[hx]at h;rw[qfb hb hx];simp only[optAll]at h ⊢;split at h
   .rename_i l' hl';rw[qcR hb hl'];exact h
   cases h
theorem qly (hb:EA e E) (h:asnap e x=some y):asnap E x=some y:=by
 cases x with
 | mb kd id =>
  cases kd with
  | succ kd=>simp[asnap]at h
  | zero =>
   simp only[asnap]at h ⊢;split at h
   .rename_i ks vs hl;simp only[hb id _ rfl hl];exact h
   cases h
 | clb f caps =>
  simp only[asnap]at h ⊢;split at h
  .rename_i l hl;rw[qcR hb hl];exact h
  cases h
 | sb id e' k off m =>
  simp only[asnap]at h ⊢;split at h
  .rename_i e2 k2 xs hl;simp only[hb id _ rfl hl];exact h
  cases h
 | pb s o =>
  simp only[asnap]at h ⊢;exact qfb hb h
 | agr cs =>
  simp only[asnap]at h ⊢;split at h
  .rename_i l hl;rw[Nq hb hl];exact h
  cases h
 | _=>first | exact h | cases h
theorem qdD (hk:Knows e E o.op.operands.toList) (hb:EA e E) (h:Xr P o e=some (f,args)):Xr P o E=some (f,args):=by
 unfold Xr at h ⊢;split at h
 case h_2=>cases h
 rename_i fo as ats ho;rw[ho]at hk;split at h
 case h_2=>cases h
 rename_i g caps l hf hl;have h1:=hk fo (by simp[Op.operands,Call.operands]) _ hf;have h2:=Vj (E:=E) (fun z hz=>hk z (by simp[Op.operands,Call.operands];exact .inr (by simpa using hz))) hl;simp only[h1,h2];split at h
 case h_2=>cases h
 rename_i fn hfn;split at h
 case h_2=>cases h
 rename_i l' hb' hl'
 have h3:∀ {l l':LJ},optAll (l.map (asnap e))=some l'->optAll (l.map (asnap E))=some l':=by
  intro l
  induction l with
  | nil=>intro l' h;exact h
  | cons x l ih =>
   intro l' h;simp only[A5]at h ⊢
   cases hx:asnap e x with
   | none=>rw[hx]at h;cases h
   | some v =>
    rw[hx]at h;rw[qly hb hx];simp only[optAll]at h ⊢;split at h
    .rename_i l2 hl2;rw[ih hl2];exact h
    cases h
 simp only[hfn,hb',h3 hl'];exact h
theorem qjJ (hp:x.plain=true):x.ent=false:=by cases x <;> first | rfl | cases hp
theorem qgn {all:LF} {r:AV} (hw:awanted all o e=some true) (hc:Xr P o e=some (f,args)) (hp:r.plain=true) (hr:CallOk P f args r) (he:eput n o.dst r e=some e1):Pure1 P n all o e e1:=by
 have hmf:memFree o.op=false:=by
  unfold Xr at hc;split at hc
  case h_2=>cases hc
  rename_i fo as ats ho;rw[ho];rfl
 refine⟨r,he,qjJ hp,fun E hk hb=>?_⟩
 rcases hb with hb | hb
 .rw[hmf]at hb;cases hb
 obtain⟨_,hd,_⟩:=Qq he;intro bs M O a w h K Q hK;rw[qU h (Jo hk hw)];simp only[if_true]
 exact qbX (all:=all) (qdD (QK hk) hb hc) hp hr h fun v w' h' hR=>hK _ _ _ _ (Hp h' (jO hR (qet hp)) hd)
theorem qhP (h:putRow s e off vs=some e1):∃ y y':AV,look e s=some y/\y.ent=true/\y'.ent=true/\y'.sk=y.sk/\e1=ins s y' e/\∀ E,look E s=some y->putRow s E off vs=some (ins s y' E):=by
 unfold putRow at h;split at h
 .cases h
 rename_i h1;split at h
 case h_3=>cases h
 case h_2 =>
  rename_i ks cs hl;split at h
  case h_2=>cases h
  rename_i h2;cases h;refine⟨_,.hob 3 ks (cs.take off++vs.map AV.strip++cs.drop (off+vs.length)),hl,rfl,rfl,rfl,rfl,fun E hE=>?_⟩;unfold putRow;simp only[h1,hE,h2]
 rename_i cs hl;split at h
 case h_2=>cases h
 rename_i h2;cases h;refine⟨_,.box (cs.take off++vs.map AV.strip++cs.drop (off+vs.length)),hl,rfl,rfl,rfl,rfl,fun E hE=>?_⟩;unfold putRow;simp only[h1,hE,h2]
theorem qgm (h:putCell s e off v=some e1):∃ y y':AV,look e s=some y/\y.ent=true/\y'.ent=true/\y'.sk=y.sk/\e1=ins s y' e/\(∀ cs,y≠.bxg cs)/\∀ E,look E s=some y->putCell s E off v=some (ins s y' E):=by
 unfold putCell at h;split at h
 .cases h
 rename_i h1;split at h
 case h_3=>cases h
 case h_2 =>
  rename_i ks cs hl;split at h
  case h_2=>cases h
  rename_i h2;cases h;refine⟨_,.hob 3 ks (cs.set off v.strip),hl,rfl,rfl,rfl,rfl,fun _ e=>(by cases e),fun E hE=>?_⟩;unfold putCell;simp only[h1,hE,h2]
 rename_i cs hl;split at h
 case h_2=>cases h
 rename_i h2;cases h;refine⟨_,.box (cs.set off v),hl,rfl,rfl,rfl,rfl,fun _ e=>(by cases e),fun E hE=>?_⟩;unfold putCell;simp only[h1,hE,h2]
theorem qhQ {id k j:Nat} (h:putObj id k j e off vs=some e1):∃ x x':AV,look e id=some x/\x.ent=true/\x'.ent=true/\x'.sk=x.sk/\e1=ins id x' e/\∀ E,look E id=some x->putObj id k j E off vs=some (ins id x' E):=by
 unfold putObj at h;split at h
 case h_2=>cases h
 rename_i e' k' xs hl;split at h
 case h_2=>cases h
 rename_i hk;split at h
 case h_2=>cases h
 rename_i y hy;split at h
 case h_2=>cases h
 rename_i y' hy';cases h;refine⟨_,.obj e' k (xs.set j y'),hl,rfl,rfl,rfl,rfl,fun E hE=>?_⟩;unfold putObj;simp only[hE,hk,hy,hy']
theorem qcN (h:putG s e off v=some e1):∃ y y',look e s=some y/\y.ent=true/\y'.ent=true/\y'.sk=y.sk/\e1=ins s y' e/\∀ E,look E s=some y->putG s E off v=some (ins s y' E):=by
 unfold putG at h;split at h
 .cases h
 rename_i h0;split at h
 .rename_i cs hl;split at h
  case h_2=>cases h
  rename_i hc;cases h;exact⟨_,.bxg ((cs.map AV.strip).set off v.strip),hl,rfl,rfl,rfl,rfl,fun E hE=>by unfold putG;simp only[h0,hE,hc]⟩
 .rename_i cs hl;split at h
  case h_2=>cases h
  rename_i hc;cases h;exact⟨_,.bxg (cs.set off v.strip),hl,rfl,rfl,rfl,rfl,fun E hE=>by unfold putG;simp only[h0,hE,hc]⟩
 cases h
theorem qjs {all:LF} (hw:awanted all o e=some true) (hs:isStore o.op=true) (he:astep P n o e=some e1):St1 P n all o e e1:=by
 cases hop:o.op with
 | store t p x =>
  have he0:=he;unfold astep at he;rw[hop]at he;simp only at he
  have fin:∀ (s:Nat) (y y':AV),o.dst=none->look e s=some y->y.ent=true->y'.ent=true->y'.sk=y.sk->e1=ins s y' e->(∀ E,NA all o e E->look E s=some y->astep P n o E=some (ins s y' E))->St1 P n all o e e1:=by
   intro s y y' hd h1 h2 h3 h4 h5 h6;refine⟨hs,hd,s,y,y',h1,h2,h3,h4,h5,fun E hk hE=>?_⟩;exact qat (Jo hk hw) (h6 E hk hE)
  have hka:∀ E,NA all o e E->∀ z v,z∈[p,x]->aop e z=some v->aop E z=some v:=by
   intro E hk z v hz hv;refine QK hk z ?_ v hv;rw[hop]
   simpa[Op.operands] using hz
  split at he
  .rename_i s off v sz hd hp hx hsz;split at he
   case h_2=>cases he
   rename_i hlen
   have one:∀ (v:AV),aop e x=some v->A0 v.cells.length sz=true->(∀ cs,v≠.agg cs)->(∀ id e' k o m,v≠.sb id e' k o m)->(∀ kd id,v≠.mb kd id)->(match look e s with | some (.bxg _)=>putG s e off v | _=>putCell s e off v)=some e1->St1 P n all o e e1:=by
    intro v hx hlen hna hnb hnm he;split at he
    .rename_i cs0 hcs0;obtain⟨y,y',h1,h2,h2',h3,h4,h5⟩:=qcN he;rw[hcs0]at h1;cases h1
     refine fin s _ y' hd hcs0 h2 h2' h3 h4 fun E hk hE=>?_
     unfold astep;rw[hop];simp only[hd,hka E hk p _ (by simp) hp,hka E hk x _ (by simp) hx,hsz,hlen];have h6:=h5 E hE
     cases v <;> first | (simp only[hE];exact h6) | exact absurd rfl (hna _) | exact absurd rfl (hnb _ _ _ _ _) | exact absurd rfl (hnm _ _)
    obtain⟨y,y',h1,h2,h2',h3,h4',hny,h5⟩:=qgm he
    refine fin s y y' hd h1 h2 h2' h3 h4' fun E hk hE=>?_
    unfold astep;rw[hop];simp only[hd,hka E hk p _ (by simp) hp,hka E hk x _ (by simp) hx,hsz,hlen];have h4:=h5 E hE
    have h6:(match look E s with | some (.bxg _)=>putG s E off v | _=>putCell s E off v)=some (ins s y' E):=by
     rw[hE]
     cases y <;> first | exact h4 | exact absurd rfl (hny _)
    cases v <;> first | exact h6 | exact absurd rfl (hna _) | exact absurd rfl (hnb _ _ _ _ _) | exact absurd rfl (hnm _ _)
   cases v with
   | agg cs =>
    obtain⟨y,y',h1,h2,h2',h3,h4,h5⟩:=qhP he
    refine fin s y y' hd h1 h2 h2' h3 h4 fun E hk hE=>?_
    unfold astep;rw[hop];simp only[hd,hka E hk p _ (by simp) hp,hka E hk x _ (by simp) hx,hsz,hlen];exact h5 E hE
   | sb id e' k o2 m =>
    obtain⟨y,y',h1,h2,h2',h3,h4,h5⟩:=qcN he
    refine fin s y y' hd h1 h2 h2' h3 h4 fun E hk hE=>?_
    unfold astep;rw[hop];simp only[hd,hka E hk p _ (by simp) hp,hka E hk x _ (by simp) hx,hsz,hlen];exact h5 E hE
   | mb kd id =>
    obtain⟨y,y',h1,h2,h2',h3,h4,h5⟩:=qcN he
    refine fin s y y' hd h1 h2 h2' h3 h4 fun E hk hE=>?_
    unfold astep;rw[hop];simp only[hd,hka E hk p _ (by simp) hp,hka E hk x _ (by simp) hx,hsz,hlen];exact h5 E hE
   | _=>exact one _ hx hlen (fun cs e=>by cases e) (fun _ _ _ _ _ e=>by cases e) (fun _ _ e=>by cases e) he
  .rename_i id k j off v sz hd hp hx hsz;split at he
   case h_2=>cases he
   rename_i hlen;obtain⟨y,y',h1,h2,h3,h4,h5,h6⟩:=qhQ he
   refine fin id y y' hd h1 h2 h3 h4 h5 fun E hk hE=>?_
   unfold astep;rw[hop];simp only[hd,hka E hk p _ (by simp) hp,hka E hk x _ (by simp) hx,hsz,hlen];exact h6 E hE
  cases he
 | _=>rw[hop]at hs;cases hs
end
end Go.AM
