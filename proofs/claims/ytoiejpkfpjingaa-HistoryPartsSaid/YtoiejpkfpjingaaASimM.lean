import Derived.Test.YtoiejpkfpjingaaAWp
set_option linter.all false
open List renaming map→A0, map_cons→A2, getElem?_eq_getElem→A3, mem_cons_self→A6, mem_cons_of_mem→B3, replicate→B7, all_eq_true→C7, foldl_cons→D1, mem_append_right→D7, mem_append_left→D8
open Nat renaming beq→A1, ble→A5, lt_of_not_le→A8, le_refl→D3, lt_or_ge→D4
open Go.Region renaming before→A4, binds→A7, ready→B5, wanted→D0
open Array renaming getD_eq_getD_getElem?→A9, getElem?_push→D9
open Bool renaming not_eq_true'→B4, noConfusion→B6, or_eq_true→D2, and_eq_true→D5
open Prod renaming fst→B8
open Option renaming map_some→D6
namespace Go.AM
section
variable {P:Program} {n:Nat}
theorem W.mv {c:Code} {Q:Ex→Env→Prop} {env env':Env} (q:List Mv) (he:mvAll env q=env') (h:W P n c Q env'):W P n c Q env:=by
 subst he;obtain⟨ex,e1,h1,h2⟩:=h;exact⟨ex,e1,.mv q h1,h2⟩
theorem WO.mv {all ops:List Oper} {Q:Env→Prop} {env env':Env} (q:List Mv) (he:mvAll env q=env') (h:WO P n false all ops Q env'):WO P n false all ops Q env:=by
 subst he;obtain⟨e',h1,h2⟩:=h;exact⟨e',.mvOp q h1,h2⟩
theorem W.seqU {v:Code} {c:Operand} {x y z:Code} {Q:Ex→Env→Prop} {env e0 ei e2:Env} (p:Bool) (h0:W P n v (fun ex' e'=>ex'=.normal∧e'=e0) env) (hc:aop e0 c=some (.ub p)) (ht:p=true→W P n x (fun ex' e'=>ex'=.ret∧e'=e2) e0) (hf:W P n y (fun ex' e'=>ex'=.normal∧e'=ei) e0) (hz:W P n z (fun ex' e'=>ex'=.ret∧e'=e2) ei) (hq:Q .ret e2):W P n (.seq (.seq v (.cond c x y)) z) Q env:=by
 refine⟨.ret,e2,.seqU (e0:=e0) (ei:=ei) p ?_ hc (fun hp=>?_) ?_ ?_,hq⟩
 ·obtain⟨ex',e',h1,rfl,rfl⟩:=h0;exact h1
 ·obtain⟨ex',e',h1,rfl,rfl⟩:=ht hp;exact h1
 ·obtain⟨ex',e',h1,rfl,rfl⟩:=hf;exact h1
 ·obtain⟨ex',e',h1,rfl,rfl⟩:=hz;exact h1
theorem Zk {ops:List Oper} {k:Nat} {o:Oper} {rest:List Oper} (h:ops.drop k=o::rest):ops.drop (k+1)=rest:=by
 have hd:ops.drop (k+1)=(ops.drop k).drop 1:=by rw[List.drop_drop]
 rw[hd,h];rfl
def HB (all:List Oper) (o:Oper) (env:Env):Option (Nat×List AV×List AV) :=
 match awanted all o env with
 | some true=>match o.op with
  | .call { callee:=.value f,args,.. }=>match aop env f,optAll (args.toList.map (aop env)) with
   | some (.clo g caps),some l=>match optAll (l.map (asnap env)) with
    | some l'=>some (g,l',caps)
    | none=>none
   | _,_=>none
  | _=>none
 | _=>none
theorem WO.callRF {draw:Bool} {all rest:List Oper} {o:Oper} {Q:Env→Prop} {env e1:Env} {F:Nat} {l C args:List AV} {r:AV} (hp:HB all o env=some (F,l,C)) (ha:l++C=args) (hok:okFn P F=true) (hpl:r.plain=true) (hr:Run P (.call F args r)) (he:eput n o.dst r env=some e1) (h:WO P n draw all rest Q e1):WO P n draw all (o::rest) Q env:=by
 subst ha;unfold HB at hp
 split at hp <;> try cases hp
 rename_i hw
 split at hp <;> try cases hp
 rename_i f args ats ho
 split at hp <;> try cases hp
 rename_i g caps l hf hl
 split at hp <;> try cases hp
 rename_i l' hl';obtain⟨e',h1,h2⟩:=h;refine⟨e',.callOpR hw ?_ hpl hr he h1,h2⟩;unfold QI;rw[ho];simp only[hf,hl];unfold okFn at hok;split at hok
 ·rename_i fn hfn;simp only[hfn,hok,hl']
 ·cases hok
theorem WO.callRK {draw:Bool} {all ops:List Oper} {Q:Env→Prop} {env e1:Env} {F:Nat} {l C args:List AV} {r:AV} (k:Nat)
  (hp:stepsE P n draw all k ops env (fun os e=>match os with | o::_=>HB all o e | []=>none)=some (F,l,C)) (ha:l++C=args) (hok:okFn P F=true) (hpl:r.plain=true) (hr:Run P (.call F args r))
  (he:stepsE P n draw all k ops env (fun os e=>match os with | o::_=>eput n o.dst r e | []=>none)=some e1) (h:WO P n draw all (ops.drop (k+1)) Q e1):WO P n draw all ops Q env:=by
 obtain⟨e,h1,h2⟩:=jK hp;obtain⟨e',h3,h4⟩:=jK he;rw[h1]at h3;cases h3;refine WO.steps k h1 ?_
 cases hos:ops.drop k with
 | nil=>rw[hos]at h2;cases h2
 | cons o rest =>
  rw[hos]at h2 h4;rw[Zk hos]at h;exact WO.callRF h2 ha hok hpl hr h4 h
def HD (P:Program) (all:List Oper) (o:Oper) (env:Env) (ρ:List (Nat×Nat)):Option (Nat×List AV×Env) :=
 match awanted all o env with
 | some true=>UH P o env ρ
 | _=>none
theorem WO.callMK {all ops:List Oper} {Q:Env→Prop} {env e1:Env} {F:Nat} {args:List AV} {hp hp2:Env} {r:AV} (k:Nat) (ρ nw:List (Nat×Nat))
  (h0:stepsE P n false all k ops env (fun os e=>match os with | o::_=>HD P all o e ρ | []=>none)=some (F,args,hp)) (hr:Run P (.callM F args hp r hp2))
  (he:stepsE P n false all k ops env (fun os e=>match os with | o::_=>Vj n o.dst ρ nw r hp2 e | []=>none)=some e1) (h:WO P n false all (ops.drop (k+1)) Q e1):WO P n false all ops Q env:=by
 obtain⟨e,h1,h2⟩:=jK h0;obtain⟨e',h3,h4⟩:=jK he;rw[h1]at h3;cases h3;refine WO.steps k h1 ?_
 cases hos:ops.drop k with
 | nil=>rw[hos]at h2;cases h2
 | cons o rest =>
  rw[hos]at h2 h4;rw[Zk hos]at h;simp only[HD]at h2
  split at h2 <;> try cases h2
  rename_i hw;obtain⟨e2,g1,g2⟩:=h;exact⟨e2,.callOpM ρ nw hw h2 hr h4 g1,g2⟩
def stPre (P:Program) (all:List Oper) (o:Oper) (env:Env):Option (Nat×Nat×Nat×List AV×Nat×Nat×List AV) :=
 match awanted all o env with
 | some true=>match o.op with
  | .store t p x=>match o.dst,aop env p,aop env x,tSize P t with
   | none,some (.pe id k j off),some v,some sz=>match A1 v.cells.length sz,look env id with
    | true,some (.obj e k' xs)=>match A1 k k' with
     | true=>some (id,e,k,xs,j,off,v.cells)
     | false=>none
    | _,_=>none
   | _,_,_,_=>none
  | _=>none
 | _=>none
theorem WO.storeK {draw:Bool} {all ops:List Oper} {Q:Env→Prop} {env e1:Env} {id e s:Nat} {xs zs vs:List AV} {j off:Nat} {y y':AV} (k:Nat)
  (hp:stepsE P n draw all k ops env (fun os e=>match os with | o::_=>stPre P all o e | []=>none)=some (id,e,s,xs,j,off,vs)) (hy:xs[j]? = some y) (hput:putElem y off vs=some y') (hz:xs.set j y'=zs)
  (he:stepsE P n draw all k ops env (fun os en=>some (ins id (.obj e s zs) en))=some e1) (h:WO P n draw all (ops.drop (k+1)) Q e1):WO P n draw all ops Q env:=by
 subst hz;obtain⟨en,h1,h2⟩:=jK hp;obtain⟨en',h3,h4⟩:=jK he;rw[h1]at h3;cases h3;cases h4;refine WO.steps k h1 ?_
 cases hos:ops.drop k with
 | nil=>rw[hos]at h2;cases h2
 | cons o rest =>
  rw[hos]at h2;rw[Zk hos]at h;simp only[stPre]at h2
  split at h2 <;> try cases h2
  rename_i hw
  split at h2 <;> try cases h2
  rename_i t p x ho
  split at h2 <;> try cases h2
  rename_i id' k' j' off' v sz hd hpp hx hsz
  split at h2 <;> try cases h2
  rename_i e' k2 xs' hlen hl
  split at h2 <;> try cases h2
  rename_i hk
  have hst:astep P n o en=some (ins id (.obj e s (xs.set j y')) en):=by
   unfold astep;rw[ho];simp only[hd,hpp,hx,hsz,hlen];unfold putObj;simp only[hl,hk,hy,hput]
  refine WO.step (e1:=ins id (.obj e s (xs.set j y')) en) ?_ h;unfold step1;rw[hw]
  cases draw with
  | true =>
   have:isEff o.op=true:=by rw[ho];rfl
   refine YH (VW (by rw[ho];rfl)) ?_;unfold astepD;simp only[this,hst]
  | false=>exact hst
def aoPre (P:Program) (n:Nat) (all:List Oper) (o:Oper) (env:Env):Option (Nat×Nat×Nat×Nat×Nat×List AV×List AV×Env) :=
 match awanted all o env with
 | some true=>match o.op with
  | .call { callee:=.builtin .append,args,argTypes }=>match args.toList,argTypes.toList,o.dst with
   | [x,y],[t,t'],some d=>match aop env x,aop env y with
    | some (.sb id ex kx off m),some q=>match Jf P t with
     | some (e,s)=>match A1 t t' && Nat.blt 0 s && (match (P.info? e).bind (·.zero) with | some z=>A1 z.cells.size s | none=>false) with
      | true=>match look env id,content env q with
       | some (.obj e' k' xs),some (ky,ys)=>match A1 ex e && A1 e' e && A1 kx s && A1 k' s && A1 ky s && A1 off 0 && (usable id && Nat.blt e 1000000000) with
        | true=>match clearOf (1000000+d) (forget id env) && (match look env d with | some (.box _)=>false | some (.obj ..)=>false | some (.hob ..)=>false | some (.bxg _)=>false | _=>true) && Nat.blt d n with
         | true=>some (d,e,s,((P.info? e).map (·.bytes)).getD 0,m,xs,ys,forget id env)
         | false=>none
        | false=>none
       | _,_=>none
      | false=>none
     | none=>none
    | _,_=>none
   | _,_,_=>none
  | _=>none
 | _=>none
def aoPreD (P:Program) (n:Nat) (draw:Bool) (all:List Oper) (o:Oper) (env:Env):Option (Nat×Nat×Nat×Nat×Nat×List AV×List AV×Env) :=
 match !draw || lfOk all o env with
 | true=>aoPre P n all o env
 | false=>none
theorem qce {draw:Bool} {all:List Oper} {o:Oper} {env:Env} {r:Nat×Nat×Nat×Nat×Nat×List AV×List AV×Env} (h:aoPreD P n draw all o env=some r):(!draw || lfOk all o env)=true∧aoPre P n all o env=some r:=by
 unfold aoPreD at h;split at h
 ·rename_i hl;exact⟨hl,h⟩
 ·cases h
theorem WO.appendOK {draw:Bool} {all ops:List Oper} {Q:Env→Prop} {env env1 e1:Env} {d e s bytes m n2:Nat} {xs ys zs:List AV} (k:Nat)
  (hp:stepsE P n draw all k ops env (fun os e=>match os with | o::_=>aoPreD P n draw all o e | []=>none)=some (d,e,s,bytes,m,xs,ys,env1)) (hc:capOk bytes (m+ys.length)=true) (hz:snapA 0 m xs++ys=zs) (hn:zs.length=n2)
  (he:ins (1000000+d) (.obj e s zs) (ins d (.sb (1000000+d) e s 0 n2) env1)=e1) (h:WO P n draw all (ops.drop (k+1)) Q e1):WO P n draw all ops Q env:=by
 subst hn;subst hz;subst he;obtain⟨en,h1,h2⟩:=jK hp;refine WO.steps k h1 ?_
 cases hos:ops.drop k with
 | nil=>rw[hos]at h2;cases h2
 | cons o rest =>
  rw[hos]at h2;rw[Zk hos]at h;simp only at h2;obtain⟨hlf0,h2⟩:=qce h2;simp only[capOk,D5,Nat.ble_eq]at hc;simp only[aoPre]at h2
  split at h2 <;> try cases h2
  rename_i hw
  split at h2 <;> try cases h2
  rename_i args ats ho
  split at h2 <;> try cases h2
  rename_i x y t t' d' hax hat hd
  split at h2 <;> try cases h2
  rename_i id ex kx off m' q ha hb
  split at h2 <;> try cases h2
  rename_i e' s' hse
  split at h2 <;> try cases h2
  rename_i hcond
  split at h2 <;> try cases h2
  rename_i e2 k2 xs' ky ys' hl hcon
  split at h2 <;> try cases h2
  rename_i hk
  split at h2 <;> try cases h2
  rename_i hcl
  have hao:YJ P n t t' d (.sb id ex kx off m) q en=some (ins (1000000+d) (.obj e s (snapA 0 m xs++ys)) (ins d (.sb (1000000+d) e s 0 (snapA 0 m xs++ys).length) (forget id en))):=by
   unfold YJ;simp only[hse];split
   ·rename_i hcf;exact B6 (hcf.symm.trans hcond)
   ·simp only[hl,hcon,hk];split
    ·rw[if_pos hc]
    ·rename_i hcf;exact B6 (hcf.symm.trans hcl)
  have hst:astep P n o en=some (ins (1000000+d) (.obj e s (snapA 0 m xs++ys)) (ins d (.sb (1000000+d) e s 0 (snapA 0 m xs++ys).length) (forget id en))):=by
   unfold astep;rw[ho];simp only[hax,hat,hd,ha,hb,hao]
  refine WO.step (e1:=_) ?_ h;unfold step1;rw[hw]
  cases draw with
  | true =>
   have hlf:lfOk all o en=true:=by simpa using hlf0
   have:isEff o.op=true:=by rw[ho];rfl
   refine YH hlf ?_;unfold astepD;simp only[this,hst]
  | false=>exact hst
def PostM (P:Program) (fn:Func) (r:AV) (hp:Env):Ex→Env→Prop
 | .exit _,_=>False
 | _,e=>VD P fn e=some r∧ents e=hp
theorem qde {f:Nat} {args:List AV} {r:AV} {hp hp2:Env} {fn:Func} {c:Code} (hf:P.funcs[f]? = some fn) (hb:fn.body=some c) (hlen:(A5 args.length fn.ntmps && A5 fn.ntmps 1000000 && hpOk hp)=true) {env0:Env} (he:argsEnv 0 (args.map AV.strip)++hp=env0) (h:W P fn.ntmps c (PostM P fn r hp2) env0):Run P (.callM f args hp r hp2):=by
 subst he;obtain⟨ex,e1,h1,h2⟩:=h
 cases ex with
 | exit id=>exact h2.elim
 | normal=>obtain⟨h2,rfl⟩:=h2;exact .callM hf hb hlen h1 trivial h2
 | ret=>obtain⟨h2,rfl⟩:=h2;exact .callM hf hb hlen h1 trivial h2
theorem WO.end0 {draw:Bool} {all ops:List Oper} {Q:Env→Prop} {env e2:Env} (he:stepsK P n draw all ops.length ops env=some e2) (h:Q e2):WO P n draw all ops Q env:=by
 refine WO.steps ops.length he ?_;rw[List.drop_length];exact .nil h
def snap {α:Type} (off n:Nat) (l:List α):List α:=(l.drop off).take n
theorem NY {α:Type} {f:α→AV} {off n:Nat} {l:List α}:snapA off n (A0 f l)=A0 f (snap off n l):=by
 unfold snapA snap;rw[List.map_take,List.map_drop]
theorem Dr {α:Type} {l:List α}:snap 0 l.length l=l:=by
 unfold snap;simp
theorem qbg {α:Type} {n:Nat} {x:α}:snap 0 n (B7 n x)=B7 n x:=by
 unfold snap;simp
theorem qfQ {α:Type} {l:List α} {j:Nat} {y:α} {f:α→AV} (h:l[j]? = some y):(A0 f l)[j]? = some (f y):=by
 rw[List.getElem?_map,h];rfl
theorem qfP {α:Type} {l l':List α} {j:Nat} {v:α} {f:α→AV} (h:l.set j v=l'):(A0 f l).set j (f v)=A0 f l':=by
 rw[← h,List.map_set]
theorem qgq {α β:Type} {l:List α} {j:Nat} {y:α} {f:α→AV} {G:AV→Option β} (h:l[j]? = some y):(match (A0 f l)[j]? with | some y=>G y | none=>none)=G (f y):=by
 rw[List.getElem?_map,h];rfl
theorem qfs {α:Type} {c:Prop} [Decidable c] {x:α} (h:decide c=true):(if c then some x else none)=some x:=if_pos (of_decide_eq_true h)
theorem W.rg {id:Nat} {ops:Array Oper} {draw:Bool} {Q:Ex→Env→Prop} {env:Env} (h:WO P n draw ops.toList ops.toList (Q .normal) env) (hd:(!draw || (orderOk ops && jZ ops))=true:=by kernel_rfl):W P n (.region id ops draw) Q env:=W.region hd h
theorem W.wk {c:Code} {Q:Ex→Env→Prop} {env e:Env} (h:W P n c Q e) (he:weakE (e.map B8) [] [] [] env=e:=by kernel_rfl):W P n c Q env:=W.weak _ _ _ _ he h
theorem WO.fn {draw:Bool} {all ops:List Oper} {Q:Env→Prop} {env e2:Env} {c:Code} {Q':Ex→Env→Prop} (h:W P n c Q' e2) (he:finE P n draw all ops (e2.map B8) [] [] [] env=some e2:=by kernel_rfl) (hQ:∀ e,W P n c Q' e→Q e:=by exact fun _ h=>h):WO P n draw all ops Q env:=WO.fin _ _ _ _ he hQ h
theorem W.rt {id:Nat} {ops:Array Oper} {draw:Bool} {y:Code} {Q Q':Ex→Env→Prop} {env e2:Env} (h:W P n y Q' e2) (hd:(!draw || (orderOk ops && jZ ops))=true:=by kernel_rfl) (he:finE P n draw ops.toList ops.toList (e2.map B8) [] [] [] env=some e2:=by kernel_rfl) (hQ:∀ e,W P n y Q' e→Q .normal e:=by exact fun _ h=>h):W P n (.region id ops draw) Q env:=W.regT _ _ _ _ hd he hQ h
theorem W.cb {c:Operand} {x y:Code} {Q:Ex→Env→Prop} {env:Env} (b:Bool) (ht:b=true→W P n x Q env) (hf:b=false→W P n y Q env) (hc:aop env c=some (.bool b):=by kernel_rfl):W P n (.cond c x y) Q env:=W.cond b hc ht hf
theorem WO.ck {draw:Bool} {all ops:List Oper} {Q:Env→Prop} {env e1:Env} {F:Nat} {l C:List AV} {r:AV} (k:Nat) (hr:Run P (.call F (l++C) r)) (h:WO P n draw all (ops.drop (k+1)) Q e1)
  (hp:stepsE P n draw all k ops env (fun os e=>match os with | o::_=>callPre all o e | []=>none)=some (F,l,C):=by kernel_rfl) (hok:okFn P F=true:=by kernel_rfl)
  (he:stepsE P n draw all k ops env (fun os e=>match os with | o::_=>callPut n draw o.dst r e | []=>none)=some e1:=by kernel_rfl):WO P n draw all ops Q env:=WO.callK k hp hok hr he h
theorem WO.cm {all ops:List Oper} {Q:Env→Prop} {env e1:Env} {F:Nat} {args:List AV} {hp hp2:Env} {r:AV} (k:Nat) (ρ nw:List (Nat×Nat)) (hr:Run P (.callM F args hp r hp2)) (h:WO P n false all (ops.drop (k+1)) Q e1)
  (h0:stepsE P n false all k ops env (fun os e=>match os with | o::_=>HD P all o e ρ | []=>none)=some (F,args,hp):=by kernel_rfl)
  (he:stepsE P n false all k ops env (fun os e=>match os with | o::_=>Vj n o.dst ρ nw r hp2 e | []=>none)=some e1:=by kernel_rfl):WO P n false all ops Q env:=WO.callMK k ρ nw h0 hr he h
def pureX (P:Program) (n:Nat) (draw:Bool) (all:List Oper) (k:Nat) (ops:List Oper) (env:Env) (v:AV):Option (Option AV) :=
 stepsE P n draw all k ops env (fun os e=>match os with
   | o::_=>match awanted all o e with
    | some true=>match plainOp o.op && notBox v with
     | true=>some (apure P o e)
     | false=>none
    | _=>none
   | []=>none)
def putX (n:Nat) (P:Program) (draw:Bool) (all:List Oper) (k:Nat) (ops:List Oper) (env:Env) (v:AV):Option Env :=
 stepsE P n draw all k ops env (fun os e=>match os with | o::_=>eput n o.dst v e | []=>none)
theorem WO.pk {draw:Bool} {all ops:List Oper} {Q:Env→Prop} {env e1:Env} {v:AV} (k:Nat) (X:Option AV) (hX:X=some v) (h:WO P n draw all (ops.drop (k+1)) Q e1) (hp:pureX P n draw all k ops env v=some X:=by kernel_rfl) (he:putX n P draw all k ops env v=some e1:=by kernel_rfl):WO P n draw all ops Q env :=
 WO.pureK k X hp hX he h
theorem WO.pi {draw:Bool} {all ops:List Oper} {Q:Env→Prop} {env e1:Env} {v:AV} (k:Nat) {c:Prop} [Decidable c] (hc:decide c=true) (h:WO P n draw all (ops.drop (k+1)) Q e1) (hp:pureX P n draw all k ops env v=some (if c then some v else none):=by kernel_rfl) (he:putX n P draw all k ops env v=some e1:=by kernel_rfl):WO P n draw all ops Q env :=
 WO.pureK k _ hp (qfs hc) he h
theorem WO.pl {draw:Bool} {all ops:List Oper} {Q:Env→Prop} {env e1:Env} {v:AV} {α:Type} {l:List α} {j:Nat} {y:α} (k:Nat) (F:α→AV) (T O:Nat) (hj:l[j]? = some y) (h:WO P n draw all (ops.drop (k+1)) Q e1)
  (hp:pureX P n draw all k ops env v=some (match (A0 F l)[j]? with | some y=>cut P T (y.cells.map AV.strip) O | none=>none):=by kernel_rfl) (hv:cut P T ((F y).cells.map AV.strip) O=some v:=by kernel_rfl) (he:putX n P draw all k ops env v=some e1:=by kernel_rfl):WO P n draw all ops Q env :=
 WO.pureK k _ hp ((qgq (f:=F) (G:=fun y=>cut P T (y.cells.map AV.strip) O) hj).trans hv) he h
theorem WO.sk {draw:Bool} {all ops:List Oper} {Q:Env→Prop} {env e1:Env} {id e s:Nat} {vs:List AV} {j off:Nat} {α:Type} {l l':List α} {y w:α} (k:Nat) (F:α→AV) (hy:l[j]? = some y) (hz:l.set j w=l') (h:WO P n draw all (ops.drop (k+1)) Q e1)
  (hp:stepsE P n draw all k ops env (fun os e=>match os with | o::_=>stPre P all o e | []=>none)=some (id,e,s,A0 F l,j,off,vs):=by kernel_rfl) (hput:putElem (F y) off vs=some (F w):=by kernel_rfl)
  (he:stepsE P n draw all k ops env (fun os en=>some (ins id (.obj e s (A0 F l')) en))=some e1:=by kernel_rfl):WO P n draw all ops Q env :=
 WO.storeK k hp (qfQ hy) hput (qfP hz) he h
theorem cW {f:Nat} {args:List AV} {r:AV} {fn:Func} {c:Code} (hf:P.funcs[f]? = some fn) (hb:fn.body=some c) {env0:Env} (h:W P fn.ntmps c (Post P fn r) env0) (hlen:(A5 args.length fn.ntmps && A5 fn.ntmps 1000000)=true:=by kernel_rfl) (he:argsEnv 0 (args.map AV.strip)=env0:=by kernel_rfl):Run P (.call f args r):=Nc hf hb hlen he h
theorem cM {f:Nat} {args:List AV} {r:AV} {hp hp2:Env} {fn:Func} {c:Code} (hf:P.funcs[f]? = some fn) (hb:fn.body=some c) {env0:Env} (h:W P fn.ntmps c (PostM P fn r hp2) env0) (hlen:(A5 args.length fn.ntmps && A5 fn.ntmps 1000000 && hpOk hp)=true:=by kernel_rfl) (he:argsEnv 0 (args.map AV.strip)++hp=env0:=by kernel_rfl):Run P (.callM f args hp r hp2):=qde hf hb hlen he h
abbrev EN (l:Env):Env:=l
abbrev hB (l:List Bool):AV:=.hob 3 [] (A0 AV.bool l)
abbrev hZ:AV:=.hob 3 [] (A0 AV.bool (B7 252 false))
theorem WO.pq {draw:Bool} {all ops:List Oper} {Q:Env→Prop} {env e1:Env} {X:Option AV} {v:AV} (k:Nat) (hX:X=some v) (h:WO P n draw all (ops.drop (k+1)) Q e1) (hp:pureX P n draw all k ops env v=some X:=by kernel_rfl) (he:putX n P draw all k ops env v=some e1:=by kernel_rfl):WO P n draw all ops Q env :=
 WO.pureK k X hp hX he h
theorem jB {b c:Bool} (h:b=c):(some (AV.bool b):Option AV)=some (.bool c):=by rw[h]
theorem jI {a b:Int} (h:a=b):(some (AV.int .i64 a):Option AV)=some (.int .i64 b):=by rw[h]
theorem jM {α:Type} (f:α→AV) (l:List α):(some (AV.int .i64 ((A0 f l).length:Int)):Option AV)=some (.int .i64 (l.length:Int)):=by rw[List.length_map]
theorem W.rr {Q:Ex→Env→Prop} {env:Env} (h:Q .ret env:=by exact (show Qh _ _ _=some _ by kernel_rfl)):W P n .ret Q env:=W.ret h
theorem W.sr {id:Nat} {ops:Array Oper} {draw:Bool} {y:Code} {Q:Ex→Env→Prop} {env:Env} (h:WO P n draw ops.toList ops.toList (Then y P n Q .normal) env) (hd:(!draw || (orderOk ops && jZ ops))=true:=by kernel_rfl):W P n (.seq (.region id ops draw) y) Q env:=W.seq (W.rg h hd)
theorem WO.fi {draw:Bool} {all ops:List Oper} {Q:Env→Prop} {env e2:Env} {c:Code} {Q':Ex→Env→Prop} (keep frz:List Nat) (h:W P n c Q' e2) (he:finE P n draw all ops keep frz [] [] env=some e2:=by kernel_rfl) (hQ:∀ e,W P n c Q' e→Q e:=by exact fun _ h=>h):WO P n draw all ops Q env:=WO.fin _ _ _ _ he hQ h
theorem W.rT {id:Nat} {ops:Array Oper} {draw:Bool} {y:Code} {Q Q':Ex→Env→Prop} {env e2:Env} (keep frz:List Nat) (h:W P n y Q' e2) (hd:(!draw || (orderOk ops && jZ ops))=true:=by kernel_rfl) (he:finE P n draw ops.toList ops.toList keep frz [] [] env=some e2:=by kernel_rfl) (hQ:∀ e,W P n y Q' e→Q .normal e:=by exact fun _ h=>h):W P n (.region id ops draw) Q env:=W.regT _ _ _ _ hd he hQ h
theorem WO.bh {draw:Bool} {all ops:List Oper} {Q:Env→Prop} {env:Env} {α:Type} {x y o:α} (k:Nat) (E:Bool→Env) (b:Bool) (h:(bif b then x else y)=o) (ht:x=o→WO P n draw all (ops.drop k) Q (E true)) (hf:y=o→WO P n draw all (ops.drop k) Q (E false)) (he:stepsK P n draw all k ops env=some (E b):=by kernel_rfl):WO P n draw all ops Q env:=WO.boolK k E b he (fun hb=>ht (by subst hb;exact h)) (fun hb=>hf (by subst hb;exact h))
theorem W.ch {c:Operand} {x y:Code} {Q:Ex→Env→Prop} {env:Env} {α:Type} {u v o:α} (b:Bool) (h:(bif b then u else v)=o) (ht:u=o→W P n x Q env) (hf:v=o→W P n y Q env) (hc:aop env c=some (.bool b):=by kernel_rfl):W P n (.cond c x y) Q env:=W.cond b hc (fun hb=>ht (by subst hb;exact h)) (fun hb=>hf (by subst hb;exact h))
theorem W.sw {c:Code} {Q Q':Ex→Env→Prop} {env e:Env} (h:W P n c Q' e) (he:weakE (e.map B8) [] [] [] env=e:=by kernel_rfl) (hQ:W P n c Q' env→Q .normal env:=by exact fun h=>h):W P n .skip Q env:=W.skip (hQ (W.wk h he))
theorem W.cF {c:Operand} {x y:Code} {Q:Ex→Env→Prop} {env:Env} (h:W P n y Q env) (hc:aop env c=some (.bool false):=by kernel_rfl):W P n (.cond c x y) Q env:=W.cond false hc (fun h=>B6 h) (fun _=>h)
theorem W.cT {c:Operand} {x y:Code} {Q:Ex→Env→Prop} {env:Env} (h:W P n x Q env) (hc:aop env c=some (.bool true):=by kernel_rfl):W P n (.cond c x y) Q env:=W.cond true hc (fun _=>h) (fun h=>B6 h)
end
end Go.AM
namespace Go.AM
variable {P:Program} {n:Nat} {α:Type} {enc:α→AV}
def Flat (enc:α→AV):Prop:=∀ x,(enc x).one=true∧(enc x).strip=enc x∧(enc x).cells=[enc x]
theorem Flat.all (h:Flat enc) (l:List α):(l.map enc).all AV.one=true:=by
 rw[List.all_map,C7]
 exact fun x _=>(h x).1
theorem WO.one {all ops:List Oper} {Q:Env→Prop} {en e1:Env} {o:Oper} (hw:awanted all o en=some true) (hst:astep P n o en=some e1) (h:WO P n false all ops Q e1):WO P n false all (o::ops) Q en:=by
 refine WO.step (e1:=e1) ?_ h;unfold step1;rw[hw];exact hst
theorem qch (k:IntKind):∀ (m:Nat) (l l':List Int),l.length=m→l'.length=m→aeqL (B7 m 0) (A0 (AV.int k) l) (A0 (AV.int k) l')=some (l == l')
 | 0,[],[],_,_=>rfl
 | m+1,a::l,b::l',h1,h2=>by
  have ih:=qch k m l l' (by simpa using h1) (by simpa using h2)
  have hk:kbeq k k=true:=by cases k <;> rfl
  rw[List.replicate_succ,A2,A2];simp only[aeqL,aeq1,ih,hk];rfl
end Go.AM
namespace Go.AM
variable {P:Program} {n:Nat} {K V:Type} {F:K→AV} {G:V→AV} {eq:K→K→Bool}
def mpE (F:K→AV) (G:V→AV) (l:List (K×V)):AV:=.mpv (l.map fun p=>F p.1) (l.map fun p=>G p.2)
def hobE (F:K→AV) (G:V→AV) (l:List (K×V)):AV:=.hob 0 (l.map fun p=>F p.1) (l.map fun p=>G p.2)
def mget (eq:K→K→Bool) (z:V) (k:K):List (K×V)→V
 | []=>z
 | p::r=>bif eq p.1 k then p.2 else mget eq z k r
def mset (eq:K→K→Bool) (k:K) (v:V):List (K×V)→List (K×V)
 | []=>[(k,v)]
 | p::r=>bif eq p.1 k then (p.1,v)::r else p::mset eq k v r
def keq1 (x a:Int):Bool:=x == a
theorem DX (he:∀ x y,akeq (F x) (F y)=eq x y) (z:V) (k:K):∀ l:List (K×V),
  (∃ j,findA (F k) (l.map fun p=>F p.1)=some j∧(l.map fun p=>G p.2)[j]? = some (G (mget eq z k l)))∨(findA (F k) (l.map fun p=>F p.1)=none∧mget eq z k l=z)
 | []=>.inr ⟨rfl,rfl⟩
 | p::r=>by
  have ih:=DX he z k r;simp only[A2,findA,mget,he]
  cases hq:eq p.1 k with
  | true=>exact .inl ⟨0,rfl,rfl⟩
  | false =>
   simp only[cN]
   rcases ih with ⟨j,h1,h2⟩ | ⟨h1,h2⟩
   ·rw[h1];exact .inl ⟨j+1,rfl,h2⟩
   ·rw[h1];exact .inr ⟨rfl,h2⟩
theorem Zi (he:∀ x y,akeq (F x) (F y)=eq x y) (k:K) (v:V):∀ l:List (K×V),
  (∃ j,findA (F k) (l.map fun p=>F p.1)=some j∧(mset eq k v l).map (fun p=>F p.1)=l.map (fun p=>F p.1)∧(mset eq k v l).map (fun p=>G p.2)=(l.map fun p=>G p.2).set j (G v)) ∨
  (findA (F k) (l.map fun p=>F p.1)=none∧(mset eq k v l).map (fun p=>F p.1)=l.map (fun p=>F p.1)++[F k]∧(mset eq k v l).map (fun p=>G p.2)=(l.map fun p=>G p.2)++[G v])
 | []=>.inr ⟨rfl,rfl,rfl⟩
 | p::r=>by
  have ih:=Zi he k v r;simp only[A2,findA,mset,he]
  cases hq:eq p.1 k with
  | true=>exact .inl ⟨0,rfl,rfl,rfl⟩
  | false =>
   simp only[cN,A2]
   rcases ih with ⟨j,h1,h2,h3⟩ | ⟨h1,h2,h3⟩
   ·rw[h1,h2,h3];exact .inl ⟨j+1,rfl,rfl,rfl⟩
   ·rw[h1,h2,h3];exact .inr ⟨rfl,rfl,rfl⟩
theorem Us {kt:TypeId} (hf:∀ x,keyFits P kt (F x)=true) (l:List (K×V)):(l.map fun p=>F p.1).all (keyFits P kt)=true:=by
 rw[List.all_map,C7]
 exact fun p _=>hf p.1
theorem jD {t kt e:TypeId} {l:List (K×V)} {k:K} {z:V} (hk:(F k).keyV.isSome=true) (ht:QS P t=some (kt,e)) (hf:∀ x,keyFits P kt (F x)=true) (he:∀ x y,akeq (F x) (F y)=eq x y) (hz:zeroA1 P e=some (G z)):alookup P t [] (mpE F G l) (F k)=some (G (mget eq z k l)):=by
 unfold alookup mpE;rw[ht];simp only[Ye];rw[hf,hk,Us hf];simp only[Bool.and_self]
 rcases DX (G:=G) he z k l with ⟨j,h1,h2⟩ | ⟨h1,h2⟩
 ·rw[h1];exact h2
 ·rw[h1,h2];exact hz
theorem Jy {k:IntKind} {i:Int} (h:wfI k i=true):(AV.int k i).keyV.isSome=true:=by
 simp only[AV.keyV,h];rfl
theorem Yc {k:IntKind} {i j:Int} (h:(wfI k i && wfI k j)=true):(AV.agg [.int k i,.int k j]).keyV.isSome=true:=by
 rw[D5]at h;simp only[AV.keyV,keyVs,h.1,h.2];rfl
def mupPre (P:Program) (all:List Oper) (o:Oper) (env:Env):Option (Nat×TypeId×AV×AV×List AV×List AV) :=
 match awanted all o env with
 | some true=>match o.op with
  | .mapUpdate t m k v=>match o.dst,aop env m,aop env k,aop env v,QS P t with
   | none,some (.mb 0 id),some k,some v,some (kt,e)=>match v.mapElem,look env id with
    | true,some (.hob 0 ks vs)=>some (id,kt,k,v.strip,ks,vs)
    | _,_=>none
   | _,_,_,_,_=>none
  | _=>none
 | _=>none
theorem WO.mapK {draw:Bool} {all ops:List Oper} {Q:Env→Prop} {env e1:Env} {id kt:Nat} {l:List (K×V)} {a:K} {b:V} (k:Nat) (hk:(F a).keyV.isSome=true) (hn:Nat.blt l.length 1000000000=true) (h:WO P n draw all (ops.drop (k+1)) Q e1)
  (hf:∀ x,keyFits P kt (F x)=true) (he:∀ x y,akeq (F x) (F y)=eq x y)
  (hp:stepsE P n draw all k ops env (fun os e=>match os with | o::_=>mupPre P all o e | []=>none)=some (id,kt,F a,G b,l.map (fun p=>F p.1),l.map (fun p=>G p.2)):=by kernel_rfl)
  (hs:stepsE P n draw all k ops env (fun os en=>some (ins id (hobE F G (mset eq a b l)) en))=some e1:=by kernel_rfl):WO P n draw all ops Q env:=by
 obtain⟨en,h1,h2⟩:=jK hp;obtain⟨en',h3,h4⟩:=jK hs;rw[h1]at h3;cases h3;cases h4;refine WO.steps k h1 ?_
 cases hos:ops.drop k with
 | nil=>rw[hos]at h2;cases h2
 | cons o rest =>
  rw[hos]at h2;rw[Zk hos]at h;simp only[mupPre]at h2
  split at h2 <;> try cases h2
  rename_i hw
  split at h2 <;> try cases h2
  rename_i t m k0 v0 ho
  split at h2 <;> try cases h2
  rename_i id' k' v' kt' e' hd hm hk' hv ht
  split at h2 <;> try cases h2
  rename_i ks vs hel hl;simp only[Option.some.injEq,Prod.mk.injEq]at h2;obtain⟨rfl,rfl,rfl,hb,rfl,rfl⟩:=h2
  have hst:astep P n o en=some (ins id' (hobE F G (mset eq a b l)) en):=by
   unfold astep;rw[ho];simp only[hd,hm,hk',hv,ht,hl];rw[hf,hk,Us hf,hel,List.length_map,hn];simp only[Bool.and_self];unfold hobE
   rcases Zi (G:=G) he a b l with ⟨j,g1,g2,g3⟩ | ⟨g1,g2,g3⟩
   ·rw[g1,g2,g3,hb]
   ·rw[g1,g2,g3,hb]
  refine WO.step (e1:=ins id' (hobE F G (mset eq a b l)) en) ?_ h;unfold step1;rw[hw]
  cases draw with
  | true =>
   have:isEff o.op=true:=by rw[ho];rfl
   refine YH (VW (by rw[ho];rfl)) ?_;unfold astepD;simp only[this,hst]
  | false=>exact hst
end Go.AM
namespace Go.AM
open Go.RowKit
section
variable {bs:Base} {n:Nat} {M:Mem} {O:Gh} {env:Env} {a:Act} {w:World} {P:Program}
theorem Xt {o:Oper} {env':Env} (h:Leads P bs n o a w env') {K:Act→World→Prop} {Q:Exit→Act→World→Prop} (hK:∀ a' w' M' O',Inv bs n M' O' env' a' w'→K a' w'):o.wp P a w K Q:=by
 obtain⟨v,w',M',O',h1,h2⟩:=h;unfold Oper.wp
 rcases h1 with h1 | ⟨h1,rfl⟩ <;> rw[h1] <;> exact hK _ _ _ _ h2
theorem js (h:Inv bs n M O env a w) {all:List Oper} {o:Oper} {b:Bool} (hw:awanted all o env=some b):D0 o (yielded all.toArray a.tmps)=b:=by
 unfold awanted at hw;unfold D0;split at hw
 ·rename_i hg;rw[hg];cases hw;rfl
 ·rename_i j want hg;rw[hg];simp only;split at hw
  ·cases hw
  ·rename_i t ht;split at hw
   ·rename_i c hl;cases hw;have hs:=h.slots t _ hl;have hv:a.tmps.getD t undef=.bool c:=hs.1.bool_inv
    have ht':((all.toArray[j]?).bind (·.dst))=some t:=by simpa using ht
    unfold yielded;rw[ht'];simp only[Option.bind_some]
    have hget:a.tmps[t]? = some (.bool c):=by
     cases hx:a.tmps[t]? with
     | none =>
      rw[A9,hx]at hv;simp[undef]at hv
     | some y =>
      rw[A9,hx]at hv;simp at hv;rw[hv]
    rw[hget];cases c <;> cases want <;> rfl
   ·rename_i hl;cases hw;have hs:=h.slots t _ hl
    have hv:a.tmps.getD t undef=undef:=by
     have:=hs.1;generalize a.tmps.getD t undef=y at this;cases this;rfl
    have ht':((all.toArray[j]?).bind (·.dst))=some t:=by simpa using ht
    unfold yielded;rw[ht'];simp only[Option.bind_some]
    cases hx:a.tmps[t]? with
    | none=>rfl
    | some y =>
     rw[A9,hx]at hv;simp at hv;subst hv;rfl
   ·cases hw
def StepSem (P:Program) (n:Nat) (all:List Oper) (o:Oper) (e e1:Env):Prop :=
 ∀ (bs:Base) (M:Mem) (O:Gh) (a:Act) (w:World),Inv bs n M O e a w→∀ (K:Act→World→Prop) (Q:Exit→Act→World→Prop),(∀ a' w' M' O',Inv bs n M' O' e1 a' w'→K a' w') →
  if D0 o (yielded all.toArray a.tmps) then o.wp P a w K Q else K (a.put o.dst undef) w
def insO (d:Option Nat) (x:AV) (E:Env):Env :=
 match d with
 | some t=>ins t x E
 | none=>E
def lookS (env:Env) (t:Nat):Option AV:=(look env t).map AV.sk
def NA (all:List Oper) (o:Oper) (e E:Env):Prop:=∀ t,t∈namesOf all.toArray o→∀ y,lookS e t=some y→lookS E t=some y
def EA (e E:Env):Prop:=∀ s x,x.ent=true→look e s=some x→look E s=some x
def Pure1 (P:Program) (n:Nat) (all:List Oper) (o:Oper) (e e1:Env):Prop :=
 ∃ x,eput n o.dst x e=some e1∧x.ent=false∧∀ E,NA all o e E→(memFree o.op=true∨EA e E)→StepSem P n all o E (insO o.dst x E)
def St1 (P:Program) (n:Nat) (all:List Oper) (o:Oper) (e e1:Env):Prop :=
 isStore o.op=true∧o.dst=none∧∃ s x x',look e s=some x∧x.ent=true∧x'.ent=true∧x'.sk=x.sk∧e1=ins s x' e∧∀ E,NA all o e E→look E s=some x→StepSem P n all o E (ins s x' E)
def LE (E F:Env):Prop:=∀ t,look E t=look F t
def ClearL (id:Nat) (E:Env):Prop:=look E id=none∧∀ s x,look E s=some x→x.refs id=false
def Unord (all:List Oper) (o x:Oper):Prop:=∃ k i,all[k]? = some o∧all[i]? = some x∧i≠k∧((A4 all.toArray).getD k 0).testBit i=false∧((A4 all.toArray).getD i 0).testBit k=false
def IsA (P:Program) (n:Nat) (all:List Oper) (o:Oper) (E E1:Env):Prop :=
 isMk o.op=true∧∃ (d:Nat) (x y:AV),o.dst=some d∧x.ent=false∧ClearL (1000000+d) E∧LE (ins (1000000+d) y (ins d x E)) E1∧∀ F,NA all o E F→ClearL (1000000+d) F→look F d=none→StepSem P n all o F (ins (1000000+d) y (ins d x F))
def IsB (P:Program) (n:Nat) (all:List Oper) (o:Oper) (E E1:Env):Prop :=
 isApp o.op=true∧((∀ x,¬ Unord all o x)∨∃ (d:Nat) (v:AV) (g:AV→AV),o.dst=some d∧LE (ins d v (E.map fun p=>(p.1,g p.2))) E1∧(∀ x,plainV (some x)=true→g x=x) ∧
  (∀ x,Unord all o x→∀ t,t∈namesOf all.toArray x→plainV (look E t)=true)∧∀ F,NA all o E F→look F d=none→StepSem P n all o F (ins d v (F.map fun p=>(p.1,g p.2))))
def Hard (P:Program) (n:Nat) (all:List Oper) (o:Oper) (e e1:Env):Prop :=
 (isEff o.op=true∧isStore o.op=false)∧(∀ t,t<1000000→o.dst≠some t→look e t=none→look e1 t=none)∧(o.guard=none→isMk o.op=true→IsA P n all o e e1)∧(o.guard=none→isApp o.op=true→IsB P n all o e e1)
def StepOk (P:Program) (n:Nat) (draw:Bool) (all:List Oper) (o:Oper) (e e1:Env):Prop :=
 StepSem P n all o e e1∧(draw=true→Hard P n all o e e1∨St1 P n all o e e1∨((isEff o.op=false∨isStore o.op=true)∧Pure1 P n all o e e1))
inductive Chain (P:Program) (n:Nat) (draw:Bool) (all:List Oper):List Oper→Env→Env→Prop where
 | nil {e}:Chain P n draw all [] e e
 | drop {rest e e'} (e0:Env):draw=false→(∀ (bs:Base) (M:Mem) (O:Gh) (a:Act) (w:World),Inv bs n M O e a w→∃ M' O',Inv bs n M' O' e0 a w)→Chain P n draw all rest e0 e'→Chain P n draw all rest e e'
 | step {o rest e e1 e'}:StepOk P n draw all o e e1→Chain P n draw all rest e1 e'→Chain P n draw all (o::rest) e e'
theorem Nb {draw:Bool} {all rest:List Oper} {e e':Env} (hc:Chain P n draw all rest e e'):∀ {M:Mem} {O:Gh} {a:Act} {w:World},Inv bs n M O e a w→∀ {Q:Exit→Act→World→Prop},(∀ a' w' M' O',Inv bs n M' O' e' a' w'→Q .normal a' w')→wpList P all.toArray Q rest a w:=by
 induction hc with
 | nil=>intro M O a w h Q hQ;exact hQ _ _ _ _ h
 | drop e0 _ hw _ ih =>
  intro M O a w h Q hQ;obtain⟨M',O',h'⟩:=hw _ M O a w h;exact ih h' hQ
 | step hs _ ih =>
  intro M O a w h Q hQ;have:=hs.1 bs M O a w h (wpList P all.toArray Q _) Q (fun a' w' M' O' h'=>ih h' hQ);simp only[wpList];split at this
  ·rename_i hw;rw[if_pos hw];exact .inl this
  ·rename_i hw;rw[if_neg hw];exact this
theorem qcA {id:Nat} {ops:Array Oper} {e e':Env} (hc:Chain P n false ops.toList ops.toList e e') (h:Inv bs n M O e a w) {Q:Exit→Act→World→Prop} (hQ:∀ a' w' M' O',Inv bs n M' O' e' a' w'→Q .normal a' w'):(Code.region id ops false).wp P Q a w:=by
 refine wp_region_list ?_;have:=Nb hc h hQ
 simpa using this
theorem qeQ {all:List Oper} {o:Oper} {e e1:Env} (hw:awanted all o e=some false) (he:eput n o.dst .und e=some e1):StepSem P n all o e e1:=by
 intro bs M O a w h K Q hK;rw[js h hw];simp only[Bool.false_eq_true,if_false];exact hK _ _ _ _ (XA h (x:=.und) ⟨.und,trivial⟩ he)
theorem Uf {all:List Oper} {o:Oper} {e e1:Env} (hw:awanted all o e=some true) (he:astep P n o e=some e1):StepSem P n all o e e1:=by
 intro bs M O a w h K Q hK;rw[js h hw];simp only[if_true];exact Xt (ND h he) hK
theorem qeP {all:List Oper} {o:Oper} {e e1:Env} (hw:awanted all o e=some true) (he:arow P n o e=some e1):StepSem P n all o e e1:=by
 intro bs M O a w h K Q hK;rw[js h hw];simp only[if_true];exact Xt (qdg h he) hK
theorem qeR {all:List Oper} {o:Oper} {e e1:Env} (hw:awanted all o e=some true) (he:aagr P n o e=some e1):StepSem P n all o e e1:=by
 intro bs M O a w h K Q hK;rw[js h hw];simp only[if_true];exact Xt (qdi h he) hK
theorem qdN {all:List Oper} {o:Oper} {e e1:Env} {x:AV} (hw:awanted all o e=some true) (hx:apure P o e=some x) (he:eput n o.dst x e=some e1):StepSem P n all o e e1:=by
 intro bs M O a w h K Q hK;rw[js h hw];simp only[if_true];exact Xt (Zu h hx he) hK
theorem Ve (h:Inv bs n M O env a w) {d:Option Nat} {x:AV} {v:Value} (hv:ValOk O M w x v) (hd:∀ t,d=some t→t<n):Inv bs n M O (insO d x env) (a.put d v) w:=by
 cases d with
 | none=>exact h
 | some t=>exact h.put (hd t rfl) hv
theorem Qc {d:Option Nat} {x:AV} {e e1:Env} (he:eput n d x e=some e1):e1=insO d x e∧(∀ t,d=some t→t<n)∧∀ t,d=some t→∀ y,look e t=some y→y.ent=false:=by
 cases d with
 | none=>cases he;exact⟨rfl,(fun t e=>by cases e),(fun t e=>by cases e)⟩
 | some t =>
  obtain⟨h1,h2,h3⟩:=YF he;exact⟨h2,(fun t' e=>by cases e;exact h1),fun t' e y hy=>by cases e;exact h3 y hy⟩
theorem UA {all:List Oper} {o:Oper} {e:Env} {f:Nat} {args:List AV} {r:AV} (hc:acallee P o e=some (f,args)) (hr:CallOk P f args r) (h:Inv bs n M O e a w) {K:Act→World→Prop} {Q:Exit→Act→World→Prop}
  (hK:∀ v w' M',Inv bs n M' O e a w'→R M' r v→OwnR M' w.heap.size w' r v→(∀ i c g,O i c=some g→g<w.heap.size)→(∀ g,w.heap.size≤g→¬ bs.D g)→K (a.put o.dst v) w'):o.wp P a w K Q:=by
 obtain⟨vs,h1,h2,h3⟩:=qaR h hc;unfold Oper.wp;rw[h1];show Calls P f vs.toArray w _;refine (hr M w vs h.glob h.cons h2 h3).mono ?_
 rintro ed w' ⟨v,M',rfl,hb,hs,hC,ho,hR,hO⟩
 exact hK v w' M' (h.grown (row:=none) (fun g e=>by cases e) (NC hb) hs hC (fun b o hb _=>ho b o hb)) hR hO (fun i c g hg=>(h.own i c g hg).2) (fun g hg=>h.fresh hg)
theorem Nz {all:List Oper} {o:Oper} {e:Env} {f:Nat} {args:List AV} {r:AV} (hc:QI P o e=some (f,args)) (hp:r.plain=true) (hr:CallOk P f args r) (h:Inv bs n M O e a w) {K:Act→World→Prop} {Q:Exit→Act→World→Prop}
  (hK:∀ v w',Inv bs n M O e a w'→R M r v→K (a.put o.dst v) w'):o.wp P a w K Q:=by
 obtain⟨vs,h1,h2,h3⟩:=De h hc;unfold Oper.wp;rw[h1];show Calls P f vs.toArray w _;refine (hr _ w vs (h.glob.mono (Xd h)) (qek h) h2 h3).mono ?_
 rintro ed w' ⟨v,M',rfl,hb,hs,hC,ho,hR,hO⟩
 exact hK v w' (h.grown (row:=none) (fun g e=>by cases e) (NC hb) (Sub.refl M) (fun b o u hu=>hC b o u (hs b o u (Xd h b o u hu))) (fun b o hb _=>rfl)) (qfW hp hR)
theorem XD (x:AV):x.strip.lab? = none:=by cases x <;> rfl
theorem qcn {all:List Oper} {o:Oper} {e e1:Env} {f:Nat} {args:List AV} {r:AV} (hw:awanted all o e=some true) (hc:QI P o e=some (f,args)) (hp:r.plain=true) (hr:CallOk P f args r) (he:eput n o.dst r e=some e1):StepSem P n all o e e1:=by
 intro bs M O a w h K Q hK;rw[js h hw];simp only[if_true]
 exact Nz (all:=all) hc hp hr h fun v w' h' hR=>hK _ _ _ _ (XA h' (Jl hR (Dz hp)) he)
theorem qdO {draw:Bool} {all:List Oper} {o:Oper} {e e1:Env} {f:Nat} {args:List AV} {r:AV} (hw:awanted all o e=some true) (hc:acallee P o e=some (f,args)) (hr:CallOk P f args r) (he:callPut n draw o.dst r e=some e1):StepSem P n all o e e1:=by
 intro bs M O a w h K Q hK;rw[js h hw];simp only[if_true]
 refine UA (all:=all) hc hr h fun v w' M' h' hR hO hlt hB=>?_
 have plain:eput n o.dst r.strip e=some e1→K (a.put o.dst v) w':=fun he=>hK _ _ _ _ (XA h' (Jl hR.strip (XD r)) he)
 unfold callPut at he;split at he
 ·split at he
  ·exact plain he
  ·cases he
 ·split at he
  ·rename_i c hl
   cases r with
   | lst el k lab xs =>
    cases lab with
    | none=>cases hl
    | some c' =>
     simp only[AV.strip]at he plain
     cases hd:o.dst with
     | none=>rw[hd]at he plain;exact plain he
     | some d =>
      rw[hd]at he plain;simp only[fresh]at he;split at he
      ·exact plain he
      ·rename_i hlab;obtain⟨hdn,rfl⟩:=YG he
       have hput:∃ O',Inv bs n M' O' (ins d (.lst el k (some d) xs) e) (a.put (some d) v) w':=by
        rcases hO with hv | ⟨g,off,cap,cur,q1,q2,q3,q4,q5,q6,q7⟩
        ·exact h'.putFresh (g:=0) (off:=0) (cap:=0) (cur:=#[]) hdn hlab hR.setLab (.inl hv)
        ·exact h'.putFresh hdn hlab hR.setLab (.inr ⟨q1,hB g q2,fun i c hc=>by have:=hlt i c _ hc;omega,q3,q4,q5,q6,q7⟩)
       obtain⟨O',hput⟩:=hput;exact hK _ _ _ _ hput
   | _=>cases hl
  ·exact plain he
end
end Go.AM
namespace Go.AM
open Go.RowKit
section
variable {n:Nat} {P:Program}
def Knows (e E:Env) (xs:List Operand):Prop:=∀ x,x∈xs→∀ v,aop e x=some v→aop E x=some v
theorem qeX (x:AV):x.sk.ent=x.ent:=by cases x <;> rfl
theorem qdj {x:AV} (h:x.ent=false):x.sk=x:=by cases x <;> first | rfl | cases h
theorem qeG {e E:Env} {t:Nat} {v:AV} (h:∀ y,lookS e t=some y→lookS E t=some y) (hv:aop e (.tmp t)=some v):aop E (.tmp t)=some v:=by
 simp only[aop]at hv ⊢
 cases hl:look e t with
 | none=>rw[hl]at hv;cases hv
 | some y =>
  have:=h y.sk (by simp[lookS,hl]);simp only[lookS]at this
  cases hL:look E t with
  | none=>rw[hL]at this;cases this
  | some Y =>
   rw[hL]at this;simp only[D6,Option.some.injEq]at this;rw[hl]at hv
   cases y <;> cases Y <;> simp only[AV.sk]at this <;> first | (cases this;exact hv) | (cases this;done) | exact hv | (simp at hv;done)
theorem qfp {e E:Env} {ts:List Nat} (h:∀ t,t∈ts→∀ y,lookS e t=some y→lookS E t=some y) {xs:List Operand} (hx:∀ x t,x∈xs→x=.tmp t→t∈ts):Knows e E xs:=by
 intro x hxm v hv
 cases x with
 | tmp t=>exact qeG (h t (hx _ t hxm rfl)) hv
 | _=>exact hv
theorem Ym {e E:Env}:∀ {xs:List Operand} {l:List AV},Knows e E xs→optAll (xs.map (aop e))=some l→optAll (xs.map (aop E))=some l
 | [],l,_,h=>h
 | x::xs,l,hk,h=>by
  simp only[A2]at h ⊢
  cases hx:aop e x with
  | none=>rw[hx]at h;cases h
  | some v =>
   rw[hx]at h;rw[hk x (A6 ..) v hx];simp only[optAll]at h ⊢;split at h
   ·rename_i l' hl';rw[Ym (fun y hy=>hk y (B3 _ hy)) hl'];exact h
   ·cases h
theorem Va {e E:Env}:∀ {ps:List (Nat×Operand)} {l:List (Nat×AV)},Knows e E (ps.map (·.2)) →
  optAll (ps.map fun p=>match aop e p.2 with | some v=>some (p.1,v) | none=>none)=some l→optAll (ps.map fun p=>match aop E p.2 with | some v=>some (p.1,v) | none=>none)=some l
 | [],l,_,h=>h
 | (i,x)::ps,l,hk,h=>by
  simp only[A2]at h ⊢ hk
  cases hx:aop e x with
  | none=>rw[hx]at h;cases h
  | some v =>
   rw[hx]at h;rw[hk x (A6 ..) v hx];simp only[optAll]at h ⊢;split at h
   ·rename_i l' hl';rw[Va (fun y hy=>hk y (B3 _ hy)) hl'];exact h
   ·cases h
theorem YV {e E:Env} {d:Int} {x:Option Operand} (hk:Knows e E x.toList) {m:Int} (h:aoptInt e d x=some m):aoptInt E d x=some m:=by
 cases x with
 | none=>exact h
 | some y =>
  simp only[aoptInt]at h ⊢;split at h
  ·rename_i k m' hy;rw[hk y (by simp) _ hy];exact h
  ·cases h
theorem qcf {e E:Env} {t:TypeId} {p r:AV} (hb:EA e E) (h:aload P e t p=some r):aload P E t p=some r:=by
 unfold aload at h ⊢;split at h
 ·rename_i s off;split at h
  ·rename_i cs hl;simp only[hb s _ rfl hl];exact h
  ·rename_i cs hl;simp only[hb s _ rfl hl];exact h
  ·rename_i ks cs hl;simp only[hb s _ rfl hl];exact h
  ·cases h
 ·exact h
 ·rename_i id k j o;split at h
  ·rename_i e' k' xs hl;simp only[hb id _ rfl hl];exact h
  ·cases h
 ·cases h
theorem Dc {e E:Env} {m:AV} {q:List AV×List AV} (hb:EA e E) (h:Ye e m=some q):Ye E m=some q:=by
 unfold Ye at h ⊢;split at h
 ·exact h
 ·rename_i id;split at h
  ·rename_i ks vs hl;simp only[hb id _ rfl hl];exact h
  ·cases h
 ·cases h
theorem Di {e E:Env} {t:TypeId} {m k r:AV} (hb:EA e E) (h:alookup P t e m k=some r):alookup P t E m k=some r:=by
 unfold alookup at h ⊢;split at h
 ·rename_i kt et ks vs ht he;simp only[ht,Dc hb he];exact h
 ·cases h
theorem qaV {e E:Env} {t:TypeId} {p r:AV} {lo hi:Option Operand} (hk:Knows e E (lo.toList++hi.toList)) (h:aslice P t p lo hi e=some r):aslice P t p lo hi E=some r:=by
 have h1:∀ d m,aoptInt e d lo=some m→aoptInt E d lo=some m:=fun d m=>YV fun x hx=>hk x (D8 _ hx)
 have h2:∀ d m,aoptInt e d hi=some m→aoptInt E d hi=some m:=fun d m=>YV fun x hx=>hk x (D7 _ hx)
 unfold aslice at h ⊢;split at h
 ·split at h
  ·split at h
   ·split at h
    ·rename_i l m hl hm;simp only[h1 _ _ hl,h2 _ _ hm];simp_all
    ·cases h
   ·cases h
  ·cases h
 ·split at h
  ·split at h
   ·split at h
    ·rename_i l m hl hm;simp only[h1 _ _ hl,h2 _ _ hm];simp_all
    ·cases h
   ·cases h
  ·cases h
 ·split at h
  ·split at h
   ·rename_i l m hl hm;simp only[h1 _ _ hl,h2 _ _ hm];simp_all
   ·cases h
  ·cases h
 ·split at h
  ·split at h
   ·rename_i l m hl hm;simp only[h1 _ _ hl,h2 _ _ hm];simp_all
   ·cases h
  ·cases h
 ·cases h
theorem Vn {e E:Env} {o:Oper} {x:AV} (hk:Knows e E o.op.operands.toList) (hb:memFree o.op=true∨EA e E) (h:apure P o e=some x):apure P o E=some x:=by
 obtain⟨dst,op,ty,pos,after,guard⟩:=o
 cases op with
 | move y=>exact hk y (by simp[Op.operands]) _ h
 | assign y=>exact hk y (by simp[Op.operands]) _ h
 | pick c p q =>
  simp only[apure]at h ⊢;split at h
  ·rename_i hc;rw[hk c (by simp[Op.operands]) _ hc];exact hk p (by simp[Op.operands]) _ h
  ·rename_i hc;rw[hk c (by simp[Op.operands]) _ hc];exact hk q (by simp[Op.operands]) _ h
  ·cases h
 | binOp op t y z t' =>
  simp only[apure]at h ⊢;split at h
  ·rename_i p q hp hq;rw[hk y (by simp[Op.operands]) _ hp,hk z (by simp[Op.operands]) _ hq];exact h
  ·cases h
 | unOp op t y =>
  simp only[apure]at h ⊢;split at h
  ·rename_i p hp;rw[hk y (by simp[Op.operands]) _ hp];exact h
  ·cases h
 | convert s t y =>
  simp only[apure]at h ⊢;split at h
  ·rename_i p hp;rw[hk y (by simp[Op.operands]) _ hp];exact h
  ·cases h
 | build t ps =>
  simp only[apure]at h ⊢;split at h
  ·rename_i l hl;have:parts? E ps=some l:=Va (by simpa[Op.operands] using hk) hl;rw[this];exact h
  ·cases h
 | buildSlice t m ps =>
  simp only[apure]at h ⊢;split at h
  ·rename_i l hl;have:parts? E ps=some l:=Va (by simpa[Op.operands] using hk) hl;rw[this];exact h
  ·cases h
 | load t y =>
  simp only[apure]at h ⊢;split at h
  ·rename_i p hp;rw[hk y (by simp[Op.operands]) _ hp]
   rcases hb with hb | hb
   ·cases hb
   ·exact qcf hb h
  ·cases h
 | fieldAddr t y f =>
  simp only[apure]at h ⊢;split at h
  ·rename_i p hp;rw[hk y (by simp[Op.operands]) _ hp];exact h
  ·cases h
 | field t y f =>
  simp only[apure]at h ⊢;split at h
  ·rename_i cs o' ft sz hp hf;rw[hk y (by simp[Op.operands]) _ hp,hf];exact h
  ·rename_i cs o' ft sz hp hf;rw[hk y (by simp[Op.operands]) _ hp,hf];exact h
  ·cases h
 | indexAddr t y i =>
  simp only[apure]at h ⊢;split at h
  ·rename_i p q hp hq;rw[hk y (by simp[Op.operands]) _ hp,hk i (by simp[Op.operands]) _ hq];exact h
  ·cases h
 | index t y i =>
  simp only[apure]at h ⊢;split at h
  ·rename_i p q hp hq;rw[hk y (by simp[Op.operands]) _ hp,hk i (by simp[Op.operands]) _ hq];exact h
  ·cases h
 | slice t y lo hi mx =>
  cases mx with
  | some mx =>
   cases hi with
   | none=>simp[apure]at h
   | some hi =>
    simp only[apure]at h ⊢;split at h
    case h_2=>cases h
    rename_i e0 k0 lab xs k2 m hp hm;simp only[hk y (by simp[Op.operands]) _ hp,hk mx (by simp[Op.operands]) _ hm];split at h
    case h_2=>cases h
    rename_i e' k' hse;split at h
    case h_2=>cases h
    rename_i l k1 c hkk hl hh;simp only[hse,hkk,YV (E:=E) (fun z hz=>hk z (by simp[Op.operands]at hz ⊢;exact .inr (.inl hz))) hl,hk hi (by simp[Op.operands]) _ hh];exact h
  | none =>
   simp only[apure]at h ⊢;split at h
   ·rename_i p hp;rw[hk y (by simp[Op.operands]) _ hp];refine qaV (fun z hz=>hk z ?_) h;simp only[Op.operands];simp at hz ⊢
    rcases hz with hz | hz
    ·exact .inr (.inl hz)
    ·exact .inr (.inr hz)
   ·cases h
 | lookup t y k c =>
  cases c with
  | true=>simp[apure]at h
  | false =>
   have hb:EA e E:=by
    rcases hb with hb | hb
    ·simp[memFree]at hb
    ·exact hb
   simp only[apure]at h ⊢;split at h
   ·rename_i p q hp hq;rw[hk y (by simp[Op.operands]) _ hp,hk k (by simp[Op.operands]) _ hq];simp only;rw[Option.map_eq_some_iff]at h ⊢;obtain⟨r,hr,e1⟩:=h;exact⟨r,Di hb hr,e1⟩
   ·cases h
 | entry y =>
  have hb:EA e E:=by
   rcases hb with hb | hb
   ·simp[memFree]at hb
   ·exact hb
  simp only[apure]at h ⊢;split at h
  ·rename_i id hp;rw[hk y (by simp[Op.operands]) _ hp];simp only;split at h
   ·rename_i k ks v vs hl;simp only[hb id _ rfl hl];exact h
   ·cases h
  ·cases h
 | makeFunc fn first caps =>
  cases fn <;> simp only[apure]at h ⊢ <;> try (cases h;done)
  split at h
  ·rename_i l hf hl;rw[Ym (fun z hz=>hk z (by simp[Op.operands];exact .inr (by simpa using hz))) hl];simp only[hf];exact h
  ·cases h
 | extract y i =>
  simp only[apure]at h ⊢;split at h
  ·rename_i vs hp;rw[hk y (by simp[Op.operands]) _ hp];exact h
  ·rename_i id e' k off m rest hp;rw[hk y (by simp[Op.operands]) _ hp];exact h
  ·cases h
 | nilCheck y =>
  simp only[apure]at h ⊢;split at h
  ·rename_i z hp;rw[hk y (by simp[Op.operands]) _ hp];exact h
  ·rename_i b z hp;rw[hk y (by simp[Op.operands]) _ hp];exact h
  ·rename_i s m hp;rw[hk y (by simp[Op.operands]) _ hp];exact h
  ·cases h
 | call c =>
  obtain⟨callee,args,ats⟩:=c
  cases callee with
  | value f=>simp[apure]at h
  | invoke r m=>simp[apure]at h
  | builtin b =>
   have hka:∀ y,y∈args.toList→∀ v,aop e y=some v→aop E y=some v:=fun y hy=>hk y (by simp[Op.operands,Call.operands];simpa using hy)
   cases b <;> simp only[apure]at h ⊢ <;> try (cases h;done)
   case len =>
    split at h
    ·rename_i y t ha ht;split at h
     ·rename_i p hp;rw[hka y (by rw[ha];simp) _ hp];exact h
     ·cases h
    ·cases h
   case max =>
    split at h
    ·rename_i y z ha;split at h
     ·rename_i k p k' q hp hq;rw[hka y (by rw[ha];simp) _ hp,hka z (by rw[ha];simp) _ hq];exact h
     ·cases h
    ·cases h
   case min =>
    split at h
    ·rename_i y z ha;split at h
     ·rename_i k p k' q hp hq;rw[hka y (by rw[ha];simp) _ hp,hka z (by rw[ha];simp) _ hq];exact h
     ·cases h
    ·cases h
 | _=>simp[apure]at h
theorem Dj {e E:Env} {o:Oper} {f:Nat} {args:List AV} (hk:Knows e E o.op.operands.toList) (h:acallee P o e=some (f,args)):acallee P o E=some (f,args):=by
 unfold acallee at h ⊢;split at h
 case h_2=>cases h
 rename_i fo as ats ho;rw[ho]at hk;split at h
 case h_2=>cases h
 rename_i g caps l hf hl;have h1:=hk fo (by simp[Op.operands,Call.operands]) _ hf;have h2:=Ym (E:=E) (fun z hz=>hk z (by simp[Op.operands,Call.operands];exact .inr (by simpa using hz))) hl;simp only[h1,h2];exact h
theorem Jk {all:List Oper} {e E:Env} {o:Oper} {b:Bool} (hk:NA all o e E) (h:awanted all o e=some b):awanted all o E=some b:=by
 unfold awanted at h ⊢;split at h
 ·exact h
 ·rename_i j want hg;split at h
  ·cases h
  ·rename_i t ht
   have hmem:t∈namesOf all.toArray o:=by
    unfold namesOf;rw[hg];refine D7 _ ?_
    have ht':(all.toArray[j]?.bind fun x=>x.dst)=some t:=by simpa using ht
    simp only[ht'];simp
   have key:∀ y,y.ent=false→look e t=some y→look E t=some y:=by
    intro y hy hl;have:=hk t hmem y (by simp[lookS,hl,qdj hy]);simp only[lookS]at this
    cases hL:look E t with
    | none=>rw[hL]at this;cases this
    | some Y =>
     rw[hL]at this;simp only[D6,Option.some.injEq]at this
     have hY:Y.ent=false:=by rw[← qeX,this];exact hy
     rw[qdj hY]at this;rw[this]
   split at h
   ·rename_i c hl;simp only[ht,key _ rfl hl];exact h
   ·rename_i hl;simp only[ht,key _ rfl hl];exact h
   ·cases h
theorem Qp {all:List Oper} {e E:Env} {o:Oper} (hk:NA all o e E):Knows e E o.op.operands.toList:=by
 refine qfp hk fun x t hx ht=>?_
 subst ht;unfold namesOf;refine D8 _ (D7 _ ?_);exact List.mem_filterMap.2 ⟨_,hx,rfl⟩
theorem qfe {all:List Oper} {o:Oper} {e e1:Env} {x:AV} (hw:awanted all o e=some true) (hx:apure P o e=some x) (he:eput n o.dst x e=some e1) (hnb:x.ent=false):Pure1 P n all o e e1:=by
 refine⟨x,he,hnb,fun E hk hb=>?_⟩;obtain⟨_,hd,_⟩:=Qc he;intro bs M O a w h K Q hK;rw[js h (Jk hk hw)];simp only[if_true];obtain⟨v,w',M',h1,h2,h3,h4,h5,h6⟩:=VR h (Vn (Qp hk) hb hx);have h':=h.grown (row:=none) (fun g e=>by cases e) h2 h3 h4 (fun b o hb _=>h5 b o hb);unfold Oper.wp;rw[h1];exact hK _ _ _ _ (Ve h' h6 hd)
theorem Dy {all:List Oper} {o:Oper} {e e1:Env} (hw:awanted all o e=some false) (he:eput n o.dst .und e=some e1):Pure1 P n all o e e1:=by
 refine⟨.und,he,rfl,fun E hk hb=>?_⟩;obtain⟨_,hd,_⟩:=Qc he;intro bs M O a w h K Q hK;rw[js h (Jk hk hw)];simp only[Bool.false_eq_true,if_false];exact hK _ _ _ _ (Ve h (x:=.und) ⟨.und,trivial⟩ hd)
theorem qcF {all:List Oper} {o:Oper} {e e1:Env} {f:Nat} {args:List AV} {r:AV} (hw:awanted all o e=some true) (hc:acallee P o e=some (f,args)) (hr:CallOk P f args r) (he:callPut n true o.dst r e=some e1):Pure1 P n all o e e1:=by
 have he':notBox r.strip=true∧eput n o.dst r.strip e=some e1:=by
  unfold callPut at he;simp only at he;split at he
  ·rename_i hb;exact⟨hb,he⟩
  ·cases he
 obtain⟨hnb,he⟩:=he';refine⟨r.strip,he,by simpa[notBox] using hnb,fun E hk hb=>?_⟩;obtain⟨_,hd,_⟩:=Qc he;intro bs M O a w h K Q hK;rw[js h (Jk hk hw)];simp only[if_true]
 exact UA (all:=all) (Dj (Qp hk) hc) hr h fun v w' M' h' hR _ _ _=>hK _ _ _ _ (Ve h' (Jl hR.strip (XD r)) hd)
theorem qeF {e E:Env} (hb:EA e E) {x y:AV} (h:asnapC e x=some y):asnapC E x=some y:=by
 unfold asnapC at h ⊢;split at h
 ·rename_i id;split at h
  ·rename_i ks vs hl;simp only[hb id _ rfl hl];exact h
  ·cases h
 ·rename_i id e' k off m;split at h
  ·rename_i e2 k2 xs hl;simp only[hb id _ rfl hl];exact h
  ·cases h
 ·exact h
theorem Zw {e E:Env} (hb:EA e E):∀ {caps l:List AV},optAll (caps.map (asnapC e))=some l→optAll (caps.map (asnapC E))=some l
 | [],l,h=>h
 | x::xs,l,h=>by
  simp only[A2]at h ⊢
  cases hx:asnapC e x with
  | none=>rw[hx]at h;cases h
  | some v =>
   rw[hx]at h;rw[qeF hb hx];simp only[optAll]at h ⊢;split at h
   ·rename_i l' hl';rw[Zw hb hl'];exact h
   ·cases h
theorem qah {e E:Env} (hb:EA e E) {x y:AV} (h:asnapP e x=some y):asnapP E x=some y:=by
 unfold asnapP at h ⊢;split at h
 ·exact h
 ·rename_i s;split at h
  ·rename_i c hl;simp only[hb s _ rfl hl];exact h
  ·rename_i cs hne hl;simp only[hb s _ rfl hl];exact h
  ·rename_i cs hl;simp only[hb s _ rfl hl];split at h
   ·rename_i c hl';rw[Zw hb hl'];exact h
   ·rename_i l hne hl';rw[Zw hb hl']
    cases l with
    | nil=>exact h
    | cons c l=>cases l with
     | nil=>exact absurd rfl (hne c)
     | cons c2 l=>exact h
   ·cases h
  ·cases h
 ·cases h
theorem Hg {e E:Env} (hb:EA e E):∀ {caps l:List AV},optAll (caps.map (asnapP e))=some l→optAll (caps.map (asnapP E))=some l
 | [],l,h=>h
 | x::xs,l,h=>by
  simp only[A2]at h ⊢
  cases hx:asnapP e x with
  | none=>rw[hx]at h;cases h
  | some v =>
   rw[hx]at h;rw[qah hb hx];simp only[optAll]at h ⊢;split at h
   ·rename_i l' hl';rw[Hg hb hl'];exact h
   ·cases h
theorem qfI {e E:Env} (hb:EA e E) {x y:AV} (h:asnap e x=some y):asnap E x=some y:=by
 cases x with
 | mb kd id =>
  cases kd with
  | succ kd=>simp[asnap]at h
  | zero =>
   simp only[asnap]at h ⊢;split at h
   ·rename_i ks vs hl;simp only[hb id _ rfl hl];exact h
   ·cases h
 | clb f caps =>
  simp only[asnap]at h ⊢;split at h
  ·rename_i l hl;rw[Hg hb hl];exact h
  ·cases h
 | sb id e' k off m =>
  simp only[asnap]at h ⊢;split at h
  ·rename_i e2 k2 xs hl;simp only[hb id _ rfl hl];exact h
  ·cases h
 | pb s o =>
  simp only[asnap]at h ⊢;exact qah hb h
 | agr cs =>
  simp only[asnap]at h ⊢;split at h
  ·rename_i l hl;rw[Zw hb hl];exact h
  ·cases h
 | _=>first | exact h | cases h
theorem HJ {e E:Env} {o:Oper} {f:Nat} {args:List AV} (hk:Knows e E o.op.operands.toList) (hb:EA e E) (h:QI P o e=some (f,args)):QI P o E=some (f,args):=by
 unfold QI at h ⊢;split at h
 case h_2=>cases h
 rename_i fo as ats ho;rw[ho]at hk;split at h
 case h_2=>cases h
 rename_i g caps l hf hl;have h1:=hk fo (by simp[Op.operands,Call.operands]) _ hf;have h2:=Ym (E:=E) (fun z hz=>hk z (by simp[Op.operands,Call.operands];exact .inr (by simpa using hz))) hl;simp only[h1,h2];split at h
 case h_2=>cases h
 rename_i fn hfn;split at h
 case h_2=>cases h
 rename_i l' hb' hl'
 have h3:∀ {l l':List AV},optAll (l.map (asnap e))=some l'→optAll (l.map (asnap E))=some l':=by
  intro l
  induction l with
  | nil=>intro l' h;exact h
  | cons x l ih =>
   intro l' h;simp only[A2]at h ⊢
   cases hx:asnap e x with
   | none=>rw[hx]at h;cases h
   | some v =>
    rw[hx]at h;rw[qfI hb hx];simp only[optAll]at h ⊢;split at h
    ·rename_i l2 hl2;rw[ih hl2];exact h
    ·cases h
 simp only[hfn,hb',h3 hl'];exact h
theorem qea {x:AV} (hp:x.plain=true):x.ent=false:=by cases x <;> first | rfl | cases hp
theorem qbv {all:List Oper} {o:Oper} {e e1:Env} {f:Nat} {args:List AV} {r:AV} (hw:awanted all o e=some true) (hc:QI P o e=some (f,args)) (hp:r.plain=true) (hr:CallOk P f args r) (he:eput n o.dst r e=some e1):Pure1 P n all o e e1:=by
 have hmf:memFree o.op=false:=by
  unfold QI at hc;split at hc
  case h_2=>cases hc
  rename_i fo as ats ho;rw[ho];rfl
 refine⟨r,he,qea hp,fun E hk hb=>?_⟩
 rcases hb with hb | hb
 ·rw[hmf]at hb;cases hb
 obtain⟨_,hd,_⟩:=Qc he;intro bs M O a w h K Q hK;rw[js h (Jk hk hw)];simp only[if_true]
 exact Nz (all:=all) (HJ (Qp hk) hb hc) hp hr h fun v w' h' hR=>hK _ _ _ _ (Ve h' (Jl hR (Dz hp)) hd)
theorem qcD {s off:Nat} {vs:List AV} {e e1:Env} (h:putRow s e off vs=some e1):∃ y y':AV,look e s=some y∧y.ent=true∧y'.ent=true∧y'.sk=y.sk∧e1=ins s y' e∧∀ E,look E s=some y→putRow s E off vs=some (ins s y' E):=by
 unfold putRow at h;split at h
 ·cases h
 rename_i h1;split at h
 case h_3=>cases h
 case h_2 =>
  rename_i ks cs hl;split at h
  case h_2=>cases h
  rename_i h2;cases h;refine⟨_,.hob 3 ks (cs.take off++vs.map AV.strip++cs.drop (off+vs.length)),hl,rfl,rfl,rfl,rfl,fun E hE=>?_⟩;unfold putRow;simp only[h1,hE,h2]
 rename_i cs hl;split at h
 case h_2=>cases h
 rename_i h2;cases h;refine⟨_,.box (cs.take off++vs.map AV.strip++cs.drop (off+vs.length)),hl,rfl,rfl,rfl,rfl,fun E hE=>?_⟩;unfold putRow;simp only[h1,hE,h2]
theorem qbu {s off:Nat} {v:AV} {e e1:Env} (h:putCell s e off v=some e1):∃ y y':AV,look e s=some y∧y.ent=true∧y'.ent=true∧y'.sk=y.sk∧e1=ins s y' e∧(∀ cs,y≠.bxg cs)∧∀ E,look E s=some y→putCell s E off v=some (ins s y' E):=by
 unfold putCell at h;split at h
 ·cases h
 rename_i h1;split at h
 case h_3=>cases h
 case h_2 =>
  rename_i ks cs hl;split at h
  case h_2=>cases h
  rename_i h2;cases h;refine⟨_,.hob 3 ks (cs.set off v.strip),hl,rfl,rfl,rfl,rfl,fun _ e=>(by cases e),fun E hE=>?_⟩;unfold putCell;simp only[h1,hE,h2]
 rename_i cs hl;split at h
 case h_2=>cases h
 rename_i h2;cases h;refine⟨_,.box (cs.set off v),hl,rfl,rfl,rfl,rfl,fun _ e=>(by cases e),fun E hE=>?_⟩;unfold putCell;simp only[h1,hE,h2]
theorem qcE {id k j off:Nat} {vs:List AV} {e e1:Env} (h:putObj id k j e off vs=some e1):∃ x x':AV,look e id=some x∧x.ent=true∧x'.ent=true∧x'.sk=x.sk∧e1=ins id x' e∧∀ E,look E id=some x→putObj id k j E off vs=some (ins id x' E):=by
 unfold putObj at h;split at h
 case h_2=>cases h
 rename_i e' k' xs hl;split at h
 case h_2=>cases h
 rename_i hk;split at h
 case h_2=>cases h
 rename_i y hy;split at h
 case h_2=>cases h
 rename_i y' hy';cases h;refine⟨_,.obj e' k (xs.set j y'),hl,rfl,rfl,rfl,rfl,fun E hE=>?_⟩;unfold putObj;simp only[hE,hk,hy,hy']
theorem Hd {s off:Nat} {v:AV} {e e1:Env} (h:putG s e off v=some e1):∃ y y',look e s=some y∧y.ent=true∧y'.ent=true∧y'.sk=y.sk∧e1=ins s y' e∧∀ E,look E s=some y→putG s E off v=some (ins s y' E):=by
 unfold putG at h;split at h
 ·cases h
 rename_i h0;split at h
 ·rename_i cs hl;split at h
  case h_2=>cases h
  rename_i hc;cases h;exact⟨_,.bxg ((cs.map AV.strip).set off v.strip),hl,rfl,rfl,rfl,rfl,fun E hE=>by unfold putG;simp only[h0,hE,hc]⟩
 ·rename_i cs hl;split at h
  case h_2=>cases h
  rename_i hc;cases h;exact⟨_,.bxg (cs.set off v.strip),hl,rfl,rfl,rfl,rfl,fun E hE=>by unfold putG;simp only[h0,hE,hc]⟩
 ·cases h
theorem qdP {all:List Oper} {o:Oper} {e e1:Env} (hw:awanted all o e=some true) (hs:isStore o.op=true) (he:astep P n o e=some e1):St1 P n all o e e1:=by
 cases hop:o.op with
 | store t p x =>
  have he0:=he;unfold astep at he;rw[hop]at he;simp only at he
  have fin:∀ (s:Nat) (y y':AV),o.dst=none→look e s=some y→y.ent=true→y'.ent=true→y'.sk=y.sk→e1=ins s y' e→(∀ E,NA all o e E→look E s=some y→astep P n o E=some (ins s y' E))→St1 P n all o e e1:=by
   intro s y y' hd h1 h2 h3 h4 h5 h6;refine⟨hs,hd,s,y,y',h1,h2,h3,h4,h5,fun E hk hE=>?_⟩;exact Uf (Jk hk hw) (h6 E hk hE)
  have hka:∀ E,NA all o e E→∀ z v,z∈[p,x]→aop e z=some v→aop E z=some v:=by
   intro E hk z v hz hv;refine Qp hk z ?_ v hv;rw[hop]
   simpa[Op.operands] using hz
  split at he
  ·rename_i s off v sz hd hp hx hsz;split at he
   case h_2=>cases he
   rename_i hlen
   have one:∀ (v:AV),aop e x=some v→A1 v.cells.length sz=true→(∀ cs,v≠.agg cs)→(∀ id e' k o m,v≠.sb id e' k o m)→(∀ kd id,v≠.mb kd id)→(match look e s with | some (.bxg _)=>putG s e off v | _=>putCell s e off v)=some e1→St1 P n all o e e1:=by
    intro v hx hlen hna hnb hnm he;split at he
    ·rename_i cs0 hcs0;obtain⟨y,y',h1,h2,h2',h3,h4,h5⟩:=Hd he;rw[hcs0]at h1;cases h1
     refine fin s _ y' hd hcs0 h2 h2' h3 h4 fun E hk hE=>?_
     unfold astep;rw[hop];simp only[hd,hka E hk p _ (by simp) hp,hka E hk x _ (by simp) hx,hsz,hlen];have h6:=h5 E hE
     cases v <;> first | (simp only[hE];exact h6) | exact absurd rfl (hna _) | exact absurd rfl (hnb _ _ _ _ _) | exact absurd rfl (hnm _ _)
    obtain⟨y,y',h1,h2,h2',h3,h4',hny,h5⟩:=qbu he
    refine fin s y y' hd h1 h2 h2' h3 h4' fun E hk hE=>?_
    unfold astep;rw[hop];simp only[hd,hka E hk p _ (by simp) hp,hka E hk x _ (by simp) hx,hsz,hlen];have h4:=h5 E hE
    have h6:(match look E s with | some (.bxg _)=>putG s E off v | _=>putCell s E off v)=some (ins s y' E):=by
     rw[hE]
     cases y <;> first | exact h4 | exact absurd rfl (hny _)
    cases v <;> first | exact h6 | exact absurd rfl (hna _) | exact absurd rfl (hnb _ _ _ _ _) | exact absurd rfl (hnm _ _)
   cases v with
   | agg cs =>
    obtain⟨y,y',h1,h2,h2',h3,h4,h5⟩:=qcD he
    refine fin s y y' hd h1 h2 h2' h3 h4 fun E hk hE=>?_
    unfold astep;rw[hop];simp only[hd,hka E hk p _ (by simp) hp,hka E hk x _ (by simp) hx,hsz,hlen];exact h5 E hE
   | sb id e' k o2 m =>
    obtain⟨y,y',h1,h2,h2',h3,h4,h5⟩:=Hd he
    refine fin s y y' hd h1 h2 h2' h3 h4 fun E hk hE=>?_
    unfold astep;rw[hop];simp only[hd,hka E hk p _ (by simp) hp,hka E hk x _ (by simp) hx,hsz,hlen];exact h5 E hE
   | mb kd id =>
    obtain⟨y,y',h1,h2,h2',h3,h4,h5⟩:=Hd he
    refine fin s y y' hd h1 h2 h2' h3 h4 fun E hk hE=>?_
    unfold astep;rw[hop];simp only[hd,hka E hk p _ (by simp) hp,hka E hk x _ (by simp) hx,hsz,hlen];exact h5 E hE
   | _=>exact one _ hx hlen (fun cs e=>by cases e) (fun _ _ _ _ _ e=>by cases e) (fun _ _ e=>by cases e) he
  ·rename_i id k j off v sz hd hp hx hsz;split at he
   case h_2=>cases he
   rename_i hlen;obtain⟨y,y',h1,h2,h3,h4,h5,h6⟩:=qcE he
   refine fin id y y' hd h1 h2 h3 h4 h5 fun E hk hE=>?_
   unfold astep;rw[hop];simp only[hd,hka E hk p _ (by simp) hp,hka E hk x _ (by simp) hx,hsz,hlen];exact h6 E hE
  ·cases he
 | _=>rw[hop]at hs;cases hs
end
end Go.AM
namespace Go.AM
open Go.RowKit
section
variable {n:Nat} {P:Program}
theorem DT (acc:Array Nat):∀ (l:List Edge) (s i:Nat),(l.foldl (fun s e=>if A7 .any e then s ||| 2 ^ e.on ||| acc.getD e.on 0 else s) s).testBit i=true →
    s.testBit i=true∨∃ e,e∈l∧A7 .any e=true∧(i=e.on∨(acc.getD e.on 0).testBit i=true)
  | [],s,i,h=>.inl h
  | e::l,s,i,h=>by
    simp only[D1]at h
    rcases DT acc l _ i h with h1 | ⟨e',he',h1,h2⟩
    · split at h1
      · rename_i hb
        simp only[Nat.testBit_or,D2]at h1
        rcases h1 with (h1 | h1) | h1
        · exact .inl h1
        · refine .inr ⟨e,A6 ..,hb,.inl ?_⟩
          rw[Nat.testBit_two_pow]at h1
          simpa using (of_decide_eq_true h1).symm
        · exact .inr ⟨e,A6 ..,hb,.inr h1⟩
      · exact .inl h1
    · exact .inr ⟨e',B3 _ he',h1,h2⟩
def JE (acc:Array Nat) (o:Oper):Array Nat :=
  acc.push (o.after.foldl (fun s e=>if A7 .any e then s ||| 2 ^ e.on ||| acc.getD e.on 0 else s) 0)
theorem qag (all:List Oper):A4 all.toArray=all.foldl JE #[]:=by
  unfold A4;rw[← Array.foldl_toList];rfl
theorem YQ:∀ (l:List Oper) (acc:Array Nat),(l.foldl JE acc).size=acc.size+l.length
  | [],acc=>rfl
  | o::l,acc=>by
    simp only[D1,List.length_cons];rw[YQ l];simp[JE];omega
theorem Vk:∀ (l:List Oper) (acc:Array Nat) (j:Nat),j<acc.size→(l.foldl JE acc).getD j 0=acc.getD j 0
  | [],acc,j,h=>rfl
  | o::l,acc,j,h=>by
    simp only[D1];rw[Vk l _ j (by simp[JE];omega)];simp[JE,D9,Nat.ne_of_lt h]
theorem qeC (all:List Oper) {j:Nat} {o:Oper} (h:all[j]? = some o) :
    (all.foldl JE #[]).getD j 0=o.after.toList.foldl (fun s e=>if A7 .any e then s ||| 2 ^ e.on ||| ((all.take j).foldl JE #[]).getD e.on 0 else s) 0:=by
  have hj:=(List.getElem?_eq_some_iff.1 h).1
  have hsplit:all=all.take j++o::all.drop (j+1):=by
    have:=List.getElem?_eq_some_iff.1 h;rw[← this.2];simp
  have hs:((all.take j).foldl JE #[]).size=j:=by rw[YQ];simp;omega
  conv=>lhs;rw[hsplit]
  rw[List.foldl_append,D1,Vk _ _ j (by simp[JE,hs])];simp only[JE];rw[A9,D9,if_pos (by rw[hs])];simp
def Closed (all:List Oper) (S:Nat→Prop):Prop:=∀ j o,all[j]? = some o→S j→∀ e,e∈o.after.toList→A7 .any e=true→S e.on
theorem YU {all:List Oper} {S:Nat→Prop} (hc:Closed all S):∀ (j:Nat) (o:Oper),all[j]? = some o→(∀ e,e∈o.after.toList→A7 .any e=true→S e.on)→∀ i,((A4 all.toArray).getD j 0).testBit i=true→S i:=by
  intro j
  induction j using Nat.strongRecOn with
  | _ j ih =>
    intro o ho he i hi;rw[qag,qeC all ho]at hi
    rcases DT _ _ 0 i hi with h0 | ⟨e,hem,hb,h⟩
    · simp at h0
    · rcases h with rfl | h
      · exact he e hem hb
      · have hlt:e.on<j:=by
          refine A8 fun hle=>?_
          have hs:((all.take j).foldl JE #[]).size≤j:=by rw[YQ];simp;omega
          rw[A9,Array.getElem?_eq_none (by omega)]at h;simp at h
        have hj:=(List.getElem?_eq_some_iff.1 ho).1;have ho':all[e.on]? = some (all[e.on]'(by omega)):=A3 _;refine ih e.on hlt _ ho' (hc e.on _ ho' (he e hem hb)) i ?_;rw[qag];have h1:=Vk (all.drop j) ((all.take j).foldl JE #[]) e.on (by rw[YQ];simp;omega);rw[← List.foldl_append,List.take_append_drop]at h1;rw[h1];exact h
theorem YN {o:Op} (h:memFree o=true):isEff o=false:=by
  unfold memFree at h;unfold isEff
  split at h <;> first | rfl | cases h
theorem Do {o:Op} (h:isStore o=true):isEff o=true:=by
  cases o <;> first | rfl | cases h
def Free (x y:Op):Prop:=(isEff x=false∧isEff y=false)∨(isStore x=true∧memFree y=true)∨(memFree x=true∧isStore y=true)
theorem Uk {all:List Oper} (h:orderOk all.toArray=true) {i j:Nat} {x y:Oper} (hij:i<j) (hx:all[i]? = some x) (hy:all[j]? = some y) :
    ((A4 all.toArray).getD j 0).testBit i=true∨(Free x.op y.op∧(∀ d,x.dst=some d→d ∉ namesOf all.toArray y)∧(∀ d,y.dst=some d→d ∉ namesOf all.toArray x)):=by
  unfold orderOk at h;simp only[C7,List.mem_range]at h;have hj:=(List.getElem?_eq_some_iff.1 hy).1;have:=h j (by simpa using hj) i hij;simp only[D2]at this
  rcases this with h1 | h1
  · exact .inl h1
  · refine .inr ?_
    have hx':all.toArray[i]? = some x:=by simpa using hx
    have hy':all.toArray[j]? = some y:=by simpa using hy
    rw[hx',hy']at h1;simp only[D5,D2,B4]at h1;obtain⟨⟨h1,h3⟩,h4⟩:=h1;refine⟨?_,fun d hd hm=>?_,fun d hd hm=>?_⟩
    · rcases h1 with (⟨h1,h2⟩ | h1) | h1
      · exact .inl ⟨h1,h2⟩
      · exact .inr (.inl h1)
      · exact .inr (.inr h1)
    · rw[hd]at h3
      simp only[B4,List.any_eq_false]at h3;exact h3 d hm (by simp)
    · rw[hd]at h4
      simp only[B4,List.any_eq_false]at h4;exact h4 d hm (by simp)
theorem qdd {all rest:List Oper} {e e':Env} {draw:Bool} (h:Chain P n draw all rest e e') (hd:draw=true):∃ es:Nat→Env,es 0=e∧es rest.length=e'∧∀ i o,rest[i]? = some o→StepOk P n draw all o (es i) (es (i+1)):=by
  induction h with
  | @nil e=>exact⟨fun _=>e,rfl,rfl,fun i o h=>by simp at h⟩
  | drop e0 hf _ _ _=>rw[hf]at hd;cases hd
  | @step o rest e e1 e' hs _ ih =>
    obtain⟨es,h1,h2,h3⟩:=ih;refine⟨fun i=>match i with | 0=>e | i+1=>es i,rfl,h2,fun i o' ho=>?_⟩
    cases i with
    | zero=>simp at ho;subst ho;show StepOk P n draw all o e (es 0);rw[h1];exact hs
    | succ i=>exact h3 i o' (by simpa using ho)
variable {all:List Oper} {es:Nat→Env}
def Wr (all:List Oper) (i t:Nat):Prop:=∃ o,all[i]? = some o∧((isEff o.op=true∧isStore o.op=false)∨o.dst=some t)
def WrE (all:List Oper) (i:Nat):Prop:=∃ o,all[i]? = some o∧isEff o.op=true
theorem Yu {d:Option Nat} {x:AV} {E:Env} {t:Nat} (h:d≠some t):look (insO d x E) t=look E t:=by
  cases d with
  | none=>rfl
  | some s =>
    simp only[insO];rw[jh,if_neg (fun e=>h (by rw[e]))]
theorem Um {e:Env} {s t:Nat} {x x':AV} (hl:look e s=some x) (hk:x'.sk=x.sk):lookS (ins s x' e) t=lookS e t:=by
  unfold lookS;rw[jh];split
  · rename_i h;subst h
    rw[hl];simp[hk]
  · rfl
theorem stable (hes:∀ i o,all[i]? = some o→StepOk P n true all o (es i) (es (i+1))) {t:Nat} {i:Nat}:∀ j,i≤j→j≤all.length→(∀ k,i≤k→k<j→¬ Wr all k t)→lookS (es j) t=lookS (es i) t:=by
  intro j
  induction j with
  | zero =>
   intro h _ _;have:i=0:=by omega
   subst this;rfl
  | succ j ih =>
    intro h hl hw;by_cases hij:i=j+1
    · subst hij;rfl
    · have hlt:j<all.length:=by omega
      have ho:all[j]? = some all[j]:=A3 hlt;have hn:=hw j (by omega) (by omega);rw[← ih (by omega) (by omega) (fun k h1 h2=>hw k h1 (by omega))]
      rcases (hes j _ ho).2 rfl with he | ⟨_,_,s,x,x',hx,_,_,hk,e1,_⟩ | ⟨_,x,hx,_⟩
      · exact absurd ⟨_,ho,.inl he.1⟩ hn
      · rw[e1]
        exact Um hx hk
      · obtain⟨e1,_,_⟩:=Qc hx
        rw[e1];unfold lookS;rw[Yu fun e=>hn ⟨_,ho,.inr e⟩]
theorem Vy (e:Env):EA e e:=fun _ _ _ h=>h
theorem EA.trans {a b c:Env} (h:EA a b) (k:EA b c):EA a c:=fun s x hx hl=>k s x hx (h s x hx hl)
theorem qdF {d:Option Nat} {x:AV} {e e1:Env} (hx:x.ent=false) (he:eput n d x e=some e1):EA e e1∧EA e1 e:=by
  obtain⟨e1',_,hno⟩:=Qc he;subst e1'
  cases d with
  | none=>exact⟨Vy _,Vy _⟩
  | some t =>
    simp only[insO];refine⟨fun s y hy hl=>?_,fun s y hy hl=>?_⟩
    · rw[jh]
      split
      · rename_i h;subst h
        rw[hno s rfl y hl]at hy;cases hy
      · exact hl
    · rw[jh]at hl
      split at hl
      · cases hl
        rw[hx]at hy;cases hy
      · exact hl
theorem stableE (hes:∀ i o,all[i]? = some o→StepOk P n true all o (es i) (es (i+1))) {i:Nat}:∀ j,i≤j→j≤all.length→(∀ k,i≤k→k<j→¬ WrE all k)→EA (es i) (es j)∧EA (es j) (es i):=by
  intro j
  induction j with
  | zero =>
   intro h _ _;have:i=0:=by omega
   subst this;exact⟨Vy _,Vy _⟩
  | succ j ih =>
    intro h hl hw;by_cases hij:i=j+1
    · subst hij;exact⟨Vy _,Vy _⟩
    · have hlt:j<all.length:=by omega
      have ho:all[j]? = some all[j]:=A3 hlt;have hn:=hw j (by omega) (by omega);obtain⟨h1,h2⟩:=ih (by omega) (by omega) (fun k h1 h2=>hw k h1 (by omega))
      rcases (hes j _ ho).2 rfl with he | ⟨hs,_⟩ | ⟨_,x,hx,hxe,_⟩
      · exact absurd ⟨_,ho,he.1.1⟩ hn
      · exact absurd ⟨_,ho,Do hs⟩ hn
      · obtain⟨k1,k2⟩:=qdF hxe hx
        exact⟨h1.trans k1,k2.trans h2⟩
structure Match (all:List Oper) (es:Nat→Env) (S:Nat→Prop) (E:Env):Prop where
  s:∀ t j,j≤all.length→(∀ i,i<j→Wr all i t→S i)→(∀ i,j≤i→Wr all i t→¬ S i)→∀ y,lookS (es j) t=some y→lookS E t=some y
  e:∀ j,j≤all.length→(∀ i,i<j→WrE all i→S i)→(∀ i,j≤i→WrE all i→¬ S i)→EA (es j) E
end
end Go.AM
namespace Go.AM
open Go.RowKit
section
variable {n:Nat} {P:Program} {all:List Oper} {es:Nat→Env}
theorem qbH {S:Nat→Prop} (hes:∀ i o,all[i]? = some o→StepOk P n true all o (es i) (es (i+1))) (hS:∀ i,i<all.length→¬ S i):Match all es S (es 0):=by
 refine⟨fun t j hj h1 h2 y hy=>?_,fun j hj h1 h2=>?_⟩
 ·rw[← stable hes (i:=0) j (Nat.zero_le _) hj (fun k _ hk hw=>hS k (by omega) (h1 k hk hw))];exact hy
 ·exact (stableE hes (i:=0) j (Nat.zero_le _) hj (fun k _ hk hw=>hS k (by omega) (h1 k hk hw))).2
theorem VL {S:Nat→Prop} {E:Env} (hm:Match all es S E) {j:Nat} (hj:j≤all.length) (h1:∀ i,i<j→S i) (h2:∀ i,j≤i→i<all.length→¬ S i) {t:Nat} {x:AV} (hx:look (es j) t=some x):look E t=some x:=by
 have hlt:∀ i (o:Oper),all[i]? = some o→i<all.length:=fun i o ho=>(List.getElem?_eq_some_iff.1 ho).1
 cases he:x.ent with
 | true=>exact hm.e j hj (fun i hi _=>h1 i hi) (fun i hi ⟨o,ho,_⟩=>h2 i hi (hlt i o ho)) t x he hx
 | false =>
  have:=hm.s t j hj (fun i hi _=>h1 i hi) (fun i hi ⟨o,ho,_⟩=>h2 i hi (hlt i o ho)) x (by simp[lookS,hx,qdj he]);unfold lookS at this
  cases hL:look E t with
  | none=>rw[hL]at this;cases this
  | some Y =>
   rw[hL]at this;simp only[D6,Option.some.injEq]at this
   have hY:Y.ent=false:=by rw[← qeX,this];exact he
   rw[qdj hY]at this;rw[this]
theorem Qg {x y:Op} (h:Free x y):¬ (isEff x=true∧isStore x=false)∧¬ (isEff y=true∧isStore y=false)∧¬ (isEff x=true∧isEff y=true)∧(isEff x=true→memFree y=true)∧(isEff y=true→memFree x=true):=by
 rcases h with ⟨h1,h2⟩ | ⟨h1,h2⟩ | ⟨h1,h2⟩
 ·refine⟨fun h=>?_,fun h=>?_,fun h=>?_,fun h=>?_,fun h=>?_⟩ <;> simp_all
 ·have:=YN h2;refine⟨fun h=>?_,fun h=>?_,fun h=>?_,fun h=>h2,fun h=>?_⟩ <;> simp_all
 ·have:=YN h1;refine⟨fun h=>?_,fun h=>?_,fun h=>?_,fun h=>?_,fun h=>h1⟩ <;> simp_all
theorem UZ {α:Type} {p q:α→Bool}:∀ {l:List α} {x:α},(∀ y,y∈l→q y=true→p y=true)→x∈l→p x=true→q x=false→l.countP q<l.countP p
 | [],x,_,hx,_,_=>by cases hx
 | z::l,x,h,hx,hp,hq=>by
  have hle:l.countP q≤l.countP p:=List.countP_mono_left fun y hy=>h y (B3 _ hy)
  rw[List.countP_cons,List.countP_cons]
  cases hx with
  | head=>rw[if_pos hp,if_neg (by rw[hq];exact Bool.false_ne_true)];omega
  | tail _ hx =>
   have:=UZ (fun y hy=>h y (B3 _ hy)) hx hp hq;by_cases hz:q z=true
   ·rw[if_pos hz,if_pos (h z (A6 ..) hz)];omega
   ·rw[if_neg hz];split <;> omega
def JP (N:Nat) (listed:Array Bool):Nat:=(List.range N).countP fun i=>!listed.getD i true
theorem XH {listed:Array Bool} {i:Nat} (h:i<listed.size):listed.getD i true=listed.getD i false:=by
 simp[h]
theorem qej {all:List Oper} {o:Oper} {d:Nat} (h:o.dst=some d):d∈namesOf all.toArray o:=by
 unfold namesOf;rw[h];simp
theorem qeH {bs:Base} {Q:Exit→Act→World→Prop} (hes:∀ i o,all[i]? = some o→StepOk P n true all o (es i) (es (i+1))) (hord:orderOk all.toArray=true) (hback:jZ all.toArray=true)
  (hQ:∀ a' w' M' O',Inv bs n M' O' (es all.length) a' w'→Q .normal a' w') :
  ∀ (fuel:Nat) (listed:Array Bool) (a:Act) (w:World) (M:Mem) (O:Gh) (E:Env),listed.size=all.length→Closed all (fun i=>listed.getD i false=true)→Match all es (fun i=>listed.getD i false=true) E →
   JP all.length listed≤fuel→Inv bs n M O E a w→wpAny P .any all.toArray Q fuel listed a w:=by
 have done:∀ (listed:Array Bool) (a:Act) (w:World) (M:Mem) (O:Gh) (E:Env),listed.size=all.length→Match all es (fun i=>listed.getD i false=true) E→Inv bs n M O E a w →
   B5 .any all.toArray listed=[]→Q .normal a w:=by
  intro listed a w M O E hsz hm h hr
  have hall:∀ i,i<all.length→listed.getD i false=true:=by
   intro i
   induction i using Nat.strongRecOn with
   | _ i ih =>
    intro hi
    cases hv:listed.getD i false with
    | true=>rfl
    | false =>
     exfalso;have ho:all[i]? = some all[i]:=A3 hi
     have:i∈B5 .any all.toArray listed:=by
      rw[mem_ready];refine⟨by rw[XH (by omega)];exact hv,all[i],by simp,fun e he hb=>?_⟩
      have hlt:e.on<i:=by
       unfold jZ at hback;rw[C7]at hback
       have hmem:(all[i],i)∈all.toArray.toList.zipIdx:=by
        rw[List.mem_iff_getElem?];exact⟨i,by simp[List.getElem?_zipIdx,ho]⟩
       have:=hback _ hmem;rw[Array.all_eq_true_iff_forall_mem]at this;have:=this e he;simp only[D2,B4]at this
       rcases this with h1 | h1
       ·rw[hb]at h1;cases h1
       ·exact Nat.le_of_ble_eq_true h1
      exact ih e.on hlt (by omega)
     rw[hr]at this;cases this
  refine hQ a w M O (h.sub fun t y hy=>.inl (VL hm (D3 _) (fun i hi=>hall i hi) (fun i hi hw=>by omega) hy))
 intro fuel
 induction fuel with
 | zero =>
  intro listed a w M O E hsz hc hm hu h
  have hr:B5 .any all.toArray listed=[]:=by
   cases hr:B5 .any all.toArray listed with
   | nil=>rfl
   | cons i rs =>
    exfalso
    have hi:i∈B5 .any all.toArray listed:=by rw[hr];exact A6 ..
    rw[mem_ready]at hi;obtain⟨h0,o,ho,_⟩:=hi
    have hil:i<all.length:=by
     have:=(Array.getElem?_eq_some_iff.1 ho).1
     simpa using this
    have:0<JP all.length listed:=by
     unfold JP;rw[List.countP_pos_iff];exact⟨i,List.mem_range.2 hil,by rw[h0];rfl⟩
    omega
  exact⟨hr,done listed a w M O E hsz hm h hr⟩
 | succ fuel ih =>
  intro listed a w M O E hsz hc hm hu h;refine⟨fun hr=>done listed a w M O E hsz hm h hr,fun k hk=>?_⟩;rw[mem_ready]at hk;obtain⟨hk0,ok,hok,hkall⟩:=hk
  have hok':all[k]? = some ok:=by simpa using hok
  have hkl:k<all.length:=(List.getElem?_eq_some_iff.1 hok').1
  have hkf:listed.getD k false=false:=by rw[← XH (by omega)];exact hk0
  have hdeps:∀ i,((A4 all.toArray).getD k 0).testBit i=true→listed.getD i false=true :=
   YU hc k ok hok' (fun e he hb=>hkall e (by simpa using he) hb)
  have hnot:∀ i,listed.getD i false=true→i<all.length→((A4 all.toArray).getD i 0).testBit k=false:=by
   intro i hi hil
   cases hb:((A4 all.toArray).getD i 0).testBit k with
   | false=>rfl
   | true =>
    have:=YU hc i _ (A3 hil) (fun e he hb=>hc i _ (A3 hil) hi e he hb) k hb;simp only[hkf]at this;cases this
  have hsz':(listed.setIfInBounds k true).size=all.length:=by simp[hsz]
  have hset:∀ i,(listed.setIfInBounds k true).getD i false=true↔(i=k∨listed.getD i false=true):=by
   intro i;by_cases hik:i=k
   ·subst hik
    have hkk:i<listed.size:=by omega
    simp[hkk]
   ·rw[getD_set_ne false (fun e=>hik e.symm)];simp[hik]
  have hc':Closed all (fun i=>(listed.setIfInBounds k true).getD i false=true):=by
   intro j o ho hj e he hb;rw[hset]at hj ⊢
   rcases hj with rfl | hj
   ·rw[hok']at ho;cases ho;exact .inr (hkall e (by simpa using he) hb)
   ·exact .inr (hc j o ho hj e he hb)
  have hu':JP all.length (listed.setIfInBounds k true)≤fuel:=by
   have:JP all.length (listed.setIfInBounds k true)<JP all.length listed:=by
    unfold JP;refine UZ (x:=k) (fun i hi hq=>?_) (List.mem_range.2 hkl) (by rw[hk0];rfl) ?_
    ·have hil:=List.mem_range.1 hi;simp only[B4]at hq ⊢;rw[XH (by omega)]at hq ⊢
     cases hv:listed.getD i false with
     | false=>rfl
     | true =>
      have:=(hset i).2 (.inr hv);rw[this]at hq;cases hq
    ·have hkk:k<listed.size:=by omega
     simp[hkk]
   omega
  obtain⟨hsem,hpure⟩:=hes k ok hok'
  have hwp:∀ (K:Act→World→Prop),(if D0 ok (yielded all.toArray a.tmps) then ok.wp P a w K Q else K (a.put ok.dst undef) w)→wpOp P all.toArray Q k K a w:=by
   intro K hK;unfold wpOp;rw[hok];simp only;split
   ·rename_i hw;rw[if_pos hw]at hK;exact .inl hK
   ·rename_i hw;rw[if_neg hw]at hK;exact hK
  refine hwp _ ?_
  have P1:∀ i oi,all[i]? = some oi→i<k→listed.getD i false=true∨(Free oi.op ok.op∧(∀ d,oi.dst=some d→d ∉ namesOf all.toArray ok)∧(∀ d,ok.dst=some d→d ∉ namesOf all.toArray oi)):=by
   intro i oi hoi hi
   rcases Uk hord hi hoi hok' with h1 | h1
   ·exact .inl (hdeps i h1)
   ·exact .inr h1
  have P2:∀ i oi,all[i]? = some oi→k<i→listed.getD i false=true→(Free ok.op oi.op∧(∀ d,ok.dst=some d→d ∉ namesOf all.toArray oi)∧(∀ d,oi.dst=some d→d ∉ namesOf all.toArray ok)):=by
   intro i oi hoi hi hl
   rcases Uk hord hi hok' hoi with h1 | h1
   ·rw[hnot i hl (List.getElem?_eq_some_iff.1 hoi).1]at h1;cases h1
   ·exact h1
  have hNA:NA all ok (es k) E:=by
   intro t ht y hy;refine hm.s t k (by omega) (fun i hi hw=>?_) (fun i hi hw hl=>?_) y hy
   ·obtain⟨oi,hoi,hwi⟩:=hw
    rcases P1 i oi hoi hi with h1 | ⟨h1,h2,_⟩
    ·exact h1
    ·rcases hwi with hwi | hwi
     ·exact absurd hwi (Qg h1).1
     ·exact absurd ht (h2 t hwi)
   ·obtain⟨oi,hoi,hwi⟩:=hw
    rcases D4 k i with hki | hki
    ·obtain⟨h1,h2,h3⟩:=P2 i oi hoi hki hl
     rcases hwi with hwi | hwi
     ·exact absurd hwi (Qg h1).2.1
     ·exact absurd ht (h3 t hwi)
    ·have:i=k:=by omega
     subst this;simp only[hkf]at hl;cases hl
  have hEA:memFree ok.op=false→EA (es k) E:=by
   intro hmf;refine hm.e k (by omega) (fun i hi hw=>?_) (fun i hi hw hl=>?_)
   ·obtain⟨oi,hoi,hwi⟩:=hw
    rcases P1 i oi hoi hi with h1 | ⟨h1,_⟩
    ·exact h1
    ·rw[(Qg h1).2.2.2.1 hwi]at hmf;cases hmf
   ·obtain⟨oi,hoi,hwi⟩:=hw
    rcases D4 k i with hki | hki
    ·obtain⟨h1,_⟩:=P2 i oi hoi hki hl;rw[(Qg h1).2.2.2.2 hwi]at hmf;cases hmf
    ·have:i=k:=by omega
     subst this;simp only[hkf]at hl;cases hl
  rcases hpure rfl with ⟨hhard,_⟩ | ⟨hst,hdn,s,x,x',hx,hxe,hxe',hsk,hes1,hstep⟩ | ⟨hcl,x,hx,hxe,hstep⟩
  ·
   have hbefore:∀ i,i<k→listed.getD i false=true:=by
    intro i hi
    rcases P1 i _ (A3 (by omega)) hi with h1 | ⟨h1,_⟩
    ·exact h1
    ·exact absurd hhard (Qg h1).2.1
   have hafter:∀ i,k<i→i<all.length→¬ listed.getD i false=true:=by
    intro i hi hil hli;exact absurd hhard (Qg (P2 i _ (A3 hil) hi hli).1).1
   have hE:Inv bs n M O (es k) a w:=h.sub fun t y hy=>.inl (VL hm (by omega) hbefore (fun i hi hil hl=>by
    rcases D4 k i with h1 | h1
    ·exact hafter i h1 hil hl
    ·have:i=k:=by omega
     subst this;simp only[hkf]at hl
     cases hl) hy)
   refine hsem bs M O a w hE _ Q fun a' w' M' O' h'=>ih _ a' w' M' O' (es (k+1)) hsz' hc' ⟨fun t j hj h1 h2 y hy=>?_,fun j hj h1 h2=>?_⟩ hu' h'
   ·have hkj:k<j:=by
     refine A8 fun hle=>?_
     exact h2 k hle ⟨ok,hok',.inl hhard⟩ ((hset k).2 (.inl rfl))
    have hst:=stable hes (t:=t) (i:=k+1) j hkj hj (fun i hi1 hi2 hw=>by
     rcases (hset i).1 (h1 i hi2 hw) with e | e
     ·omega
     ·exact hafter i (by omega) (by omega) e)
    rw[hst]at hy;exact hy
   ·have hkj:k<j:=by
     refine A8 fun hle=>?_
     exact h2 k hle ⟨ok,hok',hhard.1⟩ ((hset k).2 (.inl rfl))
    exact (stableE hes (i:=k+1) j hkj hj (fun i hi1 hi2 hw=>by
     rcases (hset i).1 (h1 i hi2 hw) with e | e
     ·omega
     ·exact hafter i (by omega) (by omega) e)).2
  ·
   have heff:=Do hst
   have hmf:memFree ok.op=false:=by
    cases hv:memFree ok.op with
    | false=>rfl
    | true=>rw[YN hv]at heff;cases heff
   have hea:=hEA hmf;have hxE:look E s=some x:=hea s x hxe hx
   have hkw:∀ t,¬ Wr all k t:=by
    rintro t ⟨o',ho',hw'⟩
    rw[hok']at ho';cases ho'
    rcases hw' with hw' | hw'
    ·rw[hst]at hw';cases hw'.2
    ·rw[hdn]at hw';cases hw'
   refine hstep E hNA hxE bs M O a w h _ Q fun a' w' M' O' h'=>ih _ a' w' M' O' _ hsz' hc' ⟨fun t j hj h1 h2 y hy=>?_,fun j hj h1 h2=>?_⟩ hu' h'
   ·rw[Um hxE hsk];refine hm.s t j hj (fun i hi hw=>?_) (fun i hi hw hl=>h2 i hi hw ((hset i).2 (.inr hl))) y hy
    rcases (hset i).1 (h1 i hi hw) with e | e
    ·subst e;exact absurd hw (hkw t)
    ·exact e
   ·have hkj:k<j:=by
     refine A8 fun hle=>?_
     exact h2 k hle ⟨ok,hok',heff⟩ ((hset k).2 (.inl rfl))
    have hst2:=(stableE hes (i:=k+1) j hkj hj (fun i hi1 hi2 hw=>by
     rcases (hset i).1 (h1 i hi2 hw) with e | e
     ·omega
     ·obtain⟨oi,hoi,hwi⟩:=hw
      exact (Qg (P2 i oi hoi (by omega) e).1).2.2.1 ⟨heff,hwi⟩)).2
    refine hst2.trans ?_;rw[hes1];intro t y hy hl;rw[jh]at hl ⊢;split
    ·rename_i e;rw[if_pos e]at hl;exact hl
    ·rename_i e;rw[if_neg e]at hl;exact hea t y hy hl
  ·
   obtain⟨hes1,hdn,hdent⟩:=Qc hx
   have hnoth:¬ (isEff ok.op=true∧isStore ok.op=false):=by
    rintro⟨e1,e2⟩
    rcases hcl with e | e
    ·rw[e]at e1;cases e1
    ·rw[e]at e2;cases e2
   have hmem:memFree ok.op=true∨EA (es k) E:=by
    cases hv:memFree ok.op with
    | true=>exact .inl rfl
    | false=>exact .inr (hEA hv)
   refine hstep E hNA hmem bs M O a w h _ Q fun a' w' M' O' h'=>ih _ a' w' M' O' _ hsz' hc' ⟨fun t j hj h1 h2 y hy=>?_,fun j hj h1 h2=>?_⟩ hu' h'
   ·by_cases hdt:ok.dst=some t
    ·have hkw:Wr all k t:=⟨ok,hok',.inr hdt⟩
     have hkj:k<j:=by
      refine A8 fun hle=>?_
      exact h2 k hle hkw ((hset k).2 (.inl rfl))
     have hst:=stable hes (t:=t) (i:=k+1) j hkj hj (fun i hi1 hi2 hw=>by
      rcases (hset i).1 (h1 i hi2 hw) with e | e
      ·omega
      ·obtain⟨oi,hoi,hwi⟩:=hw;obtain⟨g1,g2,_⟩:=P2 i oi hoi (by omega) e
       rcases hwi with hwi | hwi
       ·exact (Qg g1).2.1 hwi
       ·exact g2 t hdt (qej hwi))
     rw[hst,hes1,hdt]at hy;unfold lookS at hy ⊢;rw[hdt];simp only[insO]at hy ⊢;rw[jh,if_pos rfl]at hy ⊢;exact hy
    ·unfold lookS;rw[Yu hdt]
     have hkw:¬ Wr all k t:=by
      rintro⟨o',ho',hw'⟩
      rw[hok']at ho';cases ho'
      rcases hw' with hw' | hw'
      ·exact hnoth hw'
      ·exact hdt hw'
     refine hm.s t j hj (fun i hi hw=>?_) (fun i hi hw hl=>h2 i hi hw ((hset i).2 (.inr hl))) y hy
     rcases (hset i).1 (h1 i hi hw) with e | e
     ·subst e;exact absurd hw hkw
     ·exact e
   ·
    have out:∀ {F:Env},EA F E→(∀ d,ok.dst=some d→∀ y,look F d=some y→y.ent=false)→EA F (insO ok.dst x E):=by
     intro F hF hno t y hy hl;by_cases hdt:ok.dst=some t
     ·rw[hno t hdt y hl]at hy;cases hy
     ·rw[Yu hdt];exact hF t y hy hl
    by_cases hke:isEff ok.op=true
    ·have hmf:memFree ok.op=false:=by
      cases hv:memFree ok.op with
      | false=>rfl
      | true=>rw[YN hv]at hke;cases hke
     have hkj:k<j:=by
      refine A8 fun hle=>?_
      exact h2 k hle ⟨ok,hok',hke⟩ ((hset k).2 (.inl rfl))
     have hst2:=(stableE hes (i:=k+1) j hkj hj (fun i hi1 hi2 hw=>by
      rcases (hset i).1 (h1 i hi2 hw) with e | e
      ·omega
      ·obtain⟨oi,hoi,hwi⟩:=hw
       exact (Qg (P2 i oi hoi (by omega) e).1).2.2.1 ⟨hke,hwi⟩)).2
     exact (hst2.trans (qdF hxe hx).2).trans (out (hEA hmf) hdent)
    ·have hkw:¬ WrE all k:=by
      rintro⟨o',ho',hw'⟩
      rw[hok']at ho';cases ho';exact hke hw'
     have hej:EA (es j) E:=hm.e j hj (fun i hi hw=>by
      rcases (hset i).1 (h1 i hi hw) with e | e
      ·subst e;exact absurd hw hkw
      ·exact e) (fun i hi hw hl=>h2 i hi hw ((hset i).2 (.inr hl)))
     refine out hej fun d hd y hy=>?_
     rcases D4 k j with hkj | hkj
     ·
      have key:∀ i,k+1≤i→i≤j→∀ y,look (es i) d=some y→y.ent=false:=by
       intro i
       induction i with
       | zero=>intro h;omega
       | succ i ihi =>
        intro hi1 hi2 y hy;by_cases hik:k=i
        ·subst hik;rw[hes1,hd]at hy;simp only[insO]at hy;rw[jh,if_pos rfl]at hy;cases hy;exact hxe
        ·have hil:i<all.length:=by omega
         have hoi:all[i]? = some all[i]:=A3 hil
         rcases (hes i _ hoi).2 rfl with ⟨he,_⟩ | ⟨_,_,s',z,z',hz,hze,hze',_,e1,_⟩ | ⟨_,z,hz,hze,_⟩
         ·exfalso
          rcases (hset i).1 (h1 i (by omega) ⟨_,hoi,he.1⟩) with e | e
          ·omega
          ·exact absurd he (Qg (P2 i _ hoi (by omega) e).1).2.1
         ·rw[e1,jh]at hy;split at hy
          ·rename_i e;subst e;have:=ihi (by omega) (by omega) z hz;rw[hze]at this;cases this
          ·exact ihi (by omega) (by omega) y hy
         ·obtain⟨e1,_,_⟩:=Qc hz;rw[e1]at hy;by_cases hdi:all[i].dst=some d
          ·rw[hdi]at hy;simp only[insO]at hy;rw[jh,if_pos rfl]at hy;cases hy;exact hze
          ·rw[Yu hdi]at hy;exact ihi (by omega) (by omega) y hy
      exact key j (by omega) (D3 _) y hy
     ·
      cases hye:y.ent with
      | false=>rfl
      | true =>
       exfalso
       have key:∀ i,j≤i→i≤k→∃ z,look (es i) d=some z∧z.ent=true:=by
        intro i
        induction i with
        | zero =>
         intro hi1 _
         have:j=0:=by omega
         subst this;exact⟨y,hy,hye⟩
        | succ i ihi =>
         intro hi1 hi2;by_cases hij:j=i+1
         ·subst hij;exact⟨y,hy,hye⟩
         ·have hil:i<all.length:=by omega
          have hoi:all[i]? = some all[i]:=A3 hil;obtain⟨z0,hz0,hze0⟩:=ihi (by omega) (by omega)
          rcases (hes i _ hoi).2 rfl with ⟨he,_⟩ | ⟨_,_,s',z,z',hz,hze,hze',_,e1,_⟩ | ⟨_,z,hz,hze,_⟩
          ·exfalso;refine h2 i (by omega) ⟨_,hoi,he.1⟩ ((hset i).2 (.inr ?_))
           rcases P1 i _ hoi (by omega) with e | ⟨e,_⟩
           ·exact e
           ·exact absurd he (Qg e).1
          ·rw[e1,jh];split
           ·exact⟨z',rfl,hze'⟩
           ·exact⟨z0,hz0,hze0⟩
          ·obtain⟨e1,_,e3⟩:=Qc hz;rw[e1];by_cases hdi:all[i].dst=some d
           ·have:=e3 d hdi z0 hz0;rw[hze0]at this;cases this
           ·rw[Yu hdi];exact⟨z0,hz0,hze0⟩
       obtain⟨z,hz,hze⟩:=key k hkj (D3 _);have:=hdent d hd z hz;rw[hze]at this;cases this
theorem qbo {bs:Base} {M:Mem} {O:Gh} {a:Act} {w:World} {id:Nat} {ops:Array Oper} {e e':Env} (hmix:P.follows .mixedOrders=true) (hord:orderOk ops=true) (hback:jZ ops=true)
  (hc:Chain P n true ops.toList ops.toList e e') (h:Inv bs n M O e a w) {Q:Exit→Act→World→Prop} (hQ:∀ a' w' M' O',Inv bs n M' O' e' a' w'→Q .normal a' w'):(Code.region id ops true).wp P Q a w:=by
 obtain⟨es,h1,h2,h3⟩:=qdd hc rfl;have ea:ops.toList.toArray=ops:=Array.toArray_toList;refine wp_region_any hmix ?_;have hdr:Inv bs n M O e a { w with drawn:=w.drawn+1 }:=h.grown (row:=none) (fun g e=>by cases e) ⟨rfl,rfl,rfl,D3 _,fun _ _ _=>rfl⟩ (Sub.refl M) (fun b o u hu=>h.cons b o u hu) (fun _ _ _ _=>rfl);have:=qeH (P:=P) (n:=n) (all:=ops.toList) (es:=es) (bs:=bs) (Q:=Q) h3 (by rw[ea];exact hord) (by rw[ea];exact hback) (fun a' w' M' O' h'=>hQ a' w' M' O' (by rw[← h2];exact h')) ops.size (Array.replicate ops.size false) a { w with drawn:=w.drawn+1 } M O e (by simp)
  (fun j o ho hj=>by simp[Array.getElem?_replicate]at hj;split at hj <;> simp at hj)
  (by
   rw[← h1]
   exact qbH h3 (fun i hi hS=>by
    have:i<ops.size:=by simpa using hi
    simp[this]at hS))
  (by
   unfold JP;have:=List.countP_le_length (p:=fun i=>!(Array.replicate ops.size false).getD i true) (l:=List.range ops.toList.length)
   simpa using this) hdr
 rw[ea]at this;exact this
end
end Go.AM
