import Derived.Test.YtoiejpkfpjingaaAWp
set_option linter.all false
open List renaming map→A0, map_cons→A2, replicate→A6, mem_append_right→A9, mem_cons_of_mem→B5, mem_append_left→B6
open Nat renaming beq→A1, ble→A3
open Bool renaming noConfusion→A4
open Prod renaming fst→A5
open Go.Region renaming wanted→A7
open Array renaming getD_eq_getD_getElem?→A8
namespace Go.AM
section
variable {P:Program} {n:Nat}
theorem W.mv {c:Code} {Q:Ex→Env→Prop} {env env':Env} (q:List Mv) (he:mvAll env q=env') (h:W P n c Q env'):W P n c Q env:=by
 subst he;obtain⟨ex,e1,h1,h2⟩:=h;exact⟨ex,e1,.mv q h1,h2⟩
theorem WO.mv {all ops:List Oper} {Q:Env→Prop} {env env':Env} (q:List Mv) (he:mvAll env q=env') (h:WO P n false all ops Q env'):WO P n false all ops Q env:=by
 subst he;obtain⟨e',h1,h2⟩:=h;exact⟨e',.mvOp q h1,h2⟩
theorem W.seqU {v:Code} {c:Operand} {x y z:Code} {Q:Ex→Env→Prop} {env e0 ei e2:Env} (p:Bool) (h0:W P n v (fun ex' e'=>ex'=.normal∧e'=e0) env) (hc:aop e0 c=some (.ub p)) (ht:p=true→W P n x (fun ex' e'=>ex'=.ret∧e'=e2) e0) (hf:W P n y (fun ex' e'=>ex'=.normal∧e'=ei) e0) (hz:W P n z (fun ex' e'=>ex'=.ret∧e'=e2) ei) (hq:Q .ret e2):W P n (.seq (.seq v (.cond c x y)) z) Q env:=by
 refine⟨.ret,e2,.seqU (e0:=e0) (ei:=ei) p ?_ hc (fun hp=>?_) ?_ ?_,hq⟩
 ·obtain⟨ex',e',h1,rfl,rfl⟩:=h0;exact h1
 ·obtain⟨ex',e',h1,rfl,rfl⟩:=ht hp;exact h1
 ·obtain⟨ex',e',h1,rfl,rfl⟩:=hf;exact h1
 ·obtain⟨ex',e',h1,rfl,rfl⟩:=hz;exact h1
theorem Yf {ops:List Oper} {k:Nat} {o:Oper} {rest:List Oper} (h:ops.drop k=o::rest):ops.drop (k+1)=rest:=by
 have hd:ops.drop (k+1)=(ops.drop k).drop 1:=by rw[List.drop_drop]
 rw[hd,h];rfl
def qal (all:List Oper) (o:Oper) (env:Env):Option (Nat×List AV×List AV) :=
 match awanted all o env with
 | some true=>match o.op with
  | .call { callee:=.value f,args,.. }=>match aop env f,optAll (args.toList.map (aop env)) with
   | some (.clo g caps),some l=>match optAll (l.map (asnap env)) with
    | some l'=>some (g,l',caps)
    | none=>none
   | _,_=>none
  | _=>none
 | _=>none
theorem WO.callRF {draw:Bool} {all rest:List Oper} {o:Oper} {Q:Env→Prop} {env e1:Env} {F:Nat} {l C args:List AV} {r:AV} (hp:qal all o env=some (F,l,C)) (ha:l++C=args) (hok:okFn P F=true) (hpl:r.plain=true) (hr:Run P (.call F args r)) (he:eput n o.dst r env=some e1) (h:WO P n draw all rest Q e1):WO P n draw all (o::rest) Q env:=by
 subst ha;unfold qal at hp
 split at hp <;> try cases hp
 rename_i hw
 split at hp <;> try cases hp
 rename_i f args ats ho
 split at hp <;> try cases hp
 rename_i g caps l hf hl
 split at hp <;> try cases hp
 rename_i l' hl';obtain⟨e',h1,h2⟩:=h;refine⟨e',.callOpR hw ?_ hpl hr he h1,h2⟩;unfold Xs;rw[ho];simp only[hf,hl];unfold okFn at hok;split at hok
 ·rename_i fn hfn;simp only[hfn,hok,hl']
 ·cases hok
theorem WO.callRK {draw:Bool} {all ops:List Oper} {Q:Env→Prop} {env e1:Env} {F:Nat} {l C args:List AV} {r:AV} (k:Nat)
  (hp:stepsE P n draw all k ops env (fun os e=>match os with | o::_=>qal all o e | []=>none)=some (F,l,C)) (ha:l++C=args) (hok:okFn P F=true) (hpl:r.plain=true) (hr:Run P (.call F args r))
  (he:stepsE P n draw all k ops env (fun os e=>match os with | o::_=>eput n o.dst r e | []=>none)=some e1) (h:WO P n draw all (ops.drop (k+1)) Q e1):WO P n draw all ops Q env:=by
 obtain⟨e,h1,h2⟩:=ju hp;obtain⟨e',h3,h4⟩:=ju he;rw[h1]at h3;cases h3;refine WO.steps k h1 ?_
 cases hos:ops.drop k with
 | nil=>rw[hos]at h2;cases h2
 | cons o rest =>
  rw[hos]at h2 h4;rw[Yf hos]at h;exact WO.callRF h2 ha hok hpl hr h4 h
def qam (P:Program) (all:List Oper) (o:Oper) (env:Env) (ρ:List (Nat×Nat)):Option (Nat×List AV×Env) :=
 match awanted all o env with
 | some true=>NJ P o env ρ
 | _=>none
theorem WO.callMK {all ops:List Oper} {Q:Env→Prop} {env e1:Env} {F:Nat} {args:List AV} {hp hp2:Env} {r:AV} (k:Nat) (ρ nw:List (Nat×Nat))
  (h0:stepsE P n false all k ops env (fun os e=>match os with | o::_=>qam P all o e ρ | []=>none)=some (F,args,hp)) (hr:Run P (.callM F args hp r hp2))
  (he:stepsE P n false all k ops env (fun os e=>match os with | o::_=>Uc n o.dst ρ nw r hp2 e | []=>none)=some e1) (h:WO P n false all (ops.drop (k+1)) Q e1):WO P n false all ops Q env:=by
 obtain⟨e,h1,h2⟩:=ju h0;obtain⟨e',h3,h4⟩:=ju he;rw[h1]at h3;cases h3;refine WO.steps k h1 ?_
 cases hos:ops.drop k with
 | nil=>rw[hos]at h2;cases h2
 | cons o rest =>
  rw[hos]at h2 h4;rw[Yf hos]at h;simp only[qam]at h2
  split at h2 <;> try cases h2
  rename_i hw;obtain⟨e2,g1,g2⟩:=h;exact⟨e2,.callOpM ρ nw hw h2 hr h4 g1,g2⟩
def stPre (P:Program) (all:List Oper) (o:Oper) (env:Env):Option (Nat×Nat×Nat×List AV×Nat×Nat×List AV) :=
 match awanted all o env with
 | some true=>match o.op with
  | .store t p x=>match o.dst,aop env p,aop env x,tSize P t with
   | none,some (.pe id k j off),some v,some sz=>match A1 v.cells.length sz,look env id with
    | true,some (.obj e k' xs)=>match A1 k k' with
     | true=>some (id,e,k,xs,j,off,v.cells)
     | false=>none
    | _,_=>none
   | _,_,_,_=>none
  | _=>none
 | _=>none
theorem WO.storeK {draw:Bool} {all ops:List Oper} {Q:Env→Prop} {env e1:Env} {id e s:Nat} {xs zs vs:List AV} {j off:Nat} {y y':AV} (k:Nat)
  (hp:stepsE P n draw all k ops env (fun os e=>match os with | o::_=>stPre P all o e | []=>none)=some (id,e,s,xs,j,off,vs)) (hy:xs[j]? = some y) (hput:putElem y off vs=some y') (hz:xs.set j y'=zs)
  (he:stepsE P n draw all k ops env (fun os en=>some (ins id (.obj e s zs) en))=some e1) (h:WO P n draw all (ops.drop (k+1)) Q e1):WO P n draw all ops Q env:=by
 subst hz;obtain⟨en,h1,h2⟩:=ju hp;obtain⟨en',h3,h4⟩:=ju he;rw[h1]at h3;cases h3;cases h4;refine WO.steps k h1 ?_
 cases hos:ops.drop k with
 | nil=>rw[hos]at h2;cases h2
 | cons o rest =>
  rw[hos]at h2;rw[Yf hos]at h;simp only[stPre]at h2
  split at h2 <;> try cases h2
  rename_i hw
  split at h2 <;> try cases h2
  rename_i t p x ho
  split at h2 <;> try cases h2
  rename_i id' k' j' off' v sz hd hpp hx hsz
  split at h2 <;> try cases h2
  rename_i e' k2 xs' hlen hl
  split at h2 <;> try cases h2
  rename_i hk
  have hst:astep P n o en=some (ins id (.obj e s (xs.set j y')) en):=by
   unfold astep;rw[ho];simp only[hd,hpp,hx,hsz,hlen];unfold putObj;simp only[hl,hk,hy,hput]
  refine WO.step (e1:=ins id (.obj e s (xs.set j y')) en) ?_ h;unfold step1;rw[hw]
  cases draw with
  | true =>
   have:isEff o.op=true:=by rw[ho];rfl
   refine YI (Vt (by rw[ho];rfl)) ?_;unfold astepD;simp only[this,hst]
  | false=>exact hst
def aoPre (P:Program) (n:Nat) (all:List Oper) (o:Oper) (env:Env):Option (Nat×Nat×Nat×Nat×Nat×List AV×List AV×Env) :=
 match awanted all o env with
 | some true=>match o.op with
  | .call { callee:=.builtin .append,args,argTypes }=>match args.toList,argTypes.toList,o.dst with
   | [x,y],[t,t'],some d=>match aop env x,aop env y with
    | some (.sb id ex kx off m),some q=>match JB P t with
     | some (e,s)=>match A1 t t' && Nat.blt 0 s && (match (P.info? e).bind (·.zero) with | some z=>A1 z.cells.size s | none=>false) with
      | true=>match look env id,content env q with
       | some (.obj e' k' xs),some (ky,ys)=>match A1 ex e && A1 e' e && A1 kx s && A1 k' s && A1 ky s && A1 off 0 && (usable id && Nat.blt e 1000000000) with
        | true=>match clearOf (1000000+d) (forget id env) && (match look env d with | some (.box _)=>false | some (.obj ..)=>false | some (.hob ..)=>false | some (.bxg _)=>false | _=>true) && Nat.blt d n with
         | true=>some (d,e,s,((P.info? e).map (·.bytes)).getD 0,m,xs,ys,forget id env)
         | false=>none
        | false=>none
       | _,_=>none
      | false=>none
     | none=>none
    | _,_=>none
   | _,_,_=>none
  | _=>none
 | _=>none
def aoPreD (P:Program) (n:Nat) (draw:Bool) (all:List Oper) (o:Oper) (env:Env):Option (Nat×Nat×Nat×Nat×Nat×List AV×List AV×Env) :=
 match !draw || lfOk all o env with
 | true=>aoPre P n all o env
 | false=>none
theorem qdI {draw:Bool} {all:List Oper} {o:Oper} {env:Env} {r:Nat×Nat×Nat×Nat×Nat×List AV×List AV×Env} (h:aoPreD P n draw all o env=some r):(!draw || lfOk all o env)=true∧aoPre P n all o env=some r:=by
 unfold aoPreD at h;split at h
 ·rename_i hl;exact⟨hl,h⟩
 ·cases h
theorem WO.appendOK {draw:Bool} {all ops:List Oper} {Q:Env→Prop} {env env1 e1:Env} {d e s bytes m n2:Nat} {xs ys zs:List AV} (k:Nat)
  (hp:stepsE P n draw all k ops env (fun os e=>match os with | o::_=>aoPreD P n draw all o e | []=>none)=some (d,e,s,bytes,m,xs,ys,env1)) (hc:capOk bytes (m+ys.length)=true) (hz:snapA 0 m xs++ys=zs) (hn:zs.length=n2)
  (he:ins (1000000+d) (.obj e s zs) (ins d (.sb (1000000+d) e s 0 n2) env1)=e1) (h:WO P n draw all (ops.drop (k+1)) Q e1):WO P n draw all ops Q env:=by
 subst hn;subst hz;subst he;obtain⟨en,h1,h2⟩:=ju hp;refine WO.steps k h1 ?_
 cases hos:ops.drop k with
 | nil=>rw[hos]at h2;cases h2
 | cons o rest =>
  rw[hos]at h2;rw[Yf hos]at h;simp only at h2;obtain⟨hlf0,h2⟩:=qdI h2;simp only[capOk,Bool.and_eq_true,Nat.ble_eq]at hc;simp only[aoPre]at h2
  split at h2 <;> try cases h2
  rename_i hw
  split at h2 <;> try cases h2
  rename_i args ats ho
  split at h2 <;> try cases h2
  rename_i x y t t' d' hax hat hd
  split at h2 <;> try cases h2
  rename_i id ex kx off m' q ha hb
  split at h2 <;> try cases h2
  rename_i e' s' hse
  split at h2 <;> try cases h2
  rename_i hcond
  split at h2 <;> try cases h2
  rename_i e2 k2 xs' ky ys' hl hcon
  split at h2 <;> try cases h2
  rename_i hk
  split at h2 <;> try cases h2
  rename_i hcl
  have hao:ZE P n t t' d (.sb id ex kx off m) q en=some (ins (1000000+d) (.obj e s (snapA 0 m xs++ys)) (ins d (.sb (1000000+d) e s 0 (snapA 0 m xs++ys).length) (forget id en))):=by
   unfold ZE;simp only[hse];split
   ·rename_i hcf;exact A4 (hcf.symm.trans hcond)
   ·simp only[hl,hcon,hk];split
    ·rw[if_pos hc]
    ·rename_i hcf;exact A4 (hcf.symm.trans hcl)
  have hst:astep P n o en=some (ins (1000000+d) (.obj e s (snapA 0 m xs++ys)) (ins d (.sb (1000000+d) e s 0 (snapA 0 m xs++ys).length) (forget id en))):=by
   unfold astep;rw[ho];simp only[hax,hat,hd,ha,hb,hao]
  refine WO.step (e1:=_) ?_ h;unfold step1;rw[hw]
  cases draw with
  | true =>
   have hlf:lfOk all o en=true:=by simpa using hlf0
   have:isEff o.op=true:=by rw[ho];rfl
   refine YI hlf ?_;unfold astepD;simp only[this,hst]
  | false=>exact hst
def PostM (P:Program) (fn:Func) (r:AV) (hp:Env):Ex→Env→Prop
 | .exit _,_=>False
 | _,e=>Ux P fn e=some r∧ents e=hp
theorem qeC {f:Nat} {args:List AV} {r:AV} {hp hp2:Env} {fn:Func} {c:Code} (hf:P.funcs[f]? = some fn) (hb:fn.body=some c) (hlen:(A3 args.length fn.ntmps && A3 fn.ntmps 1000000 && hpOk hp)=true) {env0:Env} (he:argsEnv 0 (args.map AV.strip)++hp=env0) (h:W P fn.ntmps c (PostM P fn r hp2) env0):Run P (.callM f args hp r hp2):=by
 subst he;obtain⟨ex,e1,h1,h2⟩:=h
 cases ex with
 | exit id=>exact h2.elim
 | normal=>obtain⟨h2,rfl⟩:=h2;exact .callM hf hb hlen h1 trivial h2
 | ret=>obtain⟨h2,rfl⟩:=h2;exact .callM hf hb hlen h1 trivial h2
theorem WO.end0 {draw:Bool} {all ops:List Oper} {Q:Env→Prop} {env e2:Env} (he:stepsK P n draw all ops.length ops env=some e2) (h:Q e2):WO P n draw all ops Q env:=by
 refine WO.steps ops.length he ?_;rw[List.drop_length];exact .nil h
def snap {α:Type} (off n:Nat) (l:List α):List α:=(l.drop off).take n
theorem Dx {α:Type} {f:α→AV} {off n:Nat} {l:List α}:snapA off n (A0 f l)=A0 f (snap off n l):=by
 unfold snapA snap;rw[List.map_take,List.map_drop]
theorem qaQ {α:Type} {l:List α}:snap 0 l.length l=l:=by
 unfold snap;simp
theorem qcG {α:Type} {n:Nat} {x:α}:snap 0 n (A6 n x)=A6 n x:=by
 unfold snap;simp
theorem qhB {α:Type} {l:List α} {j:Nat} {y:α} {f:α→AV} (h:l[j]? = some y):(A0 f l)[j]? = some (f y):=by
 rw[List.getElem?_map,h];rfl
theorem qhA {α:Type} {l l':List α} {j:Nat} {v:α} {f:α→AV} (h:l.set j v=l'):(A0 f l).set j (f v)=A0 f l':=by
 rw[← h,List.map_set]
theorem qic {α β:Type} {l:List α} {j:Nat} {y:α} {f:α→AV} {G:AV→Option β} (h:l[j]? = some y):(match (A0 f l)[j]? with | some y=>G y | none=>none)=G (f y):=by
 rw[List.getElem?_map,h];rfl
theorem qhb {α:Type} {c:Prop} [Decidable c] {x:α} (h:decide c=true):(if c then some x else none)=some x:=if_pos (of_decide_eq_true h)
theorem W.rg {id:Nat} {ops:Array Oper} {draw:Bool} {Q:Ex→Env→Prop} {env:Env} (h:WO P n draw ops.toList ops.toList (Q .normal) env) (hd:(!draw || (orderOk ops && jS ops))=true:=by kernel_rfl):W P n (.region id ops draw) Q env:=W.region hd h
theorem W.wk {c:Code} {Q:Ex→Env→Prop} {env e:Env} (h:W P n c Q e) (he:weakE (e.map A5) [] [] [] env=e:=by kernel_rfl):W P n c Q env:=W.weak _ _ _ _ he h
theorem WO.fn {draw:Bool} {all ops:List Oper} {Q:Env→Prop} {env e2:Env} {c:Code} {Q':Ex→Env→Prop} (h:W P n c Q' e2) (he:finE P n draw all ops (e2.map A5) [] [] [] env=some e2:=by kernel_rfl) (hQ:∀ e,W P n c Q' e→Q e:=by exact fun _ h=>h):WO P n draw all ops Q env:=WO.fin _ _ _ _ he hQ h
theorem W.rt {id:Nat} {ops:Array Oper} {draw:Bool} {y:Code} {Q Q':Ex→Env→Prop} {env e2:Env} (h:W P n y Q' e2) (hd:(!draw || (orderOk ops && jS ops))=true:=by kernel_rfl) (he:finE P n draw ops.toList ops.toList (e2.map A5) [] [] [] env=some e2:=by kernel_rfl) (hQ:∀ e,W P n y Q' e→Q .normal e:=by exact fun _ h=>h):W P n (.region id ops draw) Q env:=W.regT _ _ _ _ hd he hQ h
theorem WO.ck {draw:Bool} {all ops:List Oper} {Q:Env→Prop} {env e1:Env} {F:Nat} {l C:List AV} {r:AV} (k:Nat) (hr:Run P (.call F (l++C) r)) (h:WO P n draw all (ops.drop (k+1)) Q e1)
  (hp:stepsE P n draw all k ops env (fun os e=>match os with | o::_=>callPre all o e | []=>none)=some (F,l,C):=by kernel_rfl) (hok:okFn P F=true:=by kernel_rfl)
  (he:stepsE P n draw all k ops env (fun os e=>match os with | o::_=>callPut n draw o.dst r e | []=>none)=some e1:=by kernel_rfl):WO P n draw all ops Q env:=WO.callK k hp hok hr he h
theorem WO.cm {all ops:List Oper} {Q:Env→Prop} {env e1:Env} {F:Nat} {args:List AV} {hp hp2:Env} {r:AV} (k:Nat) (ρ nw:List (Nat×Nat)) (hr:Run P (.callM F args hp r hp2)) (h:WO P n false all (ops.drop (k+1)) Q e1)
  (h0:stepsE P n false all k ops env (fun os e=>match os with | o::_=>qam P all o e ρ | []=>none)=some (F,args,hp):=by kernel_rfl)
  (he:stepsE P n false all k ops env (fun os e=>match os with | o::_=>Uc n o.dst ρ nw r hp2 e | []=>none)=some e1:=by kernel_rfl):WO P n false all ops Q env:=WO.callMK k ρ nw h0 hr he h
def pureX (P:Program) (n:Nat) (draw:Bool) (all:List Oper) (k:Nat) (ops:List Oper) (env:Env) (v:AV):Option (Option AV) :=
 stepsE P n draw all k ops env (fun os e=>match os with
   | o::_=>match awanted all o e with
    | some true=>match plainOp o.op && notBox v with
     | true=>some (apure P o e)
     | false=>none
    | _=>none
   | []=>none)
def putX (n:Nat) (P:Program) (draw:Bool) (all:List Oper) (k:Nat) (ops:List Oper) (env:Env) (v:AV):Option Env :=
 stepsE P n draw all k ops env (fun os e=>match os with | o::_=>eput n o.dst v e | []=>none)
theorem WO.pk {draw:Bool} {all ops:List Oper} {Q:Env→Prop} {env e1:Env} {v:AV} (k:Nat) (X:Option AV) (hX:X=some v) (h:WO P n draw all (ops.drop (k+1)) Q e1) (hp:pureX P n draw all k ops env v=some X:=by kernel_rfl) (he:putX n P draw all k ops env v=some e1:=by kernel_rfl):WO P n draw all ops Q env :=
 WO.pureK k X hp hX he h
theorem WO.pi {draw:Bool} {all ops:List Oper} {Q:Env→Prop} {env e1:Env} {v:AV} (k:Nat) {c:Prop} [Decidable c] (hc:decide c=true) (h:WO P n draw all (ops.drop (k+1)) Q e1) (hp:pureX P n draw all k ops env v=some (if c then some v else none):=by kernel_rfl) (he:putX n P draw all k ops env v=some e1:=by kernel_rfl):WO P n draw all ops Q env :=
 WO.pureK k _ hp (qhb hc) he h
theorem WO.pl {draw:Bool} {all ops:List Oper} {Q:Env→Prop} {env e1:Env} {v:AV} {α:Type} {l:List α} {j:Nat} {y:α} (k:Nat) (F:α→AV) (T O:Nat) (hj:l[j]? = some y) (h:WO P n draw all (ops.drop (k+1)) Q e1)
  (hp:pureX P n draw all k ops env v=some (match (A0 F l)[j]? with | some y=>cut P T (y.cells.map AV.strip) O | none=>none):=by kernel_rfl) (hv:cut P T ((F y).cells.map AV.strip) O=some v:=by kernel_rfl) (he:putX n P draw all k ops env v=some e1:=by kernel_rfl):WO P n draw all ops Q env :=
 WO.pureK k _ hp ((qic (f:=F) (G:=fun y=>cut P T (y.cells.map AV.strip) O) hj).trans hv) he h
theorem WO.sk {draw:Bool} {all ops:List Oper} {Q:Env→Prop} {env e1:Env} {id e s:Nat} {vs:List AV} {j off:Nat} {α:Type} {l l':List α} {y w:α} (k:Nat) (F:α→AV) (hy:l[j]? = some y) (hz:l.set j w=l') (h:WO P n draw all (ops.drop (k+1)) Q e1)
  (hp:stepsE P n draw all k ops env (fun os e=>match os with | o::_=>stPre P all o e | []=>none)=some (id,e,s,A0 F l,j,off,vs):=by kernel_rfl) (hput:putElem (F y) off vs=some (F w):=by kernel_rfl)
  (he:stepsE P n draw all k ops env (fun os en=>some (ins id (.obj e s (A0 F l')) en))=some e1:=by kernel_rfl):WO P n draw all ops Q env :=
 WO.storeK k hp (qhB hy) hput (qhA hz) he h
theorem cW {f:Nat} {args:List AV} {r:AV} {fn:Func} {c:Code} (hf:P.funcs[f]? = some fn) (hb:fn.body=some c) {env0:Env} (h:W P fn.ntmps c (Post P fn r) env0) (hlen:(A3 args.length fn.ntmps && A3 fn.ntmps 1000000)=true:=by kernel_rfl) (he:argsEnv 0 (args.map AV.strip)=env0:=by kernel_rfl):Run P (.call f args r):=qgj hf hb hlen he h
theorem cM {f:Nat} {args:List AV} {r:AV} {hp hp2:Env} {fn:Func} {c:Code} (hf:P.funcs[f]? = some fn) (hb:fn.body=some c) {env0:Env} (h:W P fn.ntmps c (PostM P fn r hp2) env0) (hlen:(A3 args.length fn.ntmps && A3 fn.ntmps 1000000 && hpOk hp)=true:=by kernel_rfl) (he:argsEnv 0 (args.map AV.strip)++hp=env0:=by kernel_rfl):Run P (.callM f args hp r hp2):=qeC hf hb hlen he h
abbrev EN (l:Env):Env:=l
abbrev hB (l:List Bool):AV:=.hob 3 [] (A0 AV.bool l)
abbrev hZ:AV:=.hob 3 [] (A0 AV.bool (A6 252 false))
theorem WO.pq {draw:Bool} {all ops:List Oper} {Q:Env→Prop} {env e1:Env} {X:Option AV} {v:AV} (k:Nat) (hX:X=some v) (h:WO P n draw all (ops.drop (k+1)) Q e1) (hp:pureX P n draw all k ops env v=some X:=by kernel_rfl) (he:putX n P draw all k ops env v=some e1:=by kernel_rfl):WO P n draw all ops Q env :=
 WO.pureK k X hp hX he h
theorem jB {b c:Bool} (h:b=c):(some (AV.bool b):Option AV)=some (.bool c):=by rw[h]
theorem jI {a b:Int} (h:a=b):(some (AV.int .i64 a):Option AV)=some (.int .i64 b):=by rw[h]
theorem jM {α:Type} (f:α→AV) (l:List α):(some (AV.int .i64 ((A0 f l).length:Int)):Option AV)=some (.int .i64 (l.length:Int)):=by rw[List.length_map]
theorem W.rr {Q:Ex→Env→Prop} {env:Env} (h:Q .ret env:=by exact (show QT _ _ _=some _ by kernel_rfl)):W P n .ret Q env:=W.ret h
theorem W.sr {id:Nat} {ops:Array Oper} {draw:Bool} {y:Code} {Q:Ex→Env→Prop} {env:Env} (h:WO P n draw ops.toList ops.toList (Then y P n Q .normal) env) (hd:(!draw || (orderOk ops && jS ops))=true:=by kernel_rfl):W P n (.seq (.region id ops draw) y) Q env:=W.seq (W.rg h hd)
theorem WO.fi {draw:Bool} {all ops:List Oper} {Q:Env→Prop} {env e2:Env} {c:Code} {Q':Ex→Env→Prop} (keep frz:List Nat) (h:W P n c Q' e2) (he:finE P n draw all ops keep frz [] [] env=some e2:=by kernel_rfl) (hQ:∀ e,W P n c Q' e→Q e:=by exact fun _ h=>h):WO P n draw all ops Q env:=WO.fin _ _ _ _ he hQ h
theorem W.rT {id:Nat} {ops:Array Oper} {draw:Bool} {y:Code} {Q Q':Ex→Env→Prop} {env e2:Env} (keep frz:List Nat) (h:W P n y Q' e2) (hd:(!draw || (orderOk ops && jS ops))=true:=by kernel_rfl) (he:finE P n draw ops.toList ops.toList keep frz [] [] env=some e2:=by kernel_rfl) (hQ:∀ e,W P n y Q' e→Q .normal e:=by exact fun _ h=>h):W P n (.region id ops draw) Q env:=W.regT _ _ _ _ hd he hQ h
theorem WO.bh {draw:Bool} {all ops:List Oper} {Q:Env→Prop} {env:Env} {α:Type} {x y o:α} (k:Nat) (E:Bool→Env) (b:Bool) (h:(bif b then x else y)=o) (ht:x=o→WO P n draw all (ops.drop k) Q (E true)) (hf:y=o→WO P n draw all (ops.drop k) Q (E false)) (he:stepsK P n draw all k ops env=some (E b):=by kernel_rfl):WO P n draw all ops Q env:=WO.boolK k E b he (fun hb=>ht (by subst hb;exact h)) (fun hb=>hf (by subst hb;exact h))
theorem W.ch {c:Operand} {x y:Code} {Q:Ex→Env→Prop} {env:Env} {α:Type} {u v o:α} (b:Bool) (h:(bif b then u else v)=o) (ht:u=o→W P n x Q env) (hf:v=o→W P n y Q env) (hc:aop env c=some (.bool b):=by kernel_rfl):W P n (.cond c x y) Q env:=W.cond b hc (fun hb=>ht (by subst hb;exact h)) (fun hb=>hf (by subst hb;exact h))
theorem W.sw {c:Code} {Q Q':Ex→Env→Prop} {env e:Env} (h:W P n c Q' e) (he:weakE (e.map A5) [] [] [] env=e:=by kernel_rfl) (hQ:W P n c Q' env→Q .normal env:=by exact fun h=>h):W P n .skip Q env:=W.skip (hQ (W.wk h he))
theorem W.cF {c:Operand} {x y:Code} {Q:Ex→Env→Prop} {env:Env} (h:W P n y Q env) (hc:aop env c=some (.bool false):=by kernel_rfl):W P n (.cond c x y) Q env:=W.cond false hc (fun h=>A4 h) (fun _=>h)
theorem W.cT {c:Operand} {x y:Code} {Q:Ex→Env→Prop} {env:Env} (h:W P n x Q env) (hc:aop env c=some (.bool true):=by kernel_rfl):W P n (.cond c x y) Q env:=W.cond true hc (fun _=>h) (fun h=>A4 h)
end
end Go.AM
namespace Go.AM
variable {P:Program} {n:Nat} {K V:Type} {F:K→AV} {G:V→AV} {eq:K→K→Bool}
def mpE (F:K→AV) (G:V→AV) (l:List (K×V)):AV:=.mpv (l.map fun p=>F p.1) (l.map fun p=>G p.2)
def hobE (F:K→AV) (G:V→AV) (l:List (K×V)):AV:=.hob 0 (l.map fun p=>F p.1) (l.map fun p=>G p.2)
def mget (eq:K→K→Bool) (z:V) (k:K):List (K×V)→V
 | []=>z
 | p::r=>bif eq p.1 k then p.2 else mget eq z k r
def mset (eq:K→K→Bool) (k:K) (v:V):List (K×V)→List (K×V)
 | []=>[(k,v)]
 | p::r=>bif eq p.1 k then (p.1,v)::r else p::mset eq k v r
def keq1 (x a:Int):Bool:=x == a
theorem Us (he:∀ x y,akeq (F x) (F y)=eq x y) (z:V) (k:K):∀ l:List (K×V),
  (∃ j,findA (F k) (l.map fun p=>F p.1)=some j∧(l.map fun p=>G p.2)[j]? = some (G (mget eq z k l)))∨(findA (F k) (l.map fun p=>F p.1)=none∧mget eq z k l=z)
 | []=>.inr ⟨rfl,rfl⟩
 | p::r=>by
  have ih:=Us he z k r;simp only[A2,findA,mget,he]
  cases hq:eq p.1 k with
  | true=>exact .inl ⟨0,rfl,rfl⟩
  | false =>
   simp only[cN]
   rcases ih with ⟨j,h1,h2⟩ | ⟨h1,h2⟩
   ·rw[h1];exact .inl ⟨j+1,rfl,h2⟩
   ·rw[h1];exact .inr ⟨rfl,h2⟩
theorem Ve (he:∀ x y,akeq (F x) (F y)=eq x y) (k:K) (v:V):∀ l:List (K×V),
  (∃ j,findA (F k) (l.map fun p=>F p.1)=some j∧(mset eq k v l).map (fun p=>F p.1)=l.map (fun p=>F p.1)∧(mset eq k v l).map (fun p=>G p.2)=(l.map fun p=>G p.2).set j (G v)) ∨
  (findA (F k) (l.map fun p=>F p.1)=none∧(mset eq k v l).map (fun p=>F p.1)=l.map (fun p=>F p.1)++[F k]∧(mset eq k v l).map (fun p=>G p.2)=(l.map fun p=>G p.2)++[G v])
 | []=>.inr ⟨rfl,rfl,rfl⟩
 | p::r=>by
  have ih:=Ve he k v r;simp only[A2,findA,mset,he]
  cases hq:eq p.1 k with
  | true=>exact .inl ⟨0,rfl,rfl,rfl⟩
  | false =>
   simp only[cN,A2]
   rcases ih with ⟨j,h1,h2,h3⟩ | ⟨h1,h2,h3⟩
   ·rw[h1,h2,h3];exact .inl ⟨j+1,rfl,rfl,rfl⟩
   ·rw[h1,h2,h3];exact .inr ⟨rfl,rfl,rfl⟩
theorem Vd {kt:TypeId} (hf:∀ x,keyFits P kt (F x)=true) (l:List (K×V)):(l.map fun p=>F p.1).all (keyFits P kt)=true:=by
 rw[List.all_map,List.all_eq_true]
 exact fun p _=>hf p.1
theorem jK {t kt e:TypeId} {l:List (K×V)} {k:K} {z:V} (hk:(F k).keyV.isSome=true) (ht:Xe P t=some (kt,e)) (hf:∀ x,keyFits P kt (F x)=true) (he:∀ x y,akeq (F x) (F y)=eq x y) (hz:zeroA1 P e=some (G z)):alookup P t [] (mpE F G l) (F k)=some (G (mget eq z k l)):=by
 unfold alookup mpE;rw[ht];simp only[ZB];rw[hf,hk,Vd hf];simp only[Bool.and_self]
 rcases Us (G:=G) he z k l with ⟨j,h1,h2⟩ | ⟨h1,h2⟩
 ·rw[h1];exact h2
 ·rw[h1,h2];exact hz
theorem Js {k:IntKind} {i:Int} (h:wfI k i=true):(AV.int k i).keyV.isSome=true:=by
 simp only[AV.keyV,h];rfl
theorem YU {k:IntKind} {i j:Int} (h:(wfI k i && wfI k j)=true):(AV.agg [.int k i,.int k j]).keyV.isSome=true:=by
 rw[Bool.and_eq_true]at h;simp only[AV.keyV,keyVs,h.1,h.2];rfl
def mupPre (P:Program) (all:List Oper) (o:Oper) (env:Env):Option (Nat×TypeId×AV×AV×List AV×List AV) :=
 match awanted all o env with
 | some true=>match o.op with
  | .mapUpdate t m k v=>match o.dst,aop env m,aop env k,aop env v,Xe P t with
   | none,some (.mb 0 id),some k,some v,some (kt,e)=>match v.mapElem,look env id with
    | true,some (.hob 0 ks vs)=>some (id,kt,k,v.strip,ks,vs)
    | _,_=>none
   | _,_,_,_,_=>none
  | _=>none
 | _=>none
theorem WO.mapK {draw:Bool} {all ops:List Oper} {Q:Env→Prop} {env e1:Env} {id kt:Nat} {l:List (K×V)} {a:K} {b:V} (k:Nat) (hk:(F a).keyV.isSome=true) (hn:Nat.blt l.length 1000000000=true) (h:WO P n draw all (ops.drop (k+1)) Q e1)
  (hf:∀ x,keyFits P kt (F x)=true) (he:∀ x y,akeq (F x) (F y)=eq x y)
  (hp:stepsE P n draw all k ops env (fun os e=>match os with | o::_=>mupPre P all o e | []=>none)=some (id,kt,F a,G b,l.map (fun p=>F p.1),l.map (fun p=>G p.2)):=by kernel_rfl)
  (hs:stepsE P n draw all k ops env (fun os en=>some (ins id (hobE F G (mset eq a b l)) en))=some e1:=by kernel_rfl):WO P n draw all ops Q env:=by
 obtain⟨en,h1,h2⟩:=ju hp;obtain⟨en',h3,h4⟩:=ju hs;rw[h1]at h3;cases h3;cases h4;refine WO.steps k h1 ?_
 cases hos:ops.drop k with
 | nil=>rw[hos]at h2;cases h2
 | cons o rest =>
  rw[hos]at h2;rw[Yf hos]at h;simp only[mupPre]at h2
  split at h2 <;> try cases h2
  rename_i hw
  split at h2 <;> try cases h2
  rename_i t m k0 v0 ho
  split at h2 <;> try cases h2
  rename_i id' k' v' kt' e' hd hm hk' hv ht
  split at h2 <;> try cases h2
  rename_i ks vs hel hl;simp only[Option.some.injEq,Prod.mk.injEq]at h2;obtain⟨rfl,rfl,rfl,hb,rfl,rfl⟩:=h2
  have hst:astep P n o en=some (ins id' (hobE F G (mset eq a b l)) en):=by
   unfold astep;rw[ho];simp only[hd,hm,hk',hv,ht,hl];rw[hf,hk,Vd hf,hel,List.length_map,hn];simp only[Bool.and_self];unfold hobE
   rcases Ve (G:=G) he a b l with ⟨j,g1,g2,g3⟩ | ⟨g1,g2,g3⟩
   ·rw[g1,g2,g3,hb]
   ·rw[g1,g2,g3,hb]
  refine WO.step (e1:=ins id' (hobE F G (mset eq a b l)) en) ?_ h;unfold step1;rw[hw]
  cases draw with
  | true =>
   have:isEff o.op=true:=by rw[ho];rfl
   refine YI (Vt (by rw[ho];rfl)) ?_;unfold astepD;simp only[this,hst]
  | false=>exact hst
end Go.AM
namespace Go.AM
open Go.RowKit
section
variable {bs:Base} {n:Nat} {M:Mem} {O:Gh} {env:Env} {a:Act} {w:World} {P:Program}
theorem Ym {o:Oper} {env':Env} (h:Leads P bs n o a w env') {K:Act→World→Prop} {Q:Exit→Act→World→Prop} (hK:∀ a' w' M' O',Inv bs n M' O' env' a' w'→K a' w'):o.wp P a w K Q:=by
 obtain⟨v,w',M',O',h1,h2⟩:=h;unfold Oper.wp
 rcases h1 with h1 | ⟨h1,rfl⟩ <;> rw[h1] <;> exact hK _ _ _ _ h2
theorem jP (h:Inv bs n M O env a w) {all:List Oper} {o:Oper} {b:Bool} (hw:awanted all o env=some b):A7 o (yielded all.toArray a.tmps)=b:=by
 unfold awanted at hw;unfold A7;split at hw
 ·rename_i hg;rw[hg];cases hw;rfl
 ·rename_i j want hg;rw[hg];simp only;split at hw
  ·cases hw
  ·rename_i t ht;split at hw
   ·rename_i c hl;cases hw;have hs:=h.slots t _ hl;have hv:a.tmps.getD t undef=.bool c:=hs.1.bool_inv
    have ht':((all.toArray[j]?).bind (·.dst))=some t:=by simpa using ht
    unfold yielded;rw[ht'];simp only[Option.bind_some]
    have hget:a.tmps[t]? = some (.bool c):=by
     cases hx:a.tmps[t]? with
     | none =>
      rw[A8,hx]at hv;simp[undef]at hv
     | some y =>
      rw[A8,hx]at hv;simp at hv;rw[hv]
    rw[hget];cases c <;> cases want <;> rfl
   ·rename_i hl;cases hw;have hs:=h.slots t _ hl
    have hv:a.tmps.getD t undef=undef:=by
     have:=hs.1;generalize a.tmps.getD t undef=y at this;cases this;rfl
    have ht':((all.toArray[j]?).bind (·.dst))=some t:=by simpa using ht
    unfold yielded;rw[ht'];simp only[Option.bind_some]
    cases hx:a.tmps[t]? with
    | none=>rfl
    | some y =>
     rw[A8,hx]at hv;simp at hv;subst hv;rfl
   ·cases hw
def StepSem (P:Program) (n:Nat) (all:List Oper) (o:Oper) (e e1:Env):Prop :=
 ∀ (bs:Base) (M:Mem) (O:Gh) (a:Act) (w:World),Inv bs n M O e a w→∀ (K:Act→World→Prop) (Q:Exit→Act→World→Prop),(∀ a' w' M' O',Inv bs n M' O' e1 a' w'→K a' w') →
  if A7 o (yielded all.toArray a.tmps) then o.wp P a w K Q else K (a.put o.dst undef) w
def insO (d:Option Nat) (x:AV) (E:Env):Env :=
 match d with
 | some t=>ins t x E
 | none=>E
def lookS (env:Env) (t:Nat):Option AV:=(look env t).map AV.sk
def NA (all:List Oper) (o:Oper) (e E:Env):Prop:=∀ t,t∈namesOf all.toArray o→∀ y,lookS e t=some y→lookS E t=some y
def EA (e E:Env):Prop:=∀ s x,x.ent=true→look e s=some x→look E s=some x
def Pure1 (P:Program) (n:Nat) (all:List Oper) (o:Oper) (e e1:Env):Prop :=
 ∃ x,eput n o.dst x e=some e1∧x.ent=false∧∀ E,NA all o e E→(memFree o.op=true∨EA e E)→StepSem P n all o E (insO o.dst x E)
def St1 (P:Program) (n:Nat) (all:List Oper) (o:Oper) (e e1:Env):Prop :=
 isStore o.op=true∧o.dst=none∧∃ s x x',look e s=some x∧x.ent=true∧x'.ent=true∧x'.sk=x.sk∧e1=ins s x' e∧∀ E,NA all o e E→look E s=some x→StepSem P n all o E (ins s x' E)
def LE (E F:Env):Prop:=∀ t,look E t=look F t
def ClearL (id:Nat) (E:Env):Prop:=look E id=none∧∀ s x,look E s=some x→x.refs id=false
def Unord (all:List Oper) (o x:Oper):Prop:=∃ k i,all[k]? = some o∧all[i]? = some x∧i≠k∧((Region.before all.toArray).getD k 0).testBit i=false∧((Region.before all.toArray).getD i 0).testBit k=false
def IsA (P:Program) (n:Nat) (all:List Oper) (o:Oper) (E E1:Env):Prop :=
 isMk o.op=true∧∃ (d:Nat) (x y:AV),o.dst=some d∧x.ent=false∧ClearL (1000000+d) E∧LE (ins (1000000+d) y (ins d x E)) E1∧∀ F,NA all o E F→ClearL (1000000+d) F→look F d=none→StepSem P n all o F (ins (1000000+d) y (ins d x F))
def IsB (P:Program) (n:Nat) (all:List Oper) (o:Oper) (E E1:Env):Prop :=
 isApp o.op=true∧((∀ x,¬ Unord all o x)∨∃ (d:Nat) (v:AV) (g:AV→AV),o.dst=some d∧LE (ins d v (E.map fun p=>(p.1,g p.2))) E1∧(∀ x,plainV (some x)=true→g x=x) ∧
  (∀ x,Unord all o x→∀ t,t∈namesOf all.toArray x→plainV (look E t)=true)∧∀ F,NA all o E F→look F d=none→StepSem P n all o F (ins d v (F.map fun p=>(p.1,g p.2))))
def Hard (P:Program) (n:Nat) (all:List Oper) (o:Oper) (e e1:Env):Prop :=
 (isEff o.op=true∧isStore o.op=false)∧(∀ t,t<1000000→o.dst≠some t→look e t=none→look e1 t=none)∧(o.guard=none→isMk o.op=true→IsA P n all o e e1)∧(o.guard=none→isApp o.op=true→IsB P n all o e e1)
def StepOk (P:Program) (n:Nat) (draw:Bool) (all:List Oper) (o:Oper) (e e1:Env):Prop :=
 StepSem P n all o e e1∧(draw=true→Hard P n all o e e1∨St1 P n all o e e1∨((isEff o.op=false∨isStore o.op=true)∧Pure1 P n all o e e1))
inductive Chain (P:Program) (n:Nat) (draw:Bool) (all:List Oper):List Oper→Env→Env→Prop where
 | nil {e}:Chain P n draw all [] e e
 | drop {rest e e'} (e0:Env):draw=false→(∀ (bs:Base) (M:Mem) (O:Gh) (a:Act) (w:World),Inv bs n M O e a w→∃ M' O',Inv bs n M' O' e0 a w)→Chain P n draw all rest e0 e'→Chain P n draw all rest e e'
 | step {o rest e e1 e'}:StepOk P n draw all o e e1→Chain P n draw all rest e1 e'→Chain P n draw all (o::rest) e e'
theorem He {draw:Bool} {all rest:List Oper} {e e':Env} (hc:Chain P n draw all rest e e'):∀ {M:Mem} {O:Gh} {a:Act} {w:World},Inv bs n M O e a w→∀ {Q:Exit→Act→World→Prop},(∀ a' w' M' O',Inv bs n M' O' e' a' w'→Q .normal a' w')→wpList P all.toArray Q rest a w:=by
 induction hc with
 | nil=>intro M O a w h Q hQ;exact hQ _ _ _ _ h
 | drop e0 _ hw _ ih =>
  intro M O a w h Q hQ;obtain⟨M',O',h'⟩:=hw _ M O a w h;exact ih h' hQ
 | step hs _ ih =>
  intro M O a w h Q hQ;have:=hs.1 bs M O a w h (wpList P all.toArray Q _) Q (fun a' w' M' O' h'=>ih h' hQ);simp only[wpList];split at this
  ·rename_i hw;rw[if_pos hw];exact .inl this
  ·rename_i hw;rw[if_neg hw];exact this
theorem qee {id:Nat} {ops:Array Oper} {e e':Env} (hc:Chain P n false ops.toList ops.toList e e') (h:Inv bs n M O e a w) {Q:Exit→Act→World→Prop} (hQ:∀ a' w' M' O',Inv bs n M' O' e' a' w'→Q .normal a' w'):(Code.region id ops false).wp P Q a w:=by
 refine wp_region_list ?_;have:=He hc h hQ
 simpa using this
theorem qgx {all:List Oper} {o:Oper} {e e1:Env} (hw:awanted all o e=some false) (he:eput n o.dst .und e=some e1):StepSem P n all o e e1:=by
 intro bs M O a w h K Q hK;rw[jP h hw];simp only[Bool.false_eq_true,if_false];exact hK _ _ _ _ (Yr h (x:=.und) ⟨.und,trivial⟩ he)
theorem Nc {all:List Oper} {o:Oper} {e e1:Env} (hw:awanted all o e=some true) (he:astep P n o e=some e1):StepSem P n all o e e1:=by
 intro bs M O a w h K Q hK;rw[jP h hw];simp only[if_true];exact Ym (HT h he) hK
theorem qgw {all:List Oper} {o:Oper} {e e1:Env} (hw:awanted all o e=some true) (he:arow P n o e=some e1):StepSem P n all o e e1:=by
 intro bs M O a w h K Q hK;rw[jP h hw];simp only[if_true];exact Ym (qeE h he) hK
theorem qgy {all:List Oper} {o:Oper} {e e1:Env} (hw:awanted all o e=some true) (he:aagr P n o e=some e1):StepSem P n all o e e1:=by
 intro bs M O a w h K Q hK;rw[jP h hw];simp only[if_true];exact Ym (qeI h he) hK
theorem qfq {all:List Oper} {o:Oper} {e e1:Env} {x:AV} (hw:awanted all o e=some true) (hx:apure P o e=some x) (he:eput n o.dst x e=some e1):StepSem P n all o e e1:=by
 intro bs M O a w h K Q hK;rw[jP h hw];simp only[if_true];exact Ym (Vr h hx he) hK
theorem VY (h:Inv bs n M O env a w) {d:Option Nat} {x:AV} {v:Value} (hv:ValOk O M w x v) (hd:∀ t,d=some t→t<n):Inv bs n M O (insO d x env) (a.put d v) w:=by
 cases d with
 | none=>exact h
 | some t=>exact h.put (hd t rfl) hv
theorem QC {d:Option Nat} {x:AV} {e e1:Env} (he:eput n d x e=some e1):e1=insO d x e∧(∀ t,d=some t→t<n)∧∀ t,d=some t→∀ y,look e t=some y→y.ent=false:=by
 cases d with
 | none=>cases he;exact⟨rfl,(fun t e=>by cases e),(fun t e=>by cases e)⟩
 | some t =>
  obtain⟨h1,h2,h3⟩:=Zz he;exact⟨h2,(fun t' e=>by cases e;exact h1),fun t' e y hy=>by cases e;exact h3 y hy⟩
theorem NC {all:List Oper} {o:Oper} {e:Env} {f:Nat} {args:List AV} {r:AV} (hc:acallee P o e=some (f,args)) (hr:CallOk P f args r) (h:Inv bs n M O e a w) {K:Act→World→Prop} {Q:Exit→Act→World→Prop}
  (hK:∀ v w' M',Inv bs n M' O e a w'→R M' r v→OwnR M' w.heap.size w' r v→(∀ i c g,O i c=some g→g<w.heap.size)→(∀ g,w.heap.size≤g→¬ bs.D g)→K (a.put o.dst v) w'):o.wp P a w K Q:=by
 obtain⟨vs,h1,h2,h3⟩:=qcv h hc;unfold Oper.wp;rw[h1];show Calls P f vs.toArray w _;refine (hr M w vs h.glob h.cons h2 h3).mono ?_
 rintro ed w' ⟨v,M',rfl,hb,hs,hC,ho,hR,hO⟩
 exact hK v w' M' (h.grown (row:=none) (fun g e=>by cases e) (HQ hb) hs hC (fun b o hb _=>ho b o hb)) hR hO (fun i c g hg=>(h.own i c g hg).2) (fun g hg=>h.fresh hg)
theorem HO {all:List Oper} {o:Oper} {e:Env} {f:Nat} {args:List AV} {r:AV} (hc:Xs P o e=some (f,args)) (hp:r.plain=true) (hr:CallOk P f args r) (h:Inv bs n M O e a w) {K:Act→World→Prop} {Q:Exit→Act→World→Prop}
  (hK:∀ v w',Inv bs n M O e a w'→R M r v→K (a.put o.dst v) w'):o.wp P a w K Q:=by
 obtain⟨vs,h1,h2,h3⟩:=qaF h hc;unfold Oper.wp;rw[h1];show Calls P f vs.toArray w _;refine (hr _ w vs (h.glob.mono (XR h)) (qfR h) h2 h3).mono ?_
 rintro ed w' ⟨v,M',rfl,hb,hs,hC,ho,hR,hO⟩
 exact hK v w' (h.grown (row:=none) (fun g e=>by cases e) (HQ hb) (Sub.refl M) (fun b o u hu=>hC b o u (hs b o u (XR h b o u hu))) (fun b o hb _=>rfl)) (qhE hp hR)
theorem Ya (x:AV):x.strip.lab? = none:=by cases x <;> rfl
theorem qdO {all:List Oper} {o:Oper} {e e1:Env} {f:Nat} {args:List AV} {r:AV} (hw:awanted all o e=some true) (hc:Xs P o e=some (f,args)) (hp:r.plain=true) (hr:CallOk P f args r) (he:eput n o.dst r e=some e1):StepSem P n all o e e1:=by
 intro bs M O a w h K Q hK;rw[jP h hw];simp only[if_true]
 exact HO (all:=all) hc hp hr h fun v w' h' hR=>hK _ _ _ _ (Yr h' (JI hR (qaZ hp)) he)
theorem qfr {draw:Bool} {all:List Oper} {o:Oper} {e e1:Env} {f:Nat} {args:List AV} {r:AV} (hw:awanted all o e=some true) (hc:acallee P o e=some (f,args)) (hr:CallOk P f args r) (he:callPut n draw o.dst r e=some e1):StepSem P n all o e e1:=by
 intro bs M O a w h K Q hK;rw[jP h hw];simp only[if_true]
 refine NC (all:=all) hc hr h fun v w' M' h' hR hO hlt hB=>?_
 have plain:eput n o.dst r.strip e=some e1→K (a.put o.dst v) w':=fun he=>hK _ _ _ _ (Yr h' (JI hR.strip (Ya r)) he)
 unfold callPut at he;split at he
 ·split at he
  ·exact plain he
  ·cases he
 ·split at he
  ·rename_i c hl
   cases r with
   | lst el k lab xs =>
    cases lab with
    | none=>cases hl
    | some c' =>
     simp only[AV.strip]at he plain
     cases hd:o.dst with
     | none=>rw[hd]at he plain;exact plain he
     | some d =>
      rw[hd]at he plain;simp only[fresh]at he;split at he
      ·exact plain he
      ·rename_i hlab;obtain⟨hdn,rfl⟩:=ZA he
       have hput:∃ O',Inv bs n M' O' (ins d (.lst el k (some d) xs) e) (a.put (some d) v) w':=by
        rcases hO with hv | ⟨g,off,cap,cur,q1,q2,q3,q4,q5,q6,q7⟩
        ·exact h'.putFresh (g:=0) (off:=0) (cap:=0) (cur:=#[]) hdn hlab hR.setLab (.inl hv)
        ·exact h'.putFresh hdn hlab hR.setLab (.inr ⟨q1,hB g q2,fun i c hc=>by have:=hlt i c _ hc;omega,q3,q4,q5,q6,q7⟩)
       obtain⟨O',hput⟩:=hput;exact hK _ _ _ _ hput
   | _=>cases hl
  ·exact plain he
end
end Go.AM
namespace Go.AM
open Go.RowKit
section
variable {n:Nat} {P:Program}
def Knows (e E:Env) (xs:List Operand):Prop:=∀ x,x∈xs→∀ v,aop e x=some v→aop E x=some v
theorem qgE (x:AV):x.sk.ent=x.ent:=by cases x <;> rfl
theorem qeL {x:AV} (h:x.ent=false):x.sk=x:=by cases x <;> first | rfl | cases h
theorem qgr {e E:Env} {t:Nat} {v:AV} (h:∀ y,lookS e t=some y→lookS E t=some y) (hv:aop e (.tmp t)=some v):aop E (.tmp t)=some v:=by
 simp only[aop]at hv ⊢
 cases hl:look e t with
 | none=>rw[hl]at hv;cases hv
 | some y =>
  have:=h y.sk (by simp[lookS,hl]);simp only[lookS]at this
  cases hL:look E t with
  | none=>rw[hL]at this;cases this
  | some Y =>
   rw[hL]at this;simp only[Option.map_some,Option.some.injEq]at this;rw[hl]at hv
   cases y <;> cases Y <;> simp only[AV.sk]at this <;> first | (cases this;exact hv) | (cases this;done) | exact hv | (simp at hv;done)
theorem qgY {e E:Env} {ts:List Nat} (h:∀ t,t∈ts→∀ y,lookS e t=some y→lookS E t=some y) {xs:List Operand} (hx:∀ x t,x∈xs→x=.tmp t→t∈ts):Knows e E xs:=by
 intro x hxm v hv
 cases x with
 | tmp t=>exact qgr (h t (hx _ t hxm rfl)) hv
 | _=>exact hv
theorem Zd {e E:Env}:∀ {xs:List Operand} {l:List AV},Knows e E xs→optAll (xs.map (aop e))=some l→optAll (xs.map (aop E))=some l
 | [],l,_,h=>h
 | x::xs,l,hk,h=>by
  simp only[A2]at h ⊢
  cases hx:aop e x with
  | none=>rw[hx]at h;cases h
  | some v =>
   rw[hx]at h;rw[hk x (List.mem_cons_self ..) v hx];simp only[optAll]at h ⊢;split at h
   ·rename_i l' hl';rw[Zd (fun y hy=>hk y (B5 _ hy)) hl'];exact h
   ·cases h
theorem VW {e E:Env}:∀ {ps:List (Nat×Operand)} {l:List (Nat×AV)},Knows e E (ps.map (·.2)) →
  optAll (ps.map fun p=>match aop e p.2 with | some v=>some (p.1,v) | none=>none)=some l→optAll (ps.map fun p=>match aop E p.2 with | some v=>some (p.1,v) | none=>none)=some l
 | [],l,_,h=>h
 | (i,x)::ps,l,hk,h=>by
  simp only[A2]at h ⊢ hk
  cases hx:aop e x with
  | none=>rw[hx]at h;cases h
  | some v =>
   rw[hx]at h;rw[hk x (List.mem_cons_self ..) v hx];simp only[optAll]at h ⊢;split at h
   ·rename_i l' hl';rw[VW (fun y hy=>hk y (B5 _ hy)) hl'];exact h
   ·cases h
theorem ZP {e E:Env} {d:Int} {x:Option Operand} (hk:Knows e E x.toList) {m:Int} (h:aoptInt e d x=some m):aoptInt E d x=some m:=by
 cases x with
 | none=>exact h
 | some y =>
  simp only[aoptInt]at h ⊢;split at h
  ·rename_i k m' hy;rw[hk y (by simp) _ hy];exact h
  ·cases h
theorem qdJ {e E:Env} {t:TypeId} {p r:AV} (hb:EA e E) (h:aload P e t p=some r):aload P E t p=some r:=by
 unfold aload at h ⊢;split at h
 ·rename_i s off;split at h
  ·rename_i cs hl;simp only[hb s _ rfl hl];exact h
  ·rename_i cs hl;simp only[hb s _ rfl hl];exact h
  ·rename_i ks cs hl;simp only[hb s _ rfl hl];exact h
  ·cases h
 ·exact h
 ·rename_i id k j o;split at h
  ·rename_i e' k' xs hl;simp only[hb id _ rfl hl];exact h
  ·cases h
 ·cases h
theorem qaC {e E:Env} {m:AV} {q:List AV×List AV} (hb:EA e E) (h:ZB e m=some q):ZB E m=some q:=by
 unfold ZB at h ⊢;split at h
 ·exact h
 ·rename_i id;split at h
  ·rename_i ks vs hl;simp only[hb id _ rfl hl];exact h
  ·cases h
 ·cases h
theorem qaJ {e E:Env} {t:TypeId} {m k r:AV} (hb:EA e E) (h:alookup P t e m k=some r):alookup P t E m k=some r:=by
 unfold alookup at h ⊢;split at h
 ·rename_i kt et ks vs ht he;simp only[ht,qaC hb he];exact h
 ·cases h
theorem qcy {e E:Env} {t:TypeId} {p r:AV} {lo hi:Option Operand} (hk:Knows e E (lo.toList++hi.toList)) (h:aslice P t p lo hi e=some r):aslice P t p lo hi E=some r:=by
 have h1:∀ d m,aoptInt e d lo=some m→aoptInt E d lo=some m:=fun d m=>ZP fun x hx=>hk x (B6 _ hx)
 have h2:∀ d m,aoptInt e d hi=some m→aoptInt E d hi=some m:=fun d m=>ZP fun x hx=>hk x (A9 _ hx)
 unfold aslice at h ⊢;split at h
 ·split at h
  ·split at h
   ·split at h
    ·rename_i l m hl hm;simp only[h1 _ _ hl,h2 _ _ hm];simp_all
    ·cases h
   ·cases h
  ·cases h
 ·split at h
  ·split at h
   ·split at h
    ·rename_i l m hl hm;simp only[h1 _ _ hl,h2 _ _ hm];simp_all
    ·cases h
   ·cases h
  ·cases h
 ·split at h
  ·split at h
   ·rename_i l m hl hm;simp only[h1 _ _ hl,h2 _ _ hm];simp_all
   ·cases h
  ·cases h
 ·split at h
  ·split at h
   ·rename_i l m hl hm;simp only[h1 _ _ hl,h2 _ _ hm];simp_all
   ·cases h
  ·cases h
 ·cases h
theorem Uf {e E:Env} {o:Oper} {x:AV} (hk:Knows e E o.op.operands.toList) (hb:memFree o.op=true∨EA e E) (h:apure P o e=some x):apure P o E=some x:=by
 obtain⟨dst,op,ty,pos,after,guard⟩:=o
 cases op with
 | move y=>exact hk y (by simp[Op.operands]) _ h
 | assign y=>exact hk y (by simp[Op.operands]) _ h
 | pick c p q =>
  simp only[apure]at h ⊢;split at h
  ·rename_i hc;rw[hk c (by simp[Op.operands]) _ hc];exact hk p (by simp[Op.operands]) _ h
  ·rename_i hc;rw[hk c (by simp[Op.operands]) _ hc];exact hk q (by simp[Op.operands]) _ h
  ·cases h
 | binOp op t y z t' =>
  simp only[apure]at h ⊢;split at h
  ·rename_i p q hp hq;rw[hk y (by simp[Op.operands]) _ hp,hk z (by simp[Op.operands]) _ hq];exact h
  ·cases h
 | unOp op t y =>
  simp only[apure]at h ⊢;split at h
  ·rename_i p hp;rw[hk y (by simp[Op.operands]) _ hp];exact h
  ·cases h
 | convert s t y =>
  simp only[apure]at h ⊢;split at h
  ·rename_i p hp;rw[hk y (by simp[Op.operands]) _ hp];exact h
  ·cases h
 | build t ps =>
  simp only[apure]at h ⊢;split at h
  ·rename_i l hl;have:parts? E ps=some l:=VW (by simpa[Op.operands] using hk) hl;rw[this];exact h
  ·cases h
 | buildSlice t m ps =>
  simp only[apure]at h ⊢;split at h
  ·rename_i l hl;have:parts? E ps=some l:=VW (by simpa[Op.operands] using hk) hl;rw[this];exact h
  ·cases h
 | load t y =>
  simp only[apure]at h ⊢;split at h
  ·rename_i p hp;rw[hk y (by simp[Op.operands]) _ hp]
   rcases hb with hb | hb
   ·cases hb
   ·exact qdJ hb h
  ·cases h
 | fieldAddr t y f =>
  simp only[apure]at h ⊢;split at h
  ·rename_i p hp;rw[hk y (by simp[Op.operands]) _ hp];exact h
  ·cases h
 | field t y f =>
  simp only[apure]at h ⊢;split at h
  ·rename_i cs o' ft sz hp hf;rw[hk y (by simp[Op.operands]) _ hp,hf];exact h
  ·rename_i cs o' ft sz hp hf;rw[hk y (by simp[Op.operands]) _ hp,hf];exact h
  ·cases h
 | indexAddr t y i =>
  simp only[apure]at h ⊢;split at h
  ·rename_i p q hp hq;rw[hk y (by simp[Op.operands]) _ hp,hk i (by simp[Op.operands]) _ hq];exact h
  ·cases h
 | index t y i =>
  simp only[apure]at h ⊢;split at h
  ·rename_i p q hp hq;rw[hk y (by simp[Op.operands]) _ hp,hk i (by simp[Op.operands]) _ hq];exact h
  ·cases h
 | slice t y lo hi mx =>
  cases mx with
  | some mx =>
   cases hi with
   | none=>simp[apure]at h
   | some hi =>
    simp only[apure]at h ⊢;split at h
    case h_2=>cases h
    rename_i e0 k0 lab xs k2 m hp hm;simp only[hk y (by simp[Op.operands]) _ hp,hk mx (by simp[Op.operands]) _ hm];split at h
    case h_2=>cases h
    rename_i e' k' hse;split at h
    case h_2=>cases h
    rename_i l k1 c hkk hl hh;simp only[hse,hkk,ZP (E:=E) (fun z hz=>hk z (by simp[Op.operands]at hz ⊢;exact .inr (.inl hz))) hl,hk hi (by simp[Op.operands]) _ hh];exact h
  | none =>
   simp only[apure]at h ⊢;split at h
   ·rename_i p hp;rw[hk y (by simp[Op.operands]) _ hp];refine qcy (fun z hz=>hk z ?_) h;simp only[Op.operands];simp at hz ⊢
    rcases hz with hz | hz
    ·exact .inr (.inl hz)
    ·exact .inr (.inr hz)
   ·cases h
 | lookup t y k c =>
  cases c with
  | true=>simp[apure]at h
  | false =>
   have hb:EA e E:=by
    rcases hb with hb | hb
    ·simp[memFree]at hb
    ·exact hb
   simp only[apure]at h ⊢;split at h
   ·rename_i p q hp hq;rw[hk y (by simp[Op.operands]) _ hp,hk k (by simp[Op.operands]) _ hq];simp only;rw[Option.map_eq_some_iff]at h ⊢;obtain⟨r,hr,e1⟩:=h;exact⟨r,qaJ hb hr,e1⟩
   ·cases h
 | entry y =>
  have hb:EA e E:=by
   rcases hb with hb | hb
   ·simp[memFree]at hb
   ·exact hb
  simp only[apure]at h ⊢;split at h
  ·rename_i id hp;rw[hk y (by simp[Op.operands]) _ hp];simp only;split at h
   ·rename_i k ks v vs hl;simp only[hb id _ rfl hl];exact h
   ·cases h
  ·cases h
 | makeFunc fn first caps =>
  cases fn <;> simp only[apure]at h ⊢ <;> try (cases h;done)
  split at h
  ·rename_i l hf hl;rw[Zd (fun z hz=>hk z (by simp[Op.operands];exact .inr (by simpa using hz))) hl];simp only[hf];exact h
  ·cases h
 | extract y i =>
  simp only[apure]at h ⊢;split at h
  ·rename_i vs hp;rw[hk y (by simp[Op.operands]) _ hp];exact h
  ·rename_i id e' k off m rest hp;rw[hk y (by simp[Op.operands]) _ hp];exact h
  ·cases h
 | nilCheck y =>
  simp only[apure]at h ⊢;split at h
  ·rename_i z hp;rw[hk y (by simp[Op.operands]) _ hp];exact h
  ·rename_i b z hp;rw[hk y (by simp[Op.operands]) _ hp];exact h
  ·rename_i s m hp;rw[hk y (by simp[Op.operands]) _ hp];exact h
  ·cases h
 | call c =>
  obtain⟨callee,args,ats⟩:=c
  cases callee with
  | value f=>simp[apure]at h
  | invoke r m=>simp[apure]at h
  | builtin b =>
   have hka:∀ y,y∈args.toList→∀ v,aop e y=some v→aop E y=some v:=fun y hy=>hk y (by simp[Op.operands,Call.operands];simpa using hy)
   cases b <;> simp only[apure]at h ⊢ <;> try (cases h;done)
   case len =>
    split at h
    ·rename_i y t ha ht;split at h
     ·rename_i p hp;rw[hka y (by rw[ha];simp) _ hp];exact h
     ·cases h
    ·cases h
   case max =>
    split at h
    ·rename_i y z ha;split at h
     ·rename_i k p k' q hp hq;rw[hka y (by rw[ha];simp) _ hp,hka z (by rw[ha];simp) _ hq];exact h
     ·cases h
    ·cases h
   case min =>
    split at h
    ·rename_i y z ha;split at h
     ·rename_i k p k' q hp hq;rw[hka y (by rw[ha];simp) _ hp,hka z (by rw[ha];simp) _ hq];exact h
     ·cases h
    ·cases h
 | _=>simp[apure]at h
theorem qaK {e E:Env} {o:Oper} {f:Nat} {args:List AV} (hk:Knows e E o.op.operands.toList) (h:acallee P o e=some (f,args)):acallee P o E=some (f,args):=by
 unfold acallee at h ⊢;split at h
 case h_2=>cases h
 rename_i fo as ats ho;rw[ho]at hk;split at h
 case h_2=>cases h
 rename_i g caps l hf hl;have h1:=hk fo (by simp[Op.operands,Call.operands]) _ hf;have h2:=Zd (E:=E) (fun z hz=>hk z (by simp[Op.operands,Call.operands];exact .inr (by simpa using hz))) hl;simp only[h1,h2];exact h
theorem JH {all:List Oper} {e E:Env} {o:Oper} {b:Bool} (hk:NA all o e E) (h:awanted all o e=some b):awanted all o E=some b:=by
 unfold awanted at h ⊢;split at h
 ·exact h
 ·rename_i j want hg;split at h
  ·cases h
  ·rename_i t ht
   have hmem:t∈namesOf all.toArray o:=by
    unfold namesOf;rw[hg];refine A9 _ ?_
    have ht':(all.toArray[j]?.bind fun x=>x.dst)=some t:=by simpa using ht
    simp only[ht'];simp
   have key:∀ y,y.ent=false→look e t=some y→look E t=some y:=by
    intro y hy hl;have:=hk t hmem y (by simp[lookS,hl,qeL hy]);simp only[lookS]at this
    cases hL:look E t with
    | none=>rw[hL]at this;cases this
    | some Y =>
     rw[hL]at this;simp only[Option.map_some,Option.some.injEq]at this
     have hY:Y.ent=false:=by rw[← qgE,this];exact hy
     rw[qeL hY]at this;rw[this]
   split at h
   ·rename_i c hl;simp only[ht,key _ rfl hl];exact h
   ·rename_i hl;simp only[ht,key _ rfl hl];exact h
   ·cases h
theorem QR {all:List Oper} {e E:Env} {o:Oper} (hk:NA all o e E):Knows e E o.op.operands.toList:=by
 refine qgY hk fun x t hx ht=>?_
 subst ht;unfold namesOf;refine B6 _ (A9 _ ?_);exact List.mem_filterMap.2 ⟨_,hx,rfl⟩
theorem qgJ {all:List Oper} {o:Oper} {e e1:Env} {x:AV} (hw:awanted all o e=some true) (hx:apure P o e=some x) (he:eput n o.dst x e=some e1) (hnb:x.ent=false):Pure1 P n all o e e1:=by
 refine⟨x,he,hnb,fun E hk hb=>?_⟩;obtain⟨_,hd,_⟩:=QC he;intro bs M O a w h K Q hK;rw[jP h (JH hk hw)];simp only[if_true];obtain⟨v,w',M',h1,h2,h3,h4,h5,h6⟩:=UL h (Uf (QR hk) hb hx);have h':=h.grown (row:=none) (fun g e=>by cases e) h2 h3 h4 (fun b o hb _=>h5 b o hb);unfold Oper.wp;rw[h1];exact hK _ _ _ _ (VY h' h6 hd)
theorem qaY {all:List Oper} {o:Oper} {e e1:Env} (hw:awanted all o e=some false) (he:eput n o.dst .und e=some e1):Pure1 P n all o e e1:=by
 refine⟨.und,he,rfl,fun E hk hb=>?_⟩;obtain⟨_,hd,_⟩:=QC he;intro bs M O a w h K Q hK;rw[jP h (JH hk hw)];simp only[Bool.false_eq_true,if_false];exact hK _ _ _ _ (VY h (x:=.und) ⟨.und,trivial⟩ hd)
theorem qeh {all:List Oper} {o:Oper} {e e1:Env} {f:Nat} {args:List AV} {r:AV} (hw:awanted all o e=some true) (hc:acallee P o e=some (f,args)) (hr:CallOk P f args r) (he:callPut n true o.dst r e=some e1):Pure1 P n all o e e1:=by
 have he':notBox r.strip=true∧eput n o.dst r.strip e=some e1:=by
  unfold callPut at he;simp only at he;split at he
  ·rename_i hb;exact⟨hb,he⟩
  ·cases he
 obtain⟨hnb,he⟩:=he';refine⟨r.strip,he,by simpa[notBox] using hnb,fun E hk hb=>?_⟩;obtain⟨_,hd,_⟩:=QC he;intro bs M O a w h K Q hK;rw[jP h (JH hk hw)];simp only[if_true]
 exact NC (all:=all) (qaK (QR hk) hc) hr h fun v w' M' h' hR _ _ _=>hK _ _ _ _ (VY h' (JI hR.strip (Ya r)) hd)
theorem qgq {e E:Env} (hb:EA e E) {x y:AV} (h:asnapC e x=some y):asnapC E x=some y:=by
 unfold asnapC at h ⊢;split at h
 ·rename_i id;split at h
  ·rename_i ks vs hl;simp only[hb id _ rfl hl];exact h
  ·cases h
 ·rename_i id e' k off m;split at h
  ·rename_i e2 k2 xs hl;simp only[hb id _ rfl hl];exact h
  ·cases h
 ·exact h
theorem Vs {e E:Env} (hb:EA e E):∀ {caps l:List AV},optAll (caps.map (asnapC e))=some l→optAll (caps.map (asnapC E))=some l
 | [],l,h=>h
 | x::xs,l,h=>by
  simp only[A2]at h ⊢
  cases hx:asnapC e x with
  | none=>rw[hx]at h;cases h
  | some v =>
   rw[hx]at h;rw[qgq hb hx];simp only[optAll]at h ⊢;split at h
   ·rename_i l' hl';rw[Vs hb hl'];exact h
   ·cases h
theorem qbE {e E:Env} (hb:EA e E) {x y:AV} (h:asnapP e x=some y):asnapP E x=some y:=by
 unfold asnapP at h ⊢;split at h
 ·exact h
 ·rename_i s;split at h
  ·rename_i c hl;simp only[hb s _ rfl hl];exact h
  ·rename_i cs hne hl;simp only[hb s _ rfl hl];exact h
  ·rename_i cs hl;simp only[hb s _ rfl hl];split at h
   ·rename_i c hl';rw[Vs hb hl'];exact h
   ·rename_i l hne hl';rw[Vs hb hl']
    cases l with
    | nil=>exact h
    | cons c l=>cases l with
     | nil=>exact absurd rfl (hne c)
     | cons c2 l=>exact h
   ·cases h
  ·cases h
 ·cases h
theorem DH {e E:Env} (hb:EA e E):∀ {caps l:List AV},optAll (caps.map (asnapP e))=some l→optAll (caps.map (asnapP E))=some l
 | [],l,h=>h
 | x::xs,l,h=>by
  simp only[A2]at h ⊢
  cases hx:asnapP e x with
  | none=>rw[hx]at h;cases h
  | some v =>
   rw[hx]at h;rw[qbE hb hx];simp only[optAll]at h ⊢;split at h
   ·rename_i l' hl';rw[DH hb hl'];exact h
   ·cases h
theorem qhu {e E:Env} (hb:EA e E) {x y:AV} (h:asnap e x=some y):asnap E x=some y:=by
 cases x with
 | mb kd id =>
  cases kd with
  | succ kd=>simp[asnap]at h
  | zero =>
   simp only[asnap]at h ⊢;split at h
   ·rename_i ks vs hl;simp only[hb id _ rfl hl];exact h
   ·cases h
 | clb f caps =>
  simp only[asnap]at h ⊢;split at h
  ·rename_i l hl;rw[DH hb hl];exact h
  ·cases h
 | sb id e' k off m =>
  simp only[asnap]at h ⊢;split at h
  ·rename_i e2 k2 xs hl;simp only[hb id _ rfl hl];exact h
  ·cases h
 | pb s o =>
  simp only[asnap]at h ⊢;exact qbE hb h
 | agr cs =>
  simp only[asnap]at h ⊢;split at h
  ·rename_i l hl;rw[Vs hb hl];exact h
  ·cases h
 | _=>first | exact h | cases h
theorem qaq {e E:Env} {o:Oper} {f:Nat} {args:List AV} (hk:Knows e E o.op.operands.toList) (hb:EA e E) (h:Xs P o e=some (f,args)):Xs P o E=some (f,args):=by
 unfold Xs at h ⊢;split at h
 case h_2=>cases h
 rename_i fo as ats ho;rw[ho]at hk;split at h
 case h_2=>cases h
 rename_i g caps l hf hl;have h1:=hk fo (by simp[Op.operands,Call.operands]) _ hf;have h2:=Zd (E:=E) (fun z hz=>hk z (by simp[Op.operands,Call.operands];exact .inr (by simpa using hz))) hl;simp only[h1,h2];split at h
 case h_2=>cases h
 rename_i fn hfn;split at h
 case h_2=>cases h
 rename_i l' hb' hl'
 have h3:∀ {l l':List AV},optAll (l.map (asnap e))=some l'→optAll (l.map (asnap E))=some l':=by
  intro l
  induction l with
  | nil=>intro l' h;exact h
  | cons x l ih =>
   intro l' h;simp only[A2]at h ⊢
   cases hx:asnap e x with
   | none=>rw[hx]at h;cases h
   | some v =>
    rw[hx]at h;rw[qhu hb hx];simp only[optAll]at h ⊢;split at h
    ·rename_i l2 hl2;rw[ih hl2];exact h
    ·cases h
 simp only[hfn,hb',h3 hl'];exact h
theorem qfI {x:AV} (hp:x.plain=true):x.ent=false:=by cases x <;> first | rfl | cases hp
theorem qcY {all:List Oper} {o:Oper} {e e1:Env} {f:Nat} {args:List AV} {r:AV} (hw:awanted all o e=some true) (hc:Xs P o e=some (f,args)) (hp:r.plain=true) (hr:CallOk P f args r) (he:eput n o.dst r e=some e1):Pure1 P n all o e e1:=by
 have hmf:memFree o.op=false:=by
  unfold Xs at hc;split at hc
  case h_2=>cases hc
  rename_i fo as ats ho;rw[ho];rfl
 refine⟨r,he,qfI hp,fun E hk hb=>?_⟩
 rcases hb with hb | hb
 ·rw[hmf]at hb;cases hb
 obtain⟨_,hd,_⟩:=QC he;intro bs M O a w h K Q hK;rw[jP h (JH hk hw)];simp only[if_true]
 exact HO (all:=all) (qaq (QR hk) hb hc) hp hr h fun v w' h' hR=>hK _ _ _ _ (VY h' (JI hR (qaZ hp)) hd)
theorem qef {s off:Nat} {vs:List AV} {e e1:Env} (h:putRow s e off vs=some e1):∃ y y':AV,look e s=some y∧y.ent=true∧y'.ent=true∧y'.sk=y.sk∧e1=ins s y' e∧∀ E,look E s=some y→putRow s E off vs=some (ins s y' E):=by
 unfold putRow at h;split at h
 ·cases h
 rename_i h1;split at h
 case h_3=>cases h
 case h_2 =>
  rename_i ks cs hl;split at h
  case h_2=>cases h
  rename_i h2;cases h;refine⟨_,.hob 3 ks (cs.take off++vs.map AV.strip++cs.drop (off+vs.length)),hl,rfl,rfl,rfl,rfl,fun E hE=>?_⟩;unfold putRow;simp only[h1,hE,h2]
 rename_i cs hl;split at h
 case h_2=>cases h
 rename_i h2;cases h;refine⟨_,.box (cs.take off++vs.map AV.strip++cs.drop (off+vs.length)),hl,rfl,rfl,rfl,rfl,fun E hE=>?_⟩;unfold putRow;simp only[h1,hE,h2]
theorem qcX {s off:Nat} {v:AV} {e e1:Env} (h:putCell s e off v=some e1):∃ y y':AV,look e s=some y∧y.ent=true∧y'.ent=true∧y'.sk=y.sk∧e1=ins s y' e∧(∀ cs,y≠.bxg cs)∧∀ E,look E s=some y→putCell s E off v=some (ins s y' E):=by
 unfold putCell at h;split at h
 ·cases h
 rename_i h1;split at h
 case h_3=>cases h
 case h_2 =>
  rename_i ks cs hl;split at h
  case h_2=>cases h
  rename_i h2;cases h;refine⟨_,.hob 3 ks (cs.set off v.strip),hl,rfl,rfl,rfl,rfl,fun _ e=>(by cases e),fun E hE=>?_⟩;unfold putCell;simp only[h1,hE,h2]
 rename_i cs hl;split at h
 case h_2=>cases h
 rename_i h2;cases h;refine⟨_,.box (cs.set off v),hl,rfl,rfl,rfl,rfl,fun _ e=>(by cases e),fun E hE=>?_⟩;unfold putCell;simp only[h1,hE,h2]
theorem qeg {id k j off:Nat} {vs:List AV} {e e1:Env} (h:putObj id k j e off vs=some e1):∃ x x':AV,look e id=some x∧x.ent=true∧x'.ent=true∧x'.sk=x.sk∧e1=ins id x' e∧∀ E,look E id=some x→putObj id k j E off vs=some (ins id x' E):=by
 unfold putObj at h;split at h
 case h_2=>cases h
 rename_i e' k' xs hl;split at h
 case h_2=>cases h
 rename_i hk;split at h
 case h_2=>cases h
 rename_i y hy;split at h
 case h_2=>cases h
 rename_i y' hy';cases h;refine⟨_,.obj e' k (xs.set j y'),hl,rfl,rfl,rfl,rfl,fun E hE=>?_⟩;unfold putObj;simp only[hE,hk,hy,hy']
theorem DG {s off:Nat} {v:AV} {e e1:Env} (h:putG s e off v=some e1):∃ y y',look e s=some y∧y.ent=true∧y'.ent=true∧y'.sk=y.sk∧e1=ins s y' e∧∀ E,look E s=some y→putG s E off v=some (ins s y' E):=by
 unfold putG at h;split at h
 ·cases h
 rename_i h0;split at h
 ·rename_i cs hl;split at h
  case h_2=>cases h
  rename_i hc;cases h;exact⟨_,.bxg ((cs.map AV.strip).set off v.strip),hl,rfl,rfl,rfl,rfl,fun E hE=>by unfold putG;simp only[h0,hE,hc]⟩
 ·rename_i cs hl;split at h
  case h_2=>cases h
  rename_i hc;cases h;exact⟨_,.bxg (cs.set off v.strip),hl,rfl,rfl,rfl,rfl,fun E hE=>by unfold putG;simp only[h0,hE,hc]⟩
 ·cases h
theorem qfs {all:List Oper} {o:Oper} {e e1:Env} (hw:awanted all o e=some true) (hs:isStore o.op=true) (he:astep P n o e=some e1):St1 P n all o e e1:=by
 cases hop:o.op with
 | store t p x =>
  have he0:=he;unfold astep at he;rw[hop]at he;simp only at he
  have fin:∀ (s:Nat) (y y':AV),o.dst=none→look e s=some y→y.ent=true→y'.ent=true→y'.sk=y.sk→e1=ins s y' e→(∀ E,NA all o e E→look E s=some y→astep P n o E=some (ins s y' E))→St1 P n all o e e1:=by
   intro s y y' hd h1 h2 h3 h4 h5 h6;refine⟨hs,hd,s,y,y',h1,h2,h3,h4,h5,fun E hk hE=>?_⟩;exact Nc (JH hk hw) (h6 E hk hE)
  have hka:∀ E,NA all o e E→∀ z v,z∈[p,x]→aop e z=some v→aop E z=some v:=by
   intro E hk z v hz hv;refine QR hk z ?_ v hv;rw[hop]
   simpa[Op.operands] using hz
  split at he
  ·rename_i s off v sz hd hp hx hsz;split at he
   case h_2=>cases he
   rename_i hlen
   have one:∀ (v:AV),aop e x=some v→A1 v.cells.length sz=true→(∀ cs,v≠.agg cs)→(∀ id e' k o m,v≠.sb id e' k o m)→(∀ kd id,v≠.mb kd id)→(match look e s with | some (.bxg _)=>putG s e off v | _=>putCell s e off v)=some e1→St1 P n all o e e1:=by
    intro v hx hlen hna hnb hnm he;split at he
    ·rename_i cs0 hcs0;obtain⟨y,y',h1,h2,h2',h3,h4,h5⟩:=DG he;rw[hcs0]at h1;cases h1
     refine fin s _ y' hd hcs0 h2 h2' h3 h4 fun E hk hE=>?_
     unfold astep;rw[hop];simp only[hd,hka E hk p _ (by simp) hp,hka E hk x _ (by simp) hx,hsz,hlen];have h6:=h5 E hE
     cases v <;> first | (simp only[hE];exact h6) | exact absurd rfl (hna _) | exact absurd rfl (hnb _ _ _ _ _) | exact absurd rfl (hnm _ _)
    obtain⟨y,y',h1,h2,h2',h3,h4',hny,h5⟩:=qcX he
    refine fin s y y' hd h1 h2 h2' h3 h4' fun E hk hE=>?_
    unfold astep;rw[hop];simp only[hd,hka E hk p _ (by simp) hp,hka E hk x _ (by simp) hx,hsz,hlen];have h4:=h5 E hE
    have h6:(match look E s with | some (.bxg _)=>putG s E off v | _=>putCell s E off v)=some (ins s y' E):=by
     rw[hE]
     cases y <;> first | exact h4 | exact absurd rfl (hny _)
    cases v <;> first | exact h6 | exact absurd rfl (hna _) | exact absurd rfl (hnb _ _ _ _ _) | exact absurd rfl (hnm _ _)
   cases v with
   | agg cs =>
    obtain⟨y,y',h1,h2,h2',h3,h4,h5⟩:=qef he
    refine fin s y y' hd h1 h2 h2' h3 h4 fun E hk hE=>?_
    unfold astep;rw[hop];simp only[hd,hka E hk p _ (by simp) hp,hka E hk x _ (by simp) hx,hsz,hlen];exact h5 E hE
   | sb id e' k o2 m =>
    obtain⟨y,y',h1,h2,h2',h3,h4,h5⟩:=DG he
    refine fin s y y' hd h1 h2 h2' h3 h4 fun E hk hE=>?_
    unfold astep;rw[hop];simp only[hd,hka E hk p _ (by simp) hp,hka E hk x _ (by simp) hx,hsz,hlen];exact h5 E hE
   | mb kd id =>
    obtain⟨y,y',h1,h2,h2',h3,h4,h5⟩:=DG he
    refine fin s y y' hd h1 h2 h2' h3 h4 fun E hk hE=>?_
    unfold astep;rw[hop];simp only[hd,hka E hk p _ (by simp) hp,hka E hk x _ (by simp) hx,hsz,hlen];exact h5 E hE
   | _=>exact one _ hx hlen (fun cs e=>by cases e) (fun _ _ _ _ _ e=>by cases e) (fun _ _ e=>by cases e) he
  ·rename_i id k j off v sz hd hp hx hsz;split at he
   case h_2=>cases he
   rename_i hlen;obtain⟨y,y',h1,h2,h3,h4,h5,h6⟩:=qeg he
   refine fin id y y' hd h1 h2 h3 h4 h5 fun E hk hE=>?_
   unfold astep;rw[hop];simp only[hd,hka E hk p _ (by simp) hp,hka E hk x _ (by simp) hx,hsz,hlen];exact h6 E hE
  ·cases he
 | _=>rw[hop]at hs;cases hs
end
end Go.AM
