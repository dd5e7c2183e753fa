/- s -/
import Derived.Test.YtdghpfejmlpjhaaAWp
set_option linter.unusedVariables false
namespace Go.AM
section
variable {P:Program} {n:Nat}
theorem W.mv {c:Code} {Q:Ex→Env→Prop} {env env':Env} (q:List Mv) (he:mvAll env q=env') (h:W P n c Q env'):W P n c Q env:=by
 subst he;obtain⟨ex,e1,h1,h2⟩:=h;exact⟨ex,e1,.mv q h1,h2⟩
theorem WO.mv {all ops:List Oper} {Q:Env→Prop} {env env':Env} (q:List Mv) (he:mvAll env q=env') (h:WO P n false all ops Q env'):WO P n false all ops Q env:=by
 subst he;obtain⟨e',h1,h2⟩:=h;exact⟨e',.mvOp q h1,h2⟩
theorem W.seqU {v:Code} {c:Operand} {x y z:Code} {Q:Ex→Env→Prop} {env e0 ei e2:Env} (p:Bool) (h0:W P n v (fun ex' e'=>ex'=.normal∧e'=e0) env) (hc:aop e0 c=some (.ub p)) (ht:p=true→W P n x (fun ex' e'=>ex'=.ret∧e'=e2) e0) (hf:W P n y (fun ex' e'=>ex'=.normal∧e'=ei) e0) (hz:W P n z (fun ex' e'=>ex'=.ret∧e'=e2) ei) (hq:Q .ret e2):W P n (.seq (.seq v (.cond c x y)) z) Q env:=by
 refine⟨.ret,e2,.seqU (e0:=e0) (ei:=ei) p ?_ hc (fun hp=>?_) ?_ ?_,hq⟩
 ·obtain⟨ex',e',h1,rfl,rfl⟩:=h0;exact h1
 ·obtain⟨ex',e',h1,rfl,rfl⟩:=ht hp;exact h1
 ·obtain⟨ex',e',h1,rfl,rfl⟩:=hf;exact h1
 ·obtain⟨ex',e',h1,rfl,rfl⟩:=hz;exact h1
theorem QS {ops:List Oper} {k:Nat} {o:Oper} {rest:List Oper} (h:ops.drop k=o::rest):ops.drop (k+1)=rest:=by
 have hd:ops.drop (k+1)=(ops.drop k).drop 1:=by rw[List.drop_drop]
 rw[hd,h];rfl
def Dj (all:List Oper) (o:Oper) (env:Env):Option (Nat×List AV×List AV) :=
 match awanted all o env with
 | some true=>match o.op with
  | .call { callee:=.value f,args,.. }=>match aop env f,optAll (args.toList.map (aop env)) with
   | some (.clo g caps),some l=>match optAll (l.map (asnap env)) with
    | some l'=>some (g,l',caps)
    | none=>none
   | _,_=>none
  | _=>none
 | _=>none
theorem WO.callRF {draw:Bool} {all rest:List Oper} {o:Oper} {Q:Env→Prop} {env e1:Env} {F:Nat} {l C args:List AV} {r:AV} (hp:Dj all o env=some (F,l,C)) (ha:l++C=args) (hok:okFn P F=true) (hpl:r.plain=true) (hr:Run P (.call F args r)) (he:eput n o.dst r env=some e1) (h:WO P n draw all rest Q e1):WO P n draw all (o::rest) Q env:=by
 subst ha;unfold Dj at hp
 split at hp <;> try cases hp
 rename_i hw
 split at hp <;> try cases hp
 rename_i f args ats ho
 split at hp <;> try cases hp
 rename_i g caps l hf hl
 split at hp <;> try cases hp
 rename_i l' hl';obtain⟨e',h1,h2⟩:=h;refine⟨e',.callOpR hw ?_ hpl hr he h1,h2⟩;unfold Qr;rw[ho];simp only[hf,hl];unfold okFn at hok
 split at hok
 ·rename_i fn hfn;simp only[hfn,hok,hl']
 ·cases hok
theorem WO.callRK {draw:Bool} {all ops:List Oper} {Q:Env→Prop} {env e1:Env} {F:Nat} {l C args:List AV} {r:AV} (k:Nat)
  (hp:stepsE P n draw all k ops env (fun os e=>match os with | o::_=>Dj all o e | []=>none)=some (F,l,C)) (ha:l++C=args) (hok:okFn P F=true) (hpl:r.plain=true) (hr:Run P (.call F args r))
  (he:stepsE P n draw all k ops env (fun os e=>match os with | o::_=>eput n o.dst r e | []=>none)=some e1) (h:WO P n draw all (ops.drop (k+1)) Q e1):WO P n draw all ops Q env:=by
 obtain⟨e,h1,h2⟩:=qM hp;obtain⟨e',h3,h4⟩:=qM he;rw[h1]at h3;cases h3;refine WO.steps k h1 ?_
 cases hos:ops.drop k with
 | nil=>rw[hos]at h2;cases h2
 | cons o rest =>
  rw[hos]at h2 h4;rw[QS hos]at h;exact WO.callRF h2 ha hok hpl hr h4 h
def Dk (P:Program) (all:List Oper) (o:Oper) (env:Env) (ρ:List (Nat×Nat)):Option (Nat×List AV×Env) :=
 match awanted all o env with
 | some true=>Na P o env ρ
 | _=>none
theorem WO.callMK {all ops:List Oper} {Q:Env→Prop} {env e1:Env} {F:Nat} {args:List AV} {hp hp2:Env} {r:AV} (k:Nat) (ρ nw:List (Nat×Nat))
  (h0:stepsE P n false all k ops env (fun os e=>match os with | o::_=>Dk P all o e ρ | []=>none)=some (F,args,hp)) (hr:Run P (.callM F args hp r hp2))
  (he:stepsE P n false all k ops env (fun os e=>match os with | o::_=>Vs n o.dst ρ nw r hp2 e | []=>none)=some e1) (h:WO P n false all (ops.drop (k+1)) Q e1):WO P n false all ops Q env:=by
 obtain⟨e,h1,h2⟩:=qM h0;obtain⟨e',h3,h4⟩:=qM he;rw[h1]at h3;cases h3;refine WO.steps k h1 ?_
 cases hos:ops.drop k with
 | nil=>rw[hos]at h2;cases h2
 | cons o rest =>
  rw[hos]at h2 h4;rw[QS hos]at h;simp only[Dk]at h2
  split at h2 <;> try cases h2
  rename_i hw;obtain⟨e2,g1,g2⟩:=h;exact⟨e2,.callOpM ρ nw hw h2 hr h4 g1,g2⟩
def stPre (P:Program) (all:List Oper) (o:Oper) (env:Env):Option (Nat×Nat×Nat×List AV×Nat×Nat×List AV) :=
 match awanted all o env with
 | some true=>match o.op with
  | .store t p x=>match o.dst,aop env p,aop env x,tSize P t with
   | none,some (.pe id k j off),some v,some sz=>match Nat.beq v.cells.length sz,look env id with
    | true,some (.obj e k' xs)=>match Nat.beq k k' with
     | true=>some (id,e,k,xs,j,off,v.cells)
     | false=>none
    | _,_=>none
   | _,_,_,_=>none
  | _=>none
 | _=>none
theorem WO.storeK {draw:Bool} {all ops:List Oper} {Q:Env→Prop} {env e1:Env} {id e s:Nat} {xs zs vs:List AV} {j off:Nat} {y y':AV} (k:Nat)
  (hp:stepsE P n draw all k ops env (fun os e=>match os with | o::_=>stPre P all o e | []=>none)=some (id,e,s,xs,j,off,vs)) (hy:xs[j]? = some y) (hput:putElem y off vs=some y') (hz:xs.set j y'=zs)
  (he:stepsE P n draw all k ops env (fun os en=>some (ins id (.obj e s zs) en))=some e1) (h:WO P n draw all (ops.drop (k+1)) Q e1):WO P n draw all ops Q env:=by
 subst hz;obtain⟨en,h1,h2⟩:=qM hp;obtain⟨en',h3,h4⟩:=qM he;rw[h1]at h3;cases h3;cases h4;refine WO.steps k h1 ?_
 cases hos:ops.drop k with
 | nil=>rw[hos]at h2;cases h2
 | cons o rest =>
  rw[hos]at h2;rw[QS hos]at h;simp only[stPre]at h2
  split at h2 <;> try cases h2
  rename_i hw
  split at h2 <;> try cases h2
  rename_i t p x ho
  split at h2 <;> try cases h2
  rename_i id' k' j' off' v sz hd hpp hx hsz
  split at h2 <;> try cases h2
  rename_i e' k2 xs' hlen hl
  split at h2 <;> try cases h2
  rename_i hk
  have hst:astep P n o en=some (ins id (.obj e s (xs.set j y')) en):=by
   unfold astep;rw[ho];simp only[hd,hpp,hx,hsz,hlen];unfold putObj;simp only[hl,hk,hy,hput]
  refine WO.step (e1:=ins id (.obj e s (xs.set j y')) en) ?_ h;unfold step1;rw[hw]
  cases draw with
  | true =>
   have:isEff o.op=true:=by rw[ho];rfl
   refine Xp (Yz (by rw[ho];rfl)) ?_;unfold astepD;simp only[this,hst]
  | false=>exact hst
def mkPre (P:Program) (n:Nat) (all:List Oper) (o:Oper) (env:Env):Option (Nat×Nat×Nat×Int×Int×Nat×AV×Env) :=
 match awanted all o env with
 | some true=>match o.op with
  | .makeSlice t l c=>match o.dst,aop env l,aop env c,jB P t with
   | some d,some (.int _ m),some (.int _ m'),some (e,s)=>match QC P e,clearOf (1000000+d) env && Nat.blt 0 s with
    | some z,true=>match Nat.beq z.length s && z.all AV.one with
     | true=>(eput n o.dst (.sb (1000000+d) e s 0 m.toNat) env).map fun env1=>(d,e,s,m,m',((P.info? e).map (·.bytes)).getD 0,elemOf z s,env1)
     | false=>none
    | _,_=>none
   | _,_,_,_=>none
  | _=>none
 | _=>none
def mkOk (bytes:Nat) (m:Int):Bool:=decide (0≤m) && decide (m * bytes≤281474976710656) && decide (m≤9223372036854775807)
theorem WO.makeK {draw:Bool} {all ops:List Oper} {Q:Env→Prop} {env env1 e1:Env} {d e s bytes:Nat} {m:Int} {z:AV} {zs:List AV} (k:Nat)
  (hp:stepsE P n draw all k ops env (fun os e=>match os with | o::_=>mkPre P n all o e | []=>none)=some (d,e,s,m,m,bytes,z,env1)) (hc:mkOk bytes m=true) (hz:List.replicate m.toNat z=zs)
  (he:ins (1000000+d) (.obj e s zs) env1=e1) (h:WO P n draw all (ops.drop (k+1)) Q e1):WO P n draw all ops Q env:=by
 subst hz;subst he;obtain⟨en,h1,h2⟩:=qM hp;refine WO.steps k h1 ?_
 cases hos:ops.drop k with
 | nil=>rw[hos]at h2;cases h2
 | cons o rest =>
  rw[hos]at h2;rw[QS hos]at h;simp only[mkPre]at h2
  split at h2 <;> try cases h2
  rename_i hw
  split at h2 <;> try cases h2
  rename_i t l c ho
  split at h2 <;> try cases h2
  rename_i d' k1 m1 k2 m2 e' s' hd hl hcc hse
  split at h2 <;> try cases h2
  rename_i z' hzc hcl
  split at h2 <;> try cases h2
  rename_i hzl;rw[Option.map_eq_some_iff]at h2;obtain⟨env',g1,g2⟩:=h2;cases g2;simp only[mkOk,Bool.and_eq_true,decide_eq_true_eq]at hc
  have hst:astep P n o en=some (ins (1000000+d) (.obj e s (List.replicate m.toNat (elemOf z' s))) env1):=by
   unfold astep;rw[ho];simp only[hd,hl,hcc,hse,hzc,hcl,hzl];rw[if_pos ⟨trivial,hc.1.1,hc.1.2,hc.2⟩];rw[hd]at g1;rw[g1];rfl
  refine WO.step (e1:=ins (1000000+d) (.obj e s (List.replicate m.toNat (elemOf z' s))) env1) ?_ h;unfold step1;rw[hw]
  cases draw with
  | true =>
   have:isEff o.op=true:=by rw[ho];rfl
   refine Xp (Yz (by rw[ho];rfl)) ?_;unfold astepD;simp only[this,hst]
  | false=>exact hst
def aoPre (P:Program) (n:Nat) (all:List Oper) (o:Oper) (env:Env):Option (Nat×Nat×Nat×Nat×Nat×List AV×List AV×Env) :=
 match awanted all o env with
 | some true=>match o.op with
  | .call { callee:=.builtin .append,args,argTypes }=>match args.toList,argTypes.toList,o.dst with
   | [x,y],[t,t'],some d=>match aop env x,aop env y with
    | some (.sb id ex kx off m),some q=>match jB P t with
     | some (e,s)=>match Nat.beq t t' && Nat.blt 0 s && (match (P.info? e).bind (·.zero) with | some z=>Nat.beq z.cells.size s | none=>false) with
      | true=>match look env id,content env q with
       | some (.obj e' k' xs),some (ky,ys)=>match Nat.beq ex e && Nat.beq e' e && Nat.beq kx s && Nat.beq k' s && Nat.beq ky s && Nat.beq off 0 && (usable id && Nat.blt e 1000000000) with
        | true=>match clearOf (1000000+d) (forget id env) && (match look env d with | some (.box _)=>false | some (.obj ..)=>false | some (.hob ..)=>false | some (.bxg _)=>false | _=>true) && Nat.blt d n with
         | true=>some (d,e,s,((P.info? e).map (·.bytes)).getD 0,m,xs,ys,forget id env)
         | false=>none
        | false=>none
       | _,_=>none
      | false=>none
     | none=>none
    | _,_=>none
   | _,_,_=>none
  | _=>none
 | _=>none
def aoPreD (P:Program) (n:Nat) (draw:Bool) (all:List Oper) (o:Oper) (env:Env):Option (Nat×Nat×Nat×Nat×Nat×List AV×List AV×Env) :=
 match !draw || lfOk all o env with
 | true=>aoPre P n all o env
 | false=>none
theorem qcD {draw:Bool} {all:List Oper} {o:Oper} {env:Env} {r:Nat×Nat×Nat×Nat×Nat×List AV×List AV×Env} (h:aoPreD P n draw all o env=some r):(!draw || lfOk all o env)=true∧aoPre P n all o env=some r:=by
 unfold aoPreD at h
 split at h
 ·rename_i hl;exact⟨hl,h⟩
 ·cases h
theorem WO.appendOK {draw:Bool} {all ops:List Oper} {Q:Env→Prop} {env env1 e1:Env} {d e s bytes m n2:Nat} {xs ys zs:List AV} (k:Nat)
  (hp:stepsE P n draw all k ops env (fun os e=>match os with | o::_=>aoPreD P n draw all o e | []=>none)=some (d,e,s,bytes,m,xs,ys,env1)) (hc:capOk bytes (m+ys.length)=true) (hz:snapA 0 m xs++ys=zs) (hn:zs.length=n2)
  (he:ins (1000000+d) (.obj e s zs) (ins d (.sb (1000000+d) e s 0 n2) env1)=e1) (h:WO P n draw all (ops.drop (k+1)) Q e1):WO P n draw all ops Q env:=by
 subst hn;subst hz;subst he;obtain⟨en,h1,h2⟩:=qM hp;refine WO.steps k h1 ?_
 cases hos:ops.drop k with
 | nil=>rw[hos]at h2;cases h2
 | cons o rest =>
  rw[hos]at h2;rw[QS hos]at h;simp only at h2;obtain⟨hlf0,h2⟩:=qcD h2;simp only[capOk,Bool.and_eq_true,Nat.ble_eq]at hc;simp only[aoPre]at h2
  split at h2 <;> try cases h2
  rename_i hw
  split at h2 <;> try cases h2
  rename_i args ats ho
  split at h2 <;> try cases h2
  rename_i x y t t' d' hax hat hd
  split at h2 <;> try cases h2
  rename_i id ex kx off m' q ha hb
  split at h2 <;> try cases h2
  rename_i e' s' hse
  split at h2 <;> try cases h2
  rename_i hcond
  split at h2 <;> try cases h2
  rename_i e2 k2 xs' ky ys' hl hcon
  split at h2 <;> try cases h2
  rename_i hk
  split at h2 <;> try cases h2
  rename_i hcl
  have hao:YH P n t t' d (.sb id ex kx off m) q en=some (ins (1000000+d) (.obj e s (snapA 0 m xs++ys)) (ins d (.sb (1000000+d) e s 0 (snapA 0 m xs++ys).length) (forget id en))):=by
   unfold YH;simp only[hse]
   split
   ·rename_i hcf;exact Bool.noConfusion (hcf.symm.trans hcond)
   ·simp only[hl,hcon,hk]
    split
    ·rw[if_pos hc]
    ·rename_i hcf;exact Bool.noConfusion (hcf.symm.trans hcl)
  have hst:astep P n o en=some (ins (1000000+d) (.obj e s (snapA 0 m xs++ys)) (ins d (.sb (1000000+d) e s 0 (snapA 0 m xs++ys).length) (forget id en))):=by
   unfold astep;rw[ho];simp only[hax,hat,hd,ha,hb,hao]
  refine WO.step (e1:=_) ?_ h;unfold step1;rw[hw]
  cases draw with
  | true =>
   have hlf:lfOk all o en=true:=by simpa using hlf0
   have:isEff o.op=true:=by rw[ho];rfl
   refine Xp hlf ?_;unfold astepD;simp only[this,hst]
  | false=>exact hst
def PostM (P:Program) (fn:Func) (r:AV) (hp:Env):Ex→Env→Prop
 | .exit _,_=>False
 | _,e=>Yq P fn e=some r∧ents e=hp
theorem qdH {f:Nat} {args:List AV} {r:AV} {hp hp2:Env} {fn:Func} {c:Code} (hf:P.funcs[f]? = some fn) (hb:fn.body=some c) (hlen:(Nat.ble args.length fn.ntmps && Nat.ble fn.ntmps 1000000 && hpOk hp)=true) {env0:Env} (he:argsEnv 0 (args.map AV.strip)++hp=env0) (h:W P fn.ntmps c (PostM P fn r hp2) env0):Run P (.callM f args hp r hp2):=by
 subst he;obtain⟨ex,e1,h1,h2⟩:=h
 cases ex with
 | exit id=>exact h2.elim
 | normal=>obtain⟨h2,rfl⟩:=h2;exact .callM hf hb hlen h1 trivial h2
 | ret=>obtain⟨h2,rfl⟩:=h2;exact .callM hf hb hlen h1 trivial h2
theorem WO.end0 {draw:Bool} {all ops:List Oper} {Q:Env→Prop} {env e2:Env} (he:stepsK P n draw all ops.length ops env=some e2) (h:Q e2):WO P n draw all ops Q env:=by
 refine WO.steps ops.length he ?_;rw[List.drop_length];exact .nil h
def snap {α:Type} (off n:Nat) (l:List α):List α:=(l.drop off).take n
theorem QW {α:Type} {f:α→AV} {off n:Nat} {l:List α}:snapA off n (List.map f l)=List.map f (snap off n l):=by
 unfold snapA snap;rw[List.map_take,List.map_drop]
theorem Qs {α:Type} {l:List α}:snap 0 l.length l=l:=by
 unfold snap
 simp
theorem QV {α:Type} {n:Nat} {x:α}:snap 0 n (List.replicate n x)=List.replicate n x:=by
 unfold snap
 simp
def upd {α:Type} (l:List α) (j:Nat) (v:α):Option (List α):=if j<l.length then some (l.set j v) else none
theorem qbu {α:Type} {l l':List α} {j:Nat} {v:α} (h:upd l j v=some l'):∃ y,l[j]? = some y∧l.set j v=l':=by
 unfold upd at h
 split at h
 ·rename_i hj;exact⟨l[j],List.getElem?_eq_getElem hj,Option.some.inj h⟩
 ·cases h
theorem qgA {α:Type} {l:List α} {j:Nat} {y:α} {f:α→AV} (h:l[j]? = some y):(List.map f l)[j]? = some (f y):=by
 rw[List.getElem?_map,h];rfl
theorem qgz {α:Type} {l l':List α} {j:Nat} {v:α} {f:α→AV} (h:l.set j v=l'):(List.map f l).set j (f v)=List.map f l':=by
 rw[← h,List.map_set]
theorem qhi {α β:Type} {l:List α} {j:Nat} {y:α} {f:α→AV} {G:AV→Option β} (h:l[j]? = some y):(match (List.map f l)[j]? with | some y=>G y | none=>none)=G (f y):=by
 rw[List.getElem?_map,h];rfl
theorem qdZ {α:Type} {f:α→AV} {m:Nat} {x:α}:List.replicate m (f x)=List.map f (List.replicate m x):=List.map_replicate.symm
theorem qfV {α:Type} {c:Prop} [Decidable c] {x:α} (h:decide c=true):(if c then some x else none)=some x:=if_pos (of_decide_eq_true h)
theorem W.rg {id:Nat} {ops:Array Oper} {draw:Bool} {Q:Ex→Env→Prop} {env:Env} (h:WO P n draw ops.toList ops.toList (Q .normal) env) (hd:(!draw || (orderOk ops && Jg ops))=true:=by kernel_rfl):W P n (.region id ops draw) Q env:=W.region hd h
theorem W.wk {c:Code} {Q:Ex→Env→Prop} {env env':Env} (h:W P n c Q env') (he:weakE (env'.map Prod.fst) [] [] [] env=env':=by kernel_rfl):W P n c Q env:=W.weak _ _ _ _ he h
theorem WO.fn {draw:Bool} {all ops:List Oper} {Q:Env→Prop} {env e2:Env} {c:Code} {Q':Ex→Env→Prop} (h:W P n c Q' e2) (he:finE P n draw all ops (e2.map Prod.fst) [] [] [] env=some e2:=by kernel_rfl) (hQ:∀ e,W P n c Q' e→Q e:=by exact fun _ h=>h):WO P n draw all ops Q env:=WO.fin _ _ _ _ he hQ h
theorem W.rt {id:Nat} {ops:Array Oper} {draw:Bool} {y:Code} {Q Q':Ex→Env→Prop} {env e2:Env} (h:W P n y Q' e2) (hd:(!draw || (orderOk ops && Jg ops))=true:=by kernel_rfl) (he:finE P n draw ops.toList ops.toList (e2.map Prod.fst) [] [] [] env=some e2:=by kernel_rfl) (hQ:∀ e,W P n y Q' e→Q .normal e:=by exact fun _ h=>h):W P n (.region id ops draw) Q env:=W.regT _ _ _ _ hd he hQ h
theorem W.cb {c:Operand} {x y:Code} {Q:Ex→Env→Prop} {env:Env} (b:Bool) (ht:b=true→W P n x Q env) (hf:b=false→W P n y Q env) (hc:aop env c=some (.bool b):=by kernel_rfl):W P n (.cond c x y) Q env:=W.cond b hc ht hf
theorem WO.bk {draw:Bool} {all ops:List Oper} {Q:Env→Prop} {env:Env} (k:Nat) (E:Bool→Env) (b:Bool) (ht:b=true→WO P n draw all (ops.drop k) Q (E true)) (hf:b=false→WO P n draw all (ops.drop k) Q (E false)) (he:stepsK P n draw all k ops env=some (E b):=by kernel_rfl):WO P n draw all ops Q env:=WO.boolK k E b he ht hf
theorem WO.ck {draw:Bool} {all ops:List Oper} {Q:Env→Prop} {env e1:Env} {F:Nat} {l C:List AV} {r:AV} (k:Nat) (hr:Run P (.call F (l++C) r)) (h:WO P n draw all (ops.drop (k+1)) Q e1)
  (hp:stepsE P n draw all k ops env (fun os e=>match os with | o::_=>callPre all o e | []=>none)=some (F,l,C):=by kernel_rfl) (hok:okFn P F=true:=by kernel_rfl)
  (he:stepsE P n draw all k ops env (fun os e=>match os with | o::_=>callPut n draw o.dst r e | []=>none)=some e1:=by kernel_rfl):WO P n draw all ops Q env:=WO.callK k hp hok hr he h
theorem WO.cm {all ops:List Oper} {Q:Env→Prop} {env e1:Env} {F:Nat} {args:List AV} {hp hp2:Env} {r:AV} (k:Nat) (ρ nw:List (Nat×Nat)) (hr:Run P (.callM F args hp r hp2)) (h:WO P n false all (ops.drop (k+1)) Q e1)
  (h0:stepsE P n false all k ops env (fun os e=>match os with | o::_=>Dk P all o e ρ | []=>none)=some (F,args,hp):=by kernel_rfl)
  (he:stepsE P n false all k ops env (fun os e=>match os with | o::_=>Vs n o.dst ρ nw r hp2 e | []=>none)=some e1:=by kernel_rfl):WO P n false all ops Q env:=WO.callMK k ρ nw h0 hr he h
def pureX (P:Program) (n:Nat) (draw:Bool) (all:List Oper) (k:Nat) (ops:List Oper) (env:Env) (v:AV):Option (Option AV) :=
 stepsE P n draw all k ops env (fun os e=>match os with
   | o::_=>match awanted all o e with
    | some true=>match plainOp o.op && notBox v with
     | true=>some (apure P o e)
     | false=>none
    | _=>none
   | []=>none)
def putX (n:Nat) (P:Program) (draw:Bool) (all:List Oper) (k:Nat) (ops:List Oper) (env:Env) (v:AV):Option Env :=
 stepsE P n draw all k ops env (fun os e=>match os with | o::_=>eput n o.dst v e | []=>none)
theorem WO.pk {draw:Bool} {all ops:List Oper} {Q:Env→Prop} {env e1:Env} {v:AV} (k:Nat) (X:Option AV) (hX:X=some v) (h:WO P n draw all (ops.drop (k+1)) Q e1) (hp:pureX P n draw all k ops env v=some X:=by kernel_rfl) (he:putX n P draw all k ops env v=some e1:=by kernel_rfl):WO P n draw all ops Q env :=
 WO.pureK k X hp hX he h
theorem WO.pi {draw:Bool} {all ops:List Oper} {Q:Env→Prop} {env e1:Env} {v:AV} (k:Nat) {c:Prop} [Decidable c] (hc:decide c=true) (h:WO P n draw all (ops.drop (k+1)) Q e1) (hp:pureX P n draw all k ops env v=some (if c then some v else none):=by kernel_rfl) (he:putX n P draw all k ops env v=some e1:=by kernel_rfl):WO P n draw all ops Q env :=
 WO.pureK k _ hp (qfV hc) he h
theorem WO.pl {draw:Bool} {all ops:List Oper} {Q:Env→Prop} {env e1:Env} {v:AV} {α:Type} {l:List α} {j:Nat} {y:α} (k:Nat) (F:α→AV) (T O:Nat) (hj:l[j]? = some y) (h:WO P n draw all (ops.drop (k+1)) Q e1)
  (hp:pureX P n draw all k ops env v=some (match (List.map F l)[j]? with | some y=>cut P T (y.cells.map AV.strip) O | none=>none):=by kernel_rfl) (hv:cut P T ((F y).cells.map AV.strip) O=some v:=by kernel_rfl) (he:putX n P draw all k ops env v=some e1:=by kernel_rfl):WO P n draw all ops Q env :=
 WO.pureK k _ hp ((qhi (f:=F) (G:=fun y=>cut P T (y.cells.map AV.strip) O) hj).trans hv) he h
theorem WO.sk {draw:Bool} {all ops:List Oper} {Q:Env→Prop} {env e1:Env} {id e s:Nat} {vs:List AV} {j off:Nat} {α:Type} {l l':List α} {y w:α} (k:Nat) (F:α→AV) (hy:l[j]? = some y) (hz:l.set j w=l') (h:WO P n draw all (ops.drop (k+1)) Q e1)
  (hp:stepsE P n draw all k ops env (fun os e=>match os with | o::_=>stPre P all o e | []=>none)=some (id,e,s,List.map F l,j,off,vs):=by kernel_rfl) (hput:putElem (F y) off vs=some (F w):=by kernel_rfl)
  (he:stepsE P n draw all k ops env (fun os en=>some (ins id (.obj e s (List.map F l')) en))=some e1:=by kernel_rfl):WO P n draw all ops Q env :=
 WO.storeK k hp (qgA hy) hput (qgz hz) he h
theorem cW {f:Nat} {args:List AV} {r:AV} {fn:Func} {c:Code} (hf:P.funcs[f]? = some fn) (hb:fn.body=some c) {env0:Env} (h:W P fn.ntmps c (Post P fn r) env0) (hlen:(Nat.ble args.length fn.ntmps && Nat.ble fn.ntmps 1000000)=true:=by kernel_rfl) (he:argsEnv 0 (args.map AV.strip)=env0:=by kernel_rfl):Run P (.call f args r):=qfc hf hb hlen he h
theorem cM {f:Nat} {args:List AV} {r:AV} {hp hp2:Env} {fn:Func} {c:Code} (hf:P.funcs[f]? = some fn) (hb:fn.body=some c) {env0:Env} (h:W P fn.ntmps c (PostM P fn r hp2) env0) (hlen:(Nat.ble args.length fn.ntmps && Nat.ble fn.ntmps 1000000 && hpOk hp)=true:=by kernel_rfl) (he:argsEnv 0 (args.map AV.strip)++hp=env0:=by kernel_rfl):Run P (.callM f args hp r hp2):=qdH hf hb hlen he h
abbrev EN (l:Env):Env:=l
end
end Go.AM
