/- s -/
import Derived.Test.YtdghpfejmlpjhaaASimR
import Derived.Test.YtdghpfejmlpjhaaASimG
import Derived.Test.YtdghpfejmlpjhaaASimI
set_option maxRecDepth 100000
set_option linter.unusedVariables false
set_option linter.unusedSimpArgs false
namespace Go.AM
open Go.RowKit
variable {P:Program} {bs:Base} {n:Nat} {M:Mem} {O:Gh} {env:Env} {a:Act} {w:World}
def zfit1:AV→AV→Bool
 | .lst _ _ none [],.nils=>true
 | .int k a,.int k' b=>kbeq k k' && (a == b)
 | .bool a,.bool b=>a == b
 | _,_=>false
def zfit:List AV→List AV→Bool
 | [],[]=>true
 | x::xs,y::ys=>zfit1 x y && zfit xs ys
 | _,_=>false
def aclear (P:Program) (o:Oper) (env:Env) (zv:AV):Option Env :=
 match o.op,o.dst with
 | .call { callee:=.builtin .clear,args:=args,argTypes:=ats },none=>match args.toList,ats.toList with
  | [x],[t]=>match aop env x,jB P t with
   | some (.sb id e k off m),some (e',s)=>match look env id,QC P e' with
    | some (.obj e2 k2 xs),some z=>match Nat.beq k s && Nat.beq k2 k && Nat.beq zv.cells.length k && zfit zv.cells z && zv.cells.all AV.one with
     | true=>some (ins id (.obj e2 k2 (xs.take off++List.replicate m zv++xs.drop (off+m))) env)
     | false=>none
    | _,_=>none
   | _,_=>none
  | _,_=>none
 | _,_=>none
theorem qgv {x y:AV} (h:zfit1 x y=true) {u:Value} (hr:R M y u):R M x u:=by
 unfold zfit1 at h
 split at h
 ·cases hr;exact .lstn _ _ _
 ·rename_i k a k' b;rw[Bool.and_eq_true,beq_iff_eq]at h;obtain⟨h1,rfl⟩:=h
  have:k=k':=by
   cases k <;> cases k' <;> first | rfl | (simp[kbeq]at h1)
  subst this;exact hr
 ·rename_i a b;rw[beq_iff_eq]at h;subst h;exact hr
 ·cases h
theorem qfn:∀ {xs ys:List AV},zfit xs ys=true→xs.length=ys.length∧∀ (j:Nat) x y,xs[j]? = some x→ys[j]? = some y→zfit1 x y=true
 | [],[],_=>⟨rfl,fun j x y hx=>by simp at hx⟩
 | [],_::_,h=>by cases h
 | _::_,[],h=>by cases h
 | x::xs,y::ys,h=>by
  rw[zfit,Bool.and_eq_true]at h;obtain⟨h1,h2⟩:=qfn h.2;refine⟨by simp[h1],fun j a b ha hb=>?_⟩
  cases j with
  | zero =>
   simp at ha hb
   subst ha;subst hb;exact h.1
  | succ j=>exact h2 j a b (by simpa using ha) (by simpa using hb)
theorem Hc {g off e:Nat} {cur:Array Value} {vs:List Value} (hg:RowAt w g cur e) (hle:off+vs.length≤cur.size) (h1:∀ u∈vs,u.oneCell'=true) :
  (storeCells ⟨g,off,none⟩ vs).run P w=.ok () (w.setRow g (cur.toList.take off++vs++cur.toList.drop (off+vs.length)).toArray):=by
 obtain⟨el,fz,hg,h2 | h2⟩:=hg
 ·obtain⟨rfl,rfl⟩:=h2;have:=run_storeCells_at (P:=P) g off el vs 0 cur w hg (by simpa using hle) h1
  simpa only [Nat.add_zero,Array.length_toList] using this
 ·have:=Xl (P:=P) g off el fz vs 0 cur w hg h2.2 (by simpa using hle) h1
  simpa only [Nat.add_zero,Array.length_toList] using this
theorem qcr (h:Inv bs n M O env a w) {o:Oper} {zv:AV} {env':Env} (he:aclear P o env zv=some env'):Leads P bs n o a w env':=by
 unfold aclear at he
 split at he
 case h_2=>cases he
 rename_i args ats ho hd
 split at he
 case h_2=>cases he
 rename_i x t hargs hats
 split at he
 case h_2=>cases he
 rename_i id e k off m e' s hx hse;obtain⟨hu,hs⟩:=jK hse
 split at he
 case h_2=>cases he
 rename_i e2 k2 xs z hl hz
 split at he
 case h_2=>cases he
 rename_i hc;cases he;simp only[Bool.and_eq_true]at hc;obtain⟨⟨⟨⟨c1,c2⟩,c3⟩,c4⟩,c5⟩:=hc;have c1:=Nat.eq_of_beq_eq_true c1;have c2:=Nat.eq_of_beq_eq_true c2;have c3:=Nat.eq_of_beq_eq_true c3;subst c1;subst c2;obtain⟨hlen,hv⟩:=qo h hx;obtain⟨h0,h3,h4,h5⟩:=h.slots id _ hl
 have ea:args=#[x]:=by rw[← Array.toList_inj];exact hargs
 have et:ats=#[t]:=by rw[← Array.toList_inj];exact hats
 have hexec:∀ w',(Builtin.clear_ #[t] o.type #[a.eval x]).run P w=.ok (.tuple #[]) w'→(execOp a.eval o).run P w=.ok (.value (.tuple #[])) w':=fun w' hr=>by
  unfold execOp;rw[ho,ea,et];simp only[resolve,invoke,builtin,Sem.run_bind,Sem.run_pure,Result.andThen_ok,List.map_toArray,List.map_cons,List.map_nil,hr]
 have hput:a.put o.dst (.tuple #[])=a:=by rw[hd];rfl
 have hxs:off+m≤xs.length:=by rw[h4];exact hlen
 by_cases hm:m=0
 ·subst hm
  obtain⟨ad,cap,ev⟩:∃ ad cap,a.eval x=.slice ad 0 cap:=by
   rcases hv with ⟨_,ad,e⟩ | ⟨g,cap,e,_⟩
   ·exact⟨ad,0,e⟩
   ·exact⟨_,cap,e⟩
  refine⟨.tuple #[],w,M,O,.inl (hexec w ?_),?_⟩
  ·rw[ev];cases ad <;> simp[Builtin.clear_,run_underlying hu]
  ·rw[hput]
   refine h.looks fun t'=>?_
   rw[qS]
   split
   ·rename_i e1;rw[e1,hl]
    simp
   ·rfl
 ·rcases hv with ⟨e1,_⟩ | ⟨g,cap,ev,hO,_,_,_⟩
  ·exact absurd e1 hm
  rcases h5 with ⟨_,e1⟩ | ⟨g',cur,k1,k2',k3,k4,k5,k6⟩
  ·rw[e1]at hO;cases hO
  have:g'=g:=by rw[k1]at hO;exact Option.some.inj hO
  subst this;obtain⟨it,zval,hi,hzz,hzr,hzo⟩:=JR (M:=M) hz;obtain⟨f1,f2⟩:=qfn c4
  have hzs:zval.cells.size=k2:=by rw[← hzr.1,← f1,c3]
  have hone:∀ u∈zval.cells,u.oneCell'=true:=fun u hu=>by
   obtain⟨j,hj⟩:=List.mem_iff_getElem?.1 (Array.mem_toList_iff.2 hu)
   have hj2:zval.cells[j]? = some u:=by simpa using hj
   have hjl:j<z.length:=by rw[hzr.1];exact (Array.getElem?_eq_some_iff.1 hj2).1
   exact (hzr.2 j _ _ (List.getElem?_eq_getElem hjl) hj2).one (hzo _ (List.getElem_mem hjl)).1
  obtain⟨zs,ezs⟩:∃ zs,zs=(Builtin.zeroCells zval.cells m).toList:=⟨_,rfl⟩
  have hzl:zs.length=m * k2:=by rw[ezs];simp[Builtin.zeroCells,hzs]
  have hzget:∀ j,j<m * k2→zs[j]? = zval.cells[j % k2]?:=fun j hj=>by
   have hs0:0<k2:=h0
   have hlt:j % k2<zval.cells.size:=by rw[hzs];exact Nat.mod_lt _ hs0
   rw[ezs];simp only[Builtin.zeroCells,Array.toList_map,Array.toList_range,List.getElem?_map,hzs];rw[List.getElem?_range hj];simp only[Option.map_some];rw[getElem!_pos zval.cells (j % k2) hlt,Array.getElem?_eq_getElem hlt]
  have hzone:∀ u∈zs,u.oneCell'=true:=fun u hu=>by
   obtain⟨j,hj⟩:=List.mem_iff_getElem?.1 hu
   have hjl:j<m * k2:=by rw[← hzl];exact (List.getElem?_eq_some_iff.1 hj).1
   rw[hzget j hjl]at hj;exact hone u (Array.mem_of_getElem? hj)
  have hmul:(off+m) * k2≤xs.length * k2:=Nat.mul_le_mul_right k2 hxs;rw[Nat.add_mul]at hmul
  have hfit:off * k2+zs.length≤cur.size:=by rw[hzl];omega
  have hst:=Hc (P:=P) (off:=off * k2) (vs:=zs) k2' hfit hzone
  have hzv:∀ w,(zeroValue e').run P w=.ok zval w:=fun w=>by simp[zeroValue,typeInfo,hi,hzz]
  have hrun:(Builtin.clear_ #[t] o.type #[a.eval x]).run P w=.ok (.tuple #[]) (w.setRow g' (cur.toList.take (off * k2)++zs++cur.toList.drop (off * k2+zs.length)).toArray):=by
   rw[ev];obtain⟨m',rfl⟩:∃ m',m=m'+1:=⟨m - 1,by omega⟩;simp only[Builtin.clear_,List.getElem?_toArray,List.getElem?_cons_zero]
   simp[run_underlying hu,hzv,← ezs,hst]
  refine⟨.tuple #[],_,M,O,.inl (hexec _ hrun),?_⟩;rw[hput];refine h.setEnt hl rfl rfl k1 (JW w g' _) k5 ?_
  have hty:∀ y,y∈xs→y.cells.length=k2:=fun y hy=>(h3 y hy).1
  have hrep:∀ y,y∈List.replicate m zv→y.cells.length=k2:=fun y hy=>by rw[List.eq_of_mem_replicate hy];exact c3
  refine⟨h0,fun y hy=>?_,?_,.inr ⟨g',_,k1,k2'.setRow ?_,?_,?_,k5,fun q c u hc hu=>?_⟩⟩
  ·rcases List.mem_append.1 hy with hy | hy
   ·rcases List.mem_append.1 hy with hy | hy
    ·exact h3 y (List.mem_of_mem_take hy)
    ·rw[List.eq_of_mem_replicate hy];exact⟨c3,c5⟩
   ·exact h3 y (List.mem_of_mem_drop hy)
  ·rw[List.length_append,List.length_append,List.length_take,List.length_replicate,List.length_drop];omega
  ·simp[hzl];omega
  ·simp[hzl];omega
  ·have hle:(xs.take off++List.replicate m zv++xs.drop (off+m)).length=xs.length:=by
    rw[List.length_append,List.length_append,List.length_take,List.length_replicate,List.length_drop];omega
   rw[hle]
   simp[hzl]
   omega
  ·have efl:flat (xs.take off++List.replicate m zv++xs.drop (off+m))=(flat xs).take (off * k2)++flat (List.replicate m zv)++(flat xs).drop (off * k2+(flat (List.replicate m zv)).length):=by
    have e1:=Xu (xs:=xs) off hty;have e2:=Xv (xs:=xs) (off+m) hty;have e3:=qW hrep;rw[List.length_replicate]at e3;rw[e3,← Nat.add_mul,← e1,← e2];simp only[flat,List.flatMap_append]
   have hfl:=qW hty;have hfr:=qW hrep;rw[List.length_replicate]at hfr;rw[efl]at hc;have g1:=Qa (cs:=flat xs) (vs:=flat (List.replicate m zv)) (off:=off * k2) (by rw[hfr,hfl];omega) q;rw[g1,hfr]at hc
   have hu':(cur.toList.take (off * k2)++zs++cur.toList.drop (off * k2+zs.length))[q]? = some u:=by simpa using hu
   have g2:=Qa (cs:=cur.toList) (vs:=zs) (off:=off * k2) (by simpa using hfit) q;rw[g2,hzl]at hu'
   by_cases hq:off * k2≤q∧q<off * k2+m * k2
   ·rw[if_pos hq]at hc hu';have hs0:0<k2:=h0
    have hql:q - off * k2<m * k2:=by omega
    rw[hzget _ hql]at hu';have hd1:(q - off * k2) / k2<m:=Nat.div_lt_of_lt_mul (by rw[Nat.mul_comm k2 m];exact hql);have hm1:(q - off * k2) % k2<k2:=Nat.mod_lt _ hs0;have hg:=QI hrep (i:=(q - off * k2) / k2) (x:=zv) (by simp[hd1]) ((q - off * k2) % k2) hm1
    have e3:(q - off * k2) / k2 * k2+(q - off * k2) % k2=q - off * k2:=by rw[Nat.mul_comm];exact Nat.div_add_mod _ k2
    rw[e3,hc]at hg
    have hjz:(q - off * k2) % k2<z.length:=by rw[← f1,c3];exact hm1
    exact qgv (f2 _ _ _ hg.symm (List.getElem?_eq_getElem hjz)) (hzr.2 _ _ _ (List.getElem?_eq_getElem hjz) hu')
   ·rw[if_neg hq]at hc hu';exact k6 q c u hc (by simpa using hu')
end Go.AM
namespace Go.AM
inductive J where
 | code (n:Nat) (c:Code) (env:Env) (ex:Ex) (env':Env)
 | ops (n:Nat) (draw:Bool) (all rest:List Oper) (env env':Env)
 | call (f:Nat) (args:List AV) (r:AV)
 | callM (f:Nat) (args:List AV) (hp:Env) (r:AV) (hp':Env)
 | opsB (n:Nat) (all rest:List Oper) (env env':Env)
 | any (n:Nat) (all:List Oper) (R:List Nat) (env env':Env)
def readyR (all:List Oper) (R:List Nat) (k:Nat):Bool:=R.all fun i=>!((Region.before all.toArray).getD k 0).testBit i
inductive Run (P:Program):J→Prop where
 | skip {n env}:Run P (.code n .skip env .normal env)
 | ret {n env}:Run P (.code n .ret env .ret env)
 | exit {n env id}:Run P (.code n (.exit id) env (.exit id) env)
 | seqN {n x y env e1 ex e2}:Run P (.code n x env .normal e1)→Run P (.code n y e1 ex e2)→Run P (.code n (.seq x y) env ex e2)
 | seqX {n x y env id e1}:Run P (.code n x env (.exit id) e1)→Run P (.code n (.seq x y) env (.exit id) e1)
 | seqR {n x y env e1}:Run P (.code n x env .ret e1)→Run P (.code n (.seq x y) env .ret e1)
 | cond {n c x y env ex e1} (b:Bool):aop env c=some (.bool b)→Run P (.code n (match b with | true=>x | false=>y) env ex e1)→Run P (.code n (.cond c x y) env ex e1)
 | seqU {n v c x y z env e0 ei e2} (p:Bool):Run P (.code n v env .normal e0)→aop e0 c=some (.ub p)→(p=true→Run P (.code n x e0 .ret e2))→Run P (.code n y e0 .normal ei)→Run P (.code n z ei .ret e2)→Run P (.code n (.seq (.seq v (.cond c x y)) z) env .ret e2)
 | mv {n c env ex e1} (q:List Mv):Run P (.code n c (mvAll env q) ex e1)→Run P (.code n c env ex e1)
 | mvOp {n all rest env e1} (q:List Mv):Run P (.ops n false all rest (mvAll env q) e1)→Run P (.ops n false all rest env e1)
 | callOpR {n draw all o rest env f args r e1 e2}:awanted all o env=some true→Qr P o env=some (f,args)→r.plain=true→Run P (.call f args r)→eput n o.dst r env=some e1→Run P (.ops n draw all rest e1 e2)→Run P (.ops n draw all (o::rest) env e2)
 | callOpM {n all o rest env f args hp r hp' e1 e2} (ρ nw:List (Nat×Nat)):awanted all o env=some true→Na P o env ρ=some (f,args,hp)→Run P (.callM f args hp r hp')→Vs n o.dst ρ nw r hp' env=some e1→Run P (.ops n false all rest e1 e2)→Run P (.ops n false all (o::rest) env e2)
 | callM {f args hp r fn c ex e1}:P.funcs[f]? = some fn→fn.body=some c→(Nat.ble args.length fn.ntmps && Nat.ble fn.ntmps 1000000 && hpOk hp)=true→Run P (.code fn.ntmps c (argsEnv 0 (args.map AV.strip)++hp) ex e1)→(match ex with | .exit _=>False | _=>True)→Yq P fn e1=some r→Run P (.callM f args hp r (ents e1))
 | block {n id c env ex e1}:Run P (.code n c env ex e1)→Run P (.code n (.block id c) env (ex.unblock id) e1)
 | loopN {n c env e1 ex e2}:Run P (.code n c env .normal e1)→Run P (.code n (.loop c) e1 ex e2)→Run P (.code n (.loop c) env ex e2)
 | loopX {n c env id e1}:Run P (.code n c env (.exit id) e1)→Run P (.code n (.loop c) env (.exit id) e1)
 | loopR {n c env e1}:Run P (.code n c env .ret e1)→Run P (.code n (.loop c) env .ret e1)
 | region {n id ops draw env e1}:(draw=true→orderOk ops=true∧Jg ops=true)→Run P (.ops n draw ops.toList ops.toList env e1)→Run P (.code n (.region id ops draw) env .normal e1)
 | regionA {n id ops env e1 e2}:Jg ops=true→Run P (.any n ops.toList (List.range ops.size) env e1)→Run P (.ops n false ops.toList [] e1 e2)→Run P (.code n (.region id ops true) env .normal e2)
 | anyNil {n all env}:Run P (.any n all [] env env)
 | anyStep {n all R env e1} (F:Nat→Env):R≠[]→(∀ k o,k∈R→all[k]? = some o→readyR all R k=true→Run P (.ops n false all [o] env (F k)))→(∀ k,k∈R→readyR all R k=true→Run P (.any n all (R.erase k) (F k) e1))→Run P (.any n all R env e1)
 | nilB {n all env}:Run P (.opsB n all [] env env)
 | opB {n all o rest env e1 e2}:awanted all o env=some true→astepB P n o env=some e1→Run P (.opsB n all rest e1 e2)→Run P (.opsB n all (o::rest) env e2)
 | weak {n c env ex e1} (keep frz:List Nat) (nl:List (Nat×Nat×Nat×Nat×Nat)) (rl:List (Nat×Option Nat)):Run P (.code n c (weakE keep frz nl rl env) ex e1)→Run P (.code n c env ex e1)
 | nil {n draw all env}:Run P (.ops n draw all [] env env)
 | drop {n all rest env e1} (keep:List Nat):Run P (.ops n false all rest (dropE keep env) e1)→Run P (.ops n false all rest env e1)
 | not {n draw all o rest env e1 e2}:awanted all o env=some false→eput n o.dst .und env=some e1→Run P (.ops n draw all rest e1 e2)→Run P (.ops n draw all (o::rest) env e2)
 | op {n draw all o rest env e1 e2}:awanted all o env=some true→(match draw with | true=>astepDA P n all o env | false=>astep P n o env)=some e1→Run P (.ops n draw all rest e1 e2)→Run P (.ops n draw all (o::rest) env e2)
 | rowOp {n all o rest env e1 e2}:awanted all o env=some true→arow P n o env=some e1→Run P (.ops n false all rest e1 e2)→Run P (.ops n false all (o::rest) env e2)
 | clearOp {n all o rest env e1 e2} (zv:AV):awanted all o env=some true→aclear P o env zv=some e1→Run P (.ops n false all rest e1 e2)→Run P (.ops n false all (o::rest) env e2)
 | agrOp {n all o rest env e1 e2}:awanted all o env=some true→aagr P n o env=some e1→Run P (.ops n false all rest e1 e2)→Run P (.ops n false all (o::rest) env e2)
 | callOp {n draw all o rest env f args r e1 e2}:awanted all o env=some true→acallee P o env=some (f,args)→Run P (.call f args r)→callPut n draw o.dst r env=some e1→Run P (.ops n draw all rest e1 e2)→Run P (.ops n draw all (o::rest) env e2)
 | ext0 {f args r}:CallOk P f args r→Run P (.call f args r)
 | extM {f args hp r hp'}:CallMOk P f args hp r hp'→(∀ id x,look hp' id=some x→x.ent=true)→Run P (.callM f args hp r hp')
 | ext {f args r vs rv}:optAll (args.map AV.val)=some vs→r.val=some rv→Known P f vs rv→Run P (.call f args r)
 | call {f args r fn c ex e1}:P.funcs[f]? = some fn→fn.body=some c→(Nat.ble args.length fn.ntmps && Nat.ble fn.ntmps 1000000)=true→Run P (.code fn.ntmps c (argsEnv 0 (args.map AV.strip)) ex e1)→(match ex with | .exit _=>False | _=>True)→qq P fn e1=some r→Run P (.call f args r)
end Go.AM
