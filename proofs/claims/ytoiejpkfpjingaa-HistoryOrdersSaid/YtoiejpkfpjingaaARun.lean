/-
  THE ABSTRACT MACHINE: what it runs. No statement of the seat is proved here.
-/
import Derived.Test.YtoiejpkfpjingaaASimI
set_option linter.unusedVariables false
namespace Go.AM

/-- A judgement: a piece of code, a list of operations, a call. -/
inductive J where
  | code (n : Nat) (c : Code) (env : Env) (ex : Ex) (env' : Env)
  | ops (n : Nat) (draw : Bool) (all rest : List Oper) (env env' : Env)
  | call (f : Nat) (args : List AV) (r : AV)
  | callM (f : Nat) (args : List AV) (hp : Env) (r : AV) (hp' : Env)
  | opsB (n : Nat) (all rest : List Oper) (env env' : Env)

inductive Run (P : Program) : J → Prop where
  | skip {n env} : Run P (.code n .skip env .normal env)
  | ret {n env} : Run P (.code n .ret env .ret env)
  | exit {n env id} : Run P (.code n (.exit id) env (.exit id) env)
  | seqN {n x y env e1 ex e2} : Run P (.code n x env .normal e1) → Run P (.code n y e1 ex e2) → Run P (.code n (.seq x y) env ex e2)
  | seqX {n x y env id e1} : Run P (.code n x env (.exit id) e1) → Run P (.code n (.seq x y) env (.exit id) e1)
  | seqR {n x y env e1} : Run P (.code n x env .ret e1) → Run P (.code n (.seq x y) env .ret e1)
  | cond {n c x y env ex e1} (b : Bool) : aop env c = some (.bool b) → Run P (.code n (match b with | true => x | false => y) env ex e1) → Run P (.code n (.cond c x y) env ex e1)
  | condU {n c x y env ex e1} (p : Bool) : aop env c = some (.ub p) → (p = true → Run P (.code n x env ex e1)) → Run P (.code n y env ex e1) → Run P (.code n (.cond c x y) env ex e1)
  | seqU {n v c x y z env e0 ei e2} (p : Bool) : Run P (.code n v env .normal e0) → aop e0 c = some (.ub p) → (p = true → Run P (.code n x e0 .ret e2)) → Run P (.code n y e0 .normal ei) → Run P (.code n z ei .ret e2) → Run P (.code n (.seq (.seq v (.cond c x y)) z) env .ret e2)
  | mv {n c env ex e1} (q : List Mv) : Run P (.code n c (mvAll env q) ex e1) → Run P (.code n c env ex e1)
  | mvOp {n all rest env e1} (q : List Mv) : Run P (.ops n false all rest (mvAll env q) e1) → Run P (.ops n false all rest env e1)
  | callOpR {n draw all o rest env f args r e1 e2} : awanted all o env = some true → acalleeR P o env = some (f, args) → r.plain = true → Run P (.call f args r) → eput n o.dst r env = some e1 → Run P (.ops n draw all rest e1 e2) → Run P (.ops n draw all (o :: rest) env e2)
  | callOpM {n all o rest env f args hp r hp' e1 e2} (ρ nw : List (Nat × Nat)) : awanted all o env = some true → acalleeM P o env ρ = some (f, args, hp) → Run P (.callM f args hp r hp') → callPutM n o.dst ρ nw r hp' env = some e1 → Run P (.ops n false all rest e1 e2) → Run P (.ops n false all (o :: rest) env e2)
  | callOpMD {n all o rest env f args hp r hp' e1 e2} (ρ nw : List (Nat × Nat)) : (isEff o.op && !isStore o.op) = true → awanted all o env = some true → acalleeM P o env ρ = some (f, args, hp) → Run P (.callM f args hp r hp') → callPutM n o.dst ρ nw r hp' env = some e1 → Run P (.ops n true all rest e1 e2) → Run P (.ops n true all (o :: rest) env e2)
  | callM {f args hp r fn c ex e1} : P.funcs[f]? = some fn → fn.body = some c → (Nat.ble args.length fn.ntmps && Nat.ble fn.ntmps 1000000 && hpOk hp) = true → Run P (.code fn.ntmps c (argsEnv 0 (args.map AV.strip) ++ hp) ex e1) → (match ex with | .exit _ => False | _ => True) → aresultsM P fn e1 = some r → Run P (.callM f args hp r (ents e1))
  | block {n id c env ex e1} : Run P (.code n c env ex e1) → Run P (.code n (.block id c) env (ex.unblock id) e1)
  | loopN {n c env e1 ex e2} : Run P (.code n c env .normal e1) → Run P (.code n (.loop c) e1 ex e2) → Run P (.code n (.loop c) env ex e2)
  | loopX {n c env id e1} : Run P (.code n c env (.exit id) e1) → Run P (.code n (.loop c) env (.exit id) e1)
  | loopR {n c env e1} : Run P (.code n c env .ret e1) → Run P (.code n (.loop c) env .ret e1)
  | region {n id ops draw env e1} : (draw = true → orderOk ops = true ∧ edgesBack ops = true) → Run P (.ops n draw ops.toList ops.toList env e1) → Run P (.code n (.region id ops draw) env .normal e1)
  | regionP {n id ops env e1} (L : List Nat) : (orderP ops L env && edgesBack ops) = true → Run P (.ops n true ops.toList (permOps ops L) env e1) → Run P (.code n (.region id ops true) env .normal e1)
  | regionB {n id ops env e1} : (orderB ops && edgesBack ops && banOk ops.toList env) = true → Run P (.opsB n ops.toList ops.toList env e1) → Run P (.code n (.region id ops true) env .normal (dropB ops.toList e1))
  | nilB {n all env} : Run P (.opsB n all [] env env)
  | opB {n all o rest env e1 e2} : awanted all o env = some true → astepB P n o env = some e1 → Run P (.opsB n all rest e1 e2) → Run P (.opsB n all (o :: rest) env e2)
  | weak {n c env ex e1} (keep frz : List Nat) (nl : List (Nat × Nat × Nat × Nat × Nat)) (rl : List (Nat × Option Nat)) : Run P (.code n c (weakE keep frz nl rl env) ex e1) → Run P (.code n c env ex e1)
  | nil {n draw all env} : Run P (.ops n draw all [] env env)
  | drop {n all rest env e1} (keep : List Nat) : Run P (.ops n false all rest (dropE keep env) e1) → Run P (.ops n false all rest env e1)
  | not {n draw all o rest env e1 e2} : awanted all o env = some false → eput n o.dst .und env = some e1 → Run P (.ops n draw all rest e1 e2) → Run P (.ops n draw all (o :: rest) env e2)
  | op {n draw all o rest env e1 e2} : awanted all o env = some true → (match draw with | true => astepDA P n all o env | false => astep P n o env) = some e1 → Run P (.ops n draw all rest e1 e2) → Run P (.ops n draw all (o :: rest) env e2)
  | rowOp {n all o rest env e1 e2} : awanted all o env = some true → arow P n o env = some e1 → Run P (.ops n false all rest e1 e2) → Run P (.ops n false all (o :: rest) env e2)
  | convR {n all o rest env e1 e2} : awanted all o env = some true → aconvR P n o env = some e1 → Run P (.ops n false all rest e1 e2) → Run P (.ops n false all (o :: rest) env e2)
  | agrOp {n all o rest env e1 e2} : awanted all o env = some true → aagr P n o env = some e1 → Run P (.ops n false all rest e1 e2) → Run P (.ops n false all (o :: rest) env e2)
  | callOp {n draw all o rest env f args r e1 e2} : awanted all o env = some true → acallee P o env = some (f, args) → Run P (.call f args r) → callPut n draw o.dst r env = some e1 → Run P (.ops n draw all rest e1 e2) → Run P (.ops n draw all (o :: rest) env e2)
  | ext0 {f args r} : CallOk P f args r → Run P (.call f args r)
  | extM {f args hp r hp'} : CallMOk P f args hp r hp' → (∀ id x, look hp' id = some x → x.ent = true) → Run P (.callM f args hp r hp')
  | ext {f args r vs rv} : optAll (args.map AV.val) = some vs → r.val = some rv → Known P f vs rv → Run P (.call f args r)
  | extSort {f e zs} : Nat.blt e 1000000000 = true → zs ≠ [] → zs.length < 4611686018427387904 → KnownSort P f e → Run P (.callM f [.sb 2000000 e 1 0 zs.length] [(2000000, .obj e 1 (zs.map (AV.int .i64)))] (.tup []) [(2000000, .obj e 1 ((sortI zs).map (AV.int .i64)))])
  | extRepl {f e : Nat} {zs : List Int} {i : Nat} {x y : Int} : Nat.blt e 1000000000 = true → i < zs.length → (zs.length + 1) * 8 ≤ 140737488355328 → KnownRepl P f e → Run P (.callM f [.sb 3000000 e 1 0 zs.length, .int .i64 (i : Nat), .int .i64 ((i : Nat) + 1), .lst e 1 none [.int .i64 x, .int .i64 y]] [(3000000, .obj e 1 (zs.map (AV.int .i64)))] (.sb 1900000 e 1 0 (zs.length + 1)) [(1900000, .obj e 1 ((zs.take i ++ [x, y] ++ zs.drop (i + 1)).map (AV.int .i64)))])
  | call {f args r fn c ex e1} : P.funcs[f]? = some fn → fn.body = some c → (Nat.ble args.length fn.ntmps && Nat.ble fn.ntmps 1000000) = true → Run P (.code fn.ntmps c (argsEnv 0 (args.map AV.strip)) ex e1) → (match ex with | .exit _ => False | _ => True) → aresults P fn e1 = some r → Run P (.call f args r)

end Go.AM
