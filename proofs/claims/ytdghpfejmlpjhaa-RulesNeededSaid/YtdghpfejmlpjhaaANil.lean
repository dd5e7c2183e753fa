/- s -/
import Derived.Sort.Grow
import Derived.Test.YtdghpfejmlpjhaaAClose
import Derived.Test.YtdghpfejmlpjhaaChecked
import Derived.Test.YtdghpfejmlpjhaaASimP
import Derived.WalkKit
import Derived.BigCall
import Derived.Deep.RegionHeld3
import Derived.Deep.RegionHeldLaw
import Derived.Deep.AppendLies
import Derived.Deep.OwnRows
import Derived.OneCell
import Derived.Laws.Rows
import Derived.Test.YtdghpfejmlpjhaaASimJ
import Derived.Test.YtdghpfejmlpjhaaASimN
set_option linter.unusedVariables false
set_option linter.unusedSimpArgs false
set_option maxRecDepth 100000
namespace Go.AM
open Go.RowKit Go.Sort Go.Proofs
theorem qdA (zs:List Int) (k:IntKind):flat (zs.map (AV.int k))=zs.map (AV.int k):=by
 unfold flat;rw[List.flatMap_map];simp only[AV.cells];exact List.map_eq_flatMap.symm
end Go.AM
namespace Go.AM
open Go.RowKit Go.Proofs
theorem mixedP:Try.prog.follows .mixedOrders=true:=by kernel_rfl
abbrev cL (l:List Int):List AV:=l.map (AV.int .i64)
theorem glob0 (M:Mem):Glob M:=fun g hg=>by cases hg
theorem Cons.below {M:Mem} {w w':World} (h:Cons M w) (hB:Below w.heap.size w w'):Cons M w':=Uo h hB
theorem Cons.of_blocks {M:Mem} {w w':World} (h:Cons M w) (hb:∀ b o u,M b o=some u→b<w.heap.size→w'.heap[b]? = w.heap[b]?):Cons M w':=fun b o u hu=>by
 have h1:=h b o u hu;rw[Qp (hb b o u hu (ZL h1))];exact h1
theorem Cons.alloc {M:Mem} {w:World} (h:Cons M w) (o:Obj):Cons M (w.alloc o):=h.of_blocks fun b _ _ _ hb=>heap_alloc_old w o hb
theorem Cons.setCell {M:Mem} {w:World} (h:Cons M w) {a:Addr} (ha:∀ o,M a.block o=none) (v:Value):Cons M (w.setCell a v) :=
 h.of_blocks fun b o u hu hb=>Below.heap_setCell w a v b fun e=>by rw[e,ha]at hu;cases hu
theorem qeT (l:List Int):flat (cL l)=cL l:=qdA l .i64
theorem Nw {M:Mem} {l:List Int} {v:Value} (h:R M (.lst 3 1 none (cL l)) v):∃ a cap,v=.slice a l.length cap∧∀ j (hj:j<l.length),∃ b off,a=some ⟨b,off,none⟩∧M b (off+j)=some (.int .i64 l[j]):=by
 generalize hx:cL l=xs at h
 cases h with
 | lstn =>
  have:l=[]:=by simpa[cL] using hx
  subst this;exact⟨none,0,rfl,fun j hj=>absurd hj (by simp)⟩
 | lste _ _ _ ad cap =>
  have:l=[]:=by simpa[cL] using hx
  subst this;exact⟨some ad,cap,rfl,fun j hj=>absurd hj (by simp)⟩
 | lst us h1 h2 h5 h3 h4 =>
  subst hx;rename_i b off cap;refine⟨some ⟨b,off,none⟩,cap,by simp[cL],fun j hj=>⟨b,off,rfl,?_⟩⟩
  have hf:(flat (cL l))[j]? = some (.int .i64 l[j]):=by rw[qeT];simp[cL,hj]
  rw[h3 j _ hf,(h4 j _ hf).int_inv]
theorem qcW {f:Nat} {args:List AV} {r:AV} (h:Run Try.prog (.call f args r)):CallOk Try.prog f args r:=Zb mixedP h
theorem HF {M:Mem} {w:World} {t kt e:TypeId} {ks vs:List AV} {mv kv:Value} {k r:AV} (hC:Cons M w) (hm:R M (.mpv ks vs) mv) (ht:Qq Try.prog t=some (kt,e)) (hkv:k.keyV=some kv) (hr:alookup Try.prog t [] (.mpv ks vs) k=some r) :
  ∃ v,(Instr.lookup t mv kv false).run Try.prog w=.ok v w∧R M r v:=by
 unfold alookup at hr;rw[ht]at hr;simp only[XH]at hr
 split at hr
 case h_2=>cases hr
 rename_i hc;simp only[Bool.and_eq_true]at hc;obtain⟨⟨hfit,hks⟩,hall⟩:=hc;have ht:=QB ht;obtain⟨K,l,hl⟩:=ZD hfit hkv
 have hz:∀ z,zeroA1 Try.prog e=some z→∃ v,(zeroValue e).run Try.prog w=.ok v w∧R M z v:=fun z hz=>by
  obtain⟨v,h1,h2,_⟩:=Zt (M:=M) (O:=⟨fun _ _=>none,fun _=>0,fun _=>0⟩) (w:=w) hz;exact⟨v,h1,h2⟩
 rcases UF hm with ⟨rfl,rfl,rfl⟩ | ⟨ks',vs',b,es,clock,hp,rfl,h1,h2,h3,h4,h5,h6,h7⟩
 ·simp only[findA]at hr;obtain⟨z,hz,hz2⟩:=hz _ hr;refine⟨z,?_,hz2⟩
  have hfind:(Instr.findKey kt kv (#[]:Array MapEntry).toList).run Try.prog w=.ok none w:=by
   rcases K.find w hl [] (by simp) with ⟨h1,_⟩ | ⟨j,e,_,h2,_⟩
   ·exact h1
   ·simp at h2
  simp[Instr.lookup,run_underlying ht,K.check w true hl,hfind,hz,Result.andThen]
 ·have hb:=YW (hC _ _ _ h1)
  have hall':ks'.all (keyFits Try.prog kt)=true:=List.all_eq_true.2 fun y hy=>List.all_eq_true.1 hall y (hp.keys.mem_iff.2 hy)
  have E:EntOk M es clock ks' vs':=⟨h2,h3,h4,h5,h6,h7⟩;obtain⟨hck,hst,hfd⟩:=YB (w:=w) hfit hkv hall' E;obtain⟨fp1,fp2⟩:=qap hkv hp E
  rcases hfd with ⟨k1,k2,k3⟩ | ⟨j,e0,k1,k2,k3,k4⟩
  ·rw[fp1 k1]at hr;obtain⟨z,hz,hz2⟩:=hz _ hr;refine⟨z,?_,hz2⟩
   simp[Instr.lookup,run_underlying ht,MapKept.run_getObj_map hb,hck,k2,hz,Result.andThen]
  ·obtain⟨i,g1,g2⟩:=fp2 j k1;rw[g1]at hr;simp only[g2]at hr;refine⟨e0.val,?_,h7 j r e0 hr (by simpa using k3)⟩
   simp[Instr.lookup,run_underlying ht,MapKept.run_getObj_map hb,hck,k2,Result.andThen]
theorem Qh {w:World} {b j:Nat} {cs:Array Value} {t:TypeId} (u:Value) (h:w.heap[b]? = some (.cells cs t (0,0))):(w.setCell ⟨b,j,none⟩ u).heap[b]? = some (.cells (cs.setIfInBounds j u) t (0,0)):=by
 have hlt:=lt_of_block h
 have h':w.heap[b]=.cells cs t (0,0):=by simpa[Array.getElem?_eq_getElem hlt] using h
 show (w.heap.modify b _)[b]? = _;rw[Array.getElem?_eq_getElem (by simpa using hlt),Array.getElem_modify_self,h'];rfl
theorem JH {w:World} {b j k:Nat} {u:Value} (h:k≠b):(w.setCell ⟨b,j,none⟩ u).heap[k]? = w.heap[k]?:=Below.heap_setCell w ⟨b,j,none⟩ u k h
theorem QL {w:World} {a:Addr} {u:Value}:(w.setCell a u).heap.size=w.heap.size:=by simp[World.setCell]
end Go.AM
namespace Go.AM
open Go.RowKit
variable {P:Program} {n:Nat} {K V:Type} {F:K→AV} {G:V→AV} {eq:K→K→Bool}
inductive AllP {α:Type} (q:α→Prop):List α→Prop where
 | nil:AllP q []
 | cons {a l}:q a→AllP q l→AllP q (a::l)
theorem AllP.mem {α:Type} {q:α→Prop}:∀ {l:List α},AllP q l→∀ x,x∈l→q x
 | _,.nil,x,h=>by cases h
 | _,.cons h t,x,hx=>by
  rcases List.mem_cons.1 hx with rfl | hx
  ·exact h
  ·exact t.mem x hx
def stepA (P:Program) (n:Nat) (all:List Oper) (env:Env) (k:Nat):Option Env :=
 match all[k]? with
 | some o=>match awanted all o env with
  | some true=>astep P n o env
  | _=>none
 | none=>none
def lkE:List (Nat×Env)→Nat→Env
 | [],_=>[]
 | p::r,k=>match Nat.beq p.1 k with
  | true=>p.2
  | false=>lkE r k
theorem qbc:∀ {l:List (Nat×Env)} {k:Nat},k∈l.map (·.1)→∃ p,p∈l∧p.1=k∧lkE l k=p.2
 | [],k,h=>by cases h
 | p::r,k,h=>by
  unfold lkE
  cases hb:Nat.beq p.1 k with
  | true=>exact⟨p,List.mem_cons_self ..,Nat.eq_of_beq_eq_true hb,rfl⟩
  | false =>
   rw[List.map_cons,List.mem_cons]at h
   rcases h with rfl | h
   ·rw[Nat.beq_refl]at hb;cases hb
   ·obtain⟨q,h1,h2,h3⟩:=qbc h;exact⟨q,List.mem_cons_of_mem _ h1,h2,h3⟩
theorem Run.anyC {all:List Oper} {R:List Nat} {env e1:Env} (l:List (Nat×Env)) (hne:R.isEmpty=false) (h0:R.filter (readyR all R)=l.map (·.1)) (hs:AllP (fun p=>∃ o,all[p.1]? = some o∧WO P n false all [o] (fun e=>e=p.2) env) l) (hr:AllP (fun p=>Run P (.any n all (R.erase p.1) p.2 e1)) l):Run P (.any n all R env e1):=by
 have key:∀ k,k∈R→readyR all R k=true→∃ p,p∈l∧p.1=k∧lkE l k=p.2:=fun k hk hd=>qbc (by rw[← h0];exact List.mem_filter.2 ⟨hk,hd⟩)
 refine .anyStep (lkE l) (fun e=>by rw[e]at hne;cases hne) (fun k o hk ho hd=>?_) (fun k hk hd=>?_)
 ·obtain⟨p,h1,rfl,h3⟩:=key k hk hd;obtain⟨o',g1,e2,g2,g3⟩:=hs.mem p h1;rw[ho]at g1;cases g1;rw[h3,← g3];exact g2
 ·obtain⟨p,h1,rfl,h3⟩:=key k hk hd;rw[h3];exact hr.mem p h1
theorem Run.anyL {all:List Oper} {R:List Nat} {env e1:Env} (l:List (Nat×Env)) (hne:R.isEmpty=false) (h0:R.filter (readyR all R)=l.map (·.1)) (hs:AllP (fun p=>stepA P n all env p.1=some p.2) l) (hr:AllP (fun p=>Run P (.any n all (R.erase p.1) p.2 e1)) l):Run P (.any n all R env e1):=by
 have key:∀ k,k∈R→readyR all R k=true→∃ p,p∈l∧p.1=k∧lkE l k=p.2:=fun k hk hd=>qbc (by rw[← h0];exact List.mem_filter.2 ⟨hk,hd⟩)
 refine .anyStep (lkE l) (fun e=>by rw[e]at hne;cases hne) (fun k o hk ho hd=>?_) (fun k hk hd=>?_)
 ·obtain⟨p,h1,rfl,h3⟩:=key k hk hd;have:=hs.mem p h1;unfold stepA at this;rw[ho]at this;simp only at this
  split at this
  ·rename_i hw;rw[h3];exact .op hw this .nil
  ·cases this
 ·obtain⟨p,h1,rfl,h3⟩:=key k hk hd;rw[h3];exact hr.mem p h1
theorem W.regionA {id:Nat} {ops:Array Oper} {Q:Ex→Env→Prop} {env e1:Env} (hb:Jg ops=true) (h:Run P (.any n ops.toList (List.range ops.size) env e1)) (hq:WO P n false ops.toList [] (Q .normal) e1):W P n (.region id ops true) Q env:=by
 obtain⟨e2,h1,h2⟩:=hq;exact⟨_,e2,.regionA hb h h1,h2⟩
theorem JZ {all:List Oper} {env e1:Env} {k:Nat} {v:AV} (X:Option AV)
  (hp:(match all[k]? with
   | some o=>match awanted all o env with
    | some true=>match plainOp o.op && notBox v with
     | true=>some (apure P o env)
     | false=>none
    | _=>none
   | none=>none)=some X) (hX:X=some v) (he:(match all[k]? with | some o=>eput n o.dst v env | none=>none)=some e1):stepA P n all env k=some e1:=by
 unfold stepA
 cases hk:all[k]? with
 | none=>rw[hk]at hp;cases hp
 | some o =>
  rw[hk]at hp he;simp only at hp he ⊢
  split at hp <;> try cases hp
  rename_i hw
  split at hp <;> try cases hp
  rename_i hb;simp only[Bool.and_eq_true]at hb;show astep P n o env=some e1;rw[NW hb.1,hX];exact he
theorem JG {α:Type} {enc:α→AV} {all:List Oper} {env:Env} {s sz k:Nat} {l l':List α} (hF:Flat enc) (hl:decide (l.length=sz∧l'.length=sz)=true)
  (hp:(match all[k]? with | some o=>setPre P all o env | none=>none)=some (s,0,.agg (l.map enc),l'.map enc,sz)):stepA P n all env k=some (ins s (.hob 3 [] (l.map enc)) env):=by
 obtain⟨hl1,hl2⟩:=of_decide_eq_true hl;unfold stepA
 cases hk:all[k]? with
 | none=>rw[hk]at hp;cases hp
 | some o =>
  rw[hk]at hp;obtain⟨a1,a2,a3,a4,_,a5⟩:=ZS (n:=n) hp;simp only[a1];rw[a5 _ rfl (by rw[List.length_map];exact hl1)];unfold putRow;have:Nat.ble (0+(l.map enc).length) (l'.map enc).length=true:=Nat.ble_eq_true_of_le (by rw[List.length_map,List.length_map];omega);simp only[hF.all,a4,this];rw[hF.strips,List.take_zero,List.drop_eq_nil_of_le (by rw[List.length_map,List.length_map];omega),List.nil_append,List.append_nil]
theorem qeZ {α:Type} {F:α→AV} {z:α} {l:List α} {a m b:Nat}:(l.map F).take a++List.replicate m (F z)++(l.map F).drop b=(l.take a++List.replicate m z++l.drop b).map F:=by
 simp only[List.map_append,List.map_take,List.map_drop,List.map_replicate]
theorem WO.clearK {all ops:List Oper} {Q:Env→Prop} {env e1:Env} (k:Nat) (zv:AV)
  (he:stepsE P n false all k ops env (fun os en=>match os with
   | o::_=>match awanted all o en with
    | some true=>aclear P o en zv
    | _=>none
   | []=>none)=some e1) (h:WO P n false all (ops.drop (k+1)) Q e1):WO P n false all ops Q env:=by
 obtain⟨en,h1,h2⟩:=qM he;refine WO.steps k h1 ?_
 have hd:ops.drop (k+1)=(ops.drop k).drop 1:=by rw[List.drop_drop]
 rw[hd]at h
 cases hos:ops.drop k with
 | nil=>rw[hos]at h2;cases h2
 | cons o rest =>
  rw[hos]at h2 h;simp only at h2
  split at h2
  ·rename_i hw;obtain⟨e',q1,q2⟩:=h;exact⟨e',.clearOp zv hw h2 q1,q2⟩
  ·cases h2
end Go.AM
namespace Go.AM
def emptyAt (args:List AV) (j:Nat):Bool:=match args[j]? with
 | some (.lst _ _ _ [])=>true
 | _=>false
theorem qfB {P:Program} (hmix:P.follows .mixedOrders=true) {f:Nat} {args:List AV} {r:AV} (j:Nat) (hj:emptyAt args j=true) (h:Run P (.call f args r)):Run P (.call f (args.set j .nils) r):=by
 refine .ext0 ?_;have hc:CallOk P f args r:=Zb hmix h;intro M w vs hg hcons hlen hR
 refine hc M w vs hg hcons (by rw[List.length_set]at hlen;exact hlen) fun i c v h1 h2=>?_
 by_cases hij:j=i
 ·subst hij;unfold emptyAt at hj
  split at hj
  ·rename_i e k l hl;rw[hl]at h1;cases h1;have hlt:=(List.getElem?_eq_some_iff.1 hl).1;have:=hR j .nils v (by rw[List.getElem?_set_self hlt]) h2;cases this;exact .lstn e k l
  ·cases hj
 ·exact hR i c v (by rw[List.getElem?_set_ne hij];exact h1) h2
end Go.AM
