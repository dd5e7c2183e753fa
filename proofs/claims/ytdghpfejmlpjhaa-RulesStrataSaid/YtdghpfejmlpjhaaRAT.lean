/- s -/
import Derived.Sort.Grow
import Derived.Test.YtdghpfejmlpjhaaAClose
import Derived.Test.YtdghpfejmlpjhaaChecked
import Derived.Test.YtdghpfejmlpjhaaASimP
import Derived.WalkKit
import Derived.BigCall
import Derived.Deep.RegionHeld3
import Derived.Deep.RegionHeldLaw
import Derived.Deep.AppendLies
import Derived.Deep.OwnRows
import Derived.OneCell
import Derived.Laws.Rows
import Derived.Test.YtdghpfejmlpjhaaASimJ
import Derived.Test.YtdghpfejmlpjhaaAArr
import Derived.Test.YtdghpfejmlpjhaaASimN
import Derived.Test.YtdghpfejmlpjhaaAWq
set_option linter.unusedVariables false
set_option linter.unusedSimpArgs false
set_option maxRecDepth 100000
namespace Go.AM
open Go.RowKit Go.Sort Go.Proofs
theorem qdH (zs:List Int) (k:IntKind):flat (zs.map (AV.int k))=zs.map (AV.int k):=by
 unfold flat;rw[List.flatMap_map];simp only[AV.cells];exact List.map_eq_flatMap.symm
end Go.AM
namespace Go.AM
open Go.RowKit Go.Proofs
theorem mixedP:Try.prog.follows .mixedOrders=true:=by kernel_rfl
abbrev cL (l:List Int):List AV:=l.map (AV.int .i64)
theorem glob0 (M:Mem):Glob M:=fun g hg=>by cases hg
theorem Cons.below {M:Mem} {w w':World} (h:Cons M w) (hB:Below w.heap.size w w'):Cons M w':=UD h hB
theorem Cons.of_blocks {M:Mem} {w w':World} (h:Cons M w) (hb:∀ b o u,M b o=some u→b<w.heap.size→w'.heap[b]? = w.heap[b]?):Cons M w':=fun b o u hu=>by
 have h1:=h b o u hu;rw[QY (hb b o u hu (Vl h1))];exact h1
theorem Cons.alloc {M:Mem} {w:World} (h:Cons M w) (o:Obj):Cons M (w.alloc o):=h.of_blocks fun b _ _ _ hb=>heap_alloc_old w o hb
theorem Cons.setCell {M:Mem} {w:World} (h:Cons M w) {a:Addr} (ha:∀ o,M a.block o=none) (v:Value):Cons M (w.setCell a v) :=
 h.of_blocks fun b o u hu hb=>Below.heap_setCell w a v b fun e=>by rw[e,ha]at hu;cases hu
theorem qeY (l:List Int):flat (cL l)=cL l:=qdH l .i64
theorem NL {M:Mem} {l:List Int} {v:Value} (h:R M (.lst 3 1 none (cL l)) v):∃ a cap,v=.slice a l.length cap∧∀ j (hj:j<l.length),∃ b off,a=some ⟨b,off,none⟩∧M b (off+j)=some (.int .i64 l[j]):=by
 generalize hx:cL l=xs at h
 cases h with
 | lstn =>
  have:l=[]:=by simpa[cL] using hx
  subst this;exact⟨none,0,rfl,fun j hj=>absurd hj (by simp)⟩
 | lste _ _ _ ad cap =>
  have:l=[]:=by simpa[cL] using hx
  subst this;exact⟨some ad,cap,rfl,fun j hj=>absurd hj (by simp)⟩
 | lst us h1 h2 h5 h3 h4 =>
  subst hx;rename_i b off cap;refine⟨some ⟨b,off,none⟩,cap,by simp[cL],fun j hj=>⟨b,off,rfl,?_⟩⟩
  have hf:(flat (cL l))[j]? = some (.int .i64 l[j]):=by rw[qeY];simp[cL,hj]
  rw[h3 j _ hf,(h4 j _ hf).int_inv]
theorem qdh {f:Nat} {args:List AV} {r:AV} (h:Run Try.prog (.call f args r)):CallOk Try.prog f args r:=ZG mixedP h
theorem Dj {M:Mem} {w:World} {t kt e:TypeId} {ks vs:List AV} {mv kv:Value} {k r:AV} (hC:Cons M w) (hm:R M (.mpv ks vs) mv) (ht:QZ Try.prog t=some (kt,e)) (hkv:k.keyV=some kv) (hr:alookup Try.prog t [] (.mpv ks vs) k=some r) :
  ∃ v,(Instr.lookup t mv kv false).run Try.prog w=.ok v w∧R M r v:=by
 unfold alookup at hr;rw[ht]at hr;simp only[Ys]at hr
 split at hr
 case h_2=>cases hr
 rename_i hc;simp only[Bool.and_eq_true]at hc;obtain⟨⟨hfit,hks⟩,hall⟩:=hc;have ht:=Xo ht;obtain⟨K,l,hl⟩:=Ve hfit hkv
 have hz:∀ z,zeroA1 Try.prog e=some z→∃ v,(zeroValue e).run Try.prog w=.ok v w∧R M z v:=fun z hz=>by
  obtain⟨v,h1,h2,_⟩:=ZT (M:=M) (O:=⟨fun _ _=>none,fun _=>0,fun _=>0⟩) (w:=w) hz;exact⟨v,h1,h2⟩
 rcases UR hm with ⟨rfl,rfl,rfl⟩ | ⟨ks',vs',b,es,clock,hp,rfl,h1,h2,h3,h4,h5,h6,h7⟩
 ·simp only[findA]at hr;obtain⟨z,hz,hz2⟩:=hz _ hr;refine⟨z,?_,hz2⟩
  have hfind:(Instr.findKey kt kv (#[]:Array MapEntry).toList).run Try.prog w=.ok none w:=by
   rcases K.find w hl [] (by simp) with ⟨h1,_⟩ | ⟨j,e,_,h2,_⟩
   ·exact h1
   ·simp at h2
  simp[Instr.lookup,run_underlying ht,K.check w true hl,hfind,hz,Result.andThen]
 ·have hb:=ZA (hC _ _ _ h1)
  have hall':ks'.all (keyFits Try.prog kt)=true:=List.all_eq_true.2 fun y hy=>List.all_eq_true.1 hall y (hp.keys.mem_iff.2 hy)
  have E:EntOk M es clock ks' vs':=⟨h2,h3,h4,h5,h6,h7⟩;obtain⟨hck,hst,hfd⟩:=Zi (w:=w) hfit hkv hall' E;obtain⟨fp1,fp2⟩:=qaE hkv hp E
  rcases hfd with ⟨k1,k2,k3⟩ | ⟨j,e0,k1,k2,k3,k4⟩
  ·rw[fp1 k1]at hr;obtain⟨z,hz,hz2⟩:=hz _ hr;refine⟨z,?_,hz2⟩
   simp[Instr.lookup,run_underlying ht,MapKept.run_getObj_map hb,hck,k2,hz,Result.andThen]
  ·obtain⟨i,g1,g2⟩:=fp2 j k1;rw[g1]at hr;simp only[g2]at hr;refine⟨e0.val,?_,h7 j r e0 hr (by simpa using k3)⟩
   simp[Instr.lookup,run_underlying ht,MapKept.run_getObj_map hb,hck,k2,Result.andThen]
theorem QQ {w:World} {b j:Nat} {cs:Array Value} {t:TypeId} (u:Value) (h:w.heap[b]? = some (.cells cs t (0,0))):(w.setCell ⟨b,j,none⟩ u).heap[b]? = some (.cells (cs.setIfInBounds j u) t (0,0)):=by
 have hlt:=lt_of_block h
 have h':w.heap[b]=.cells cs t (0,0):=by simpa[Array.getElem?_eq_getElem hlt] using h
 show (w.heap.modify b _)[b]? = _;rw[Array.getElem?_eq_getElem (by simpa using hlt),Array.getElem_modify_self,h'];rfl
theorem Qj {w:World} {b j k:Nat} {u:Value} (h:k≠b):(w.setCell ⟨b,j,none⟩ u).heap[k]? = w.heap[k]?:=Below.heap_setCell w ⟨b,j,none⟩ u k h
theorem Xw {w:World} {a:Addr} {u:Value}:(w.setCell a u).heap.size=w.heap.size:=by simp[World.setCell]
end Go.AM
namespace Go.AM
open Go.RowKit
variable {P:Program} {n:Nat} {K V:Type} {F:K→AV} {G:V→AV} {eq:K→K→Bool}
inductive AllP {α:Type} (q:α→Prop):List α→Prop where
 | nil:AllP q []
 | cons {a l}:q a→AllP q l→AllP q (a::l)
theorem AllP.mem {α:Type} {q:α→Prop}:∀ {l:List α},AllP q l→∀ x,x∈l→q x
 | _,.nil,x,h=>by cases h
 | _,.cons h t,x,hx=>by
  rcases List.mem_cons.1 hx with rfl | hx
  ·exact h
  ·exact t.mem x hx
def stepA (P:Program) (n:Nat) (all:List Oper) (env:Env) (k:Nat):Option Env :=
 match all[k]? with
 | some o=>match awanted all o env with
  | some true=>astep P n o env
  | _=>none
 | none=>none
def lkE:List (Nat×Env)→Nat→Env
 | [],_=>[]
 | p::r,k=>match Nat.beq p.1 k with
  | true=>p.2
  | false=>lkE r k
theorem qbs:∀ {l:List (Nat×Env)} {k:Nat},k∈l.map (·.1)→∃ p,p∈l∧p.1=k∧lkE l k=p.2
 | [],k,h=>by cases h
 | p::r,k,h=>by
  unfold lkE
  cases hb:Nat.beq p.1 k with
  | true=>exact⟨p,List.mem_cons_self ..,Nat.eq_of_beq_eq_true hb,rfl⟩
  | false =>
   rw[List.map_cons,List.mem_cons]at h
   rcases h with rfl | h
   ·rw[Nat.beq_refl]at hb;cases hb
   ·obtain⟨q,h1,h2,h3⟩:=qbs h;exact⟨q,List.mem_cons_of_mem _ h1,h2,h3⟩
theorem Run.anyC {all:List Oper} {R:List Nat} {env e1:Env} (l:List (Nat×Env)) (hne:R.isEmpty=false) (h0:R.filter (readyR all R)=l.map (·.1)) (hs:AllP (fun p=>∃ o,all[p.1]? = some o∧WO P n false all [o] (fun e=>e=p.2) env) l) (hr:AllP (fun p=>Run P (.any n all (R.erase p.1) p.2 e1)) l):Run P (.any n all R env e1):=by
 have key:∀ k,k∈R→readyR all R k=true→∃ p,p∈l∧p.1=k∧lkE l k=p.2:=fun k hk hd=>qbs (by rw[← h0];exact List.mem_filter.2 ⟨hk,hd⟩)
 refine .anyStep (lkE l) (fun e=>by rw[e]at hne;cases hne) (fun k o hk ho hd=>?_) (fun k hk hd=>?_)
 ·obtain⟨p,h1,rfl,h3⟩:=key k hk hd;obtain⟨o',g1,e2,g2,g3⟩:=hs.mem p h1;rw[ho]at g1;cases g1;rw[h3,← g3];exact g2
 ·obtain⟨p,h1,rfl,h3⟩:=key k hk hd;rw[h3];exact hr.mem p h1
theorem Run.anyL {all:List Oper} {R:List Nat} {env e1:Env} (l:List (Nat×Env)) (hne:R.isEmpty=false) (h0:R.filter (readyR all R)=l.map (·.1)) (hs:AllP (fun p=>stepA P n all env p.1=some p.2) l) (hr:AllP (fun p=>Run P (.any n all (R.erase p.1) p.2 e1)) l):Run P (.any n all R env e1):=by
 have key:∀ k,k∈R→readyR all R k=true→∃ p,p∈l∧p.1=k∧lkE l k=p.2:=fun k hk hd=>qbs (by rw[← h0];exact List.mem_filter.2 ⟨hk,hd⟩)
 refine .anyStep (lkE l) (fun e=>by rw[e]at hne;cases hne) (fun k o hk ho hd=>?_) (fun k hk hd=>?_)
 ·obtain⟨p,h1,rfl,h3⟩:=key k hk hd;have:=hs.mem p h1;unfold stepA at this;rw[ho]at this;simp only at this
  split at this
  ·rename_i hw;rw[h3];exact .op hw this .nil
  ·cases this
 ·obtain⟨p,h1,rfl,h3⟩:=key k hk hd;rw[h3];exact hr.mem p h1
theorem W.regionA {id:Nat} {ops:Array Oper} {Q:Ex→Env→Prop} {env e1:Env} (hb:JH ops=true) (h:Run P (.any n ops.toList (List.range ops.size) env e1)) (hq:WO P n false ops.toList [] (Q .normal) e1):W P n (.region id ops true) Q env:=by
 obtain⟨e2,h1,h2⟩:=hq;exact⟨_,e2,.regionA hb h h1,h2⟩
theorem QF {all:List Oper} {env e1:Env} {k:Nat} {v:AV} (X:Option AV)
  (hp:(match all[k]? with
   | some o=>match awanted all o env with
    | some true=>match plainOp o.op && notBox v with
     | true=>some (apure P o env)
     | false=>none
    | _=>none
   | none=>none)=some X) (hX:X=some v) (he:(match all[k]? with | some o=>eput n o.dst v env | none=>none)=some e1):stepA P n all env k=some e1:=by
 unfold stepA
 cases hk:all[k]? with
 | none=>rw[hk]at hp;cases hp
 | some o =>
  rw[hk]at hp he;simp only at hp he ⊢
  split at hp <;> try cases hp
  rename_i hw
  split at hp <;> try cases hp
  rename_i hb;simp only[Bool.and_eq_true]at hb;show astep P n o env=some e1;rw[Hj hb.1,hX];exact he
theorem Qi {α:Type} {enc:α→AV} {all:List Oper} {env:Env} {s sz k:Nat} {l l':List α} (hF:Flat enc) (hl:decide (l.length=sz∧l'.length=sz)=true)
  (hp:(match all[k]? with | some o=>setPre P all o env | none=>none)=some (s,0,.agg (l.map enc),l'.map enc,sz)):stepA P n all env k=some (ins s (.hob 3 [] (l.map enc)) env):=by
 obtain⟨hl1,hl2⟩:=of_decide_eq_true hl;unfold stepA
 cases hk:all[k]? with
 | none=>rw[hk]at hp;cases hp
 | some o =>
  rw[hk]at hp;obtain⟨a1,a2,a3,a4,_,a5⟩:=Vq (n:=n) hp;simp only[a1];rw[a5 _ rfl (by rw[List.length_map];exact hl1)];unfold putRow;have:Nat.ble (0+(l.map enc).length) (l'.map enc).length=true:=Nat.ble_eq_true_of_le (by rw[List.length_map,List.length_map];omega);simp only[hF.all,a4,this];rw[hF.strips,List.take_zero,List.drop_eq_nil_of_le (by rw[List.length_map,List.length_map];omega),List.nil_append,List.append_nil]
end Go.AM
namespace Go.AM
def emptyAt (args:List AV) (j:Nat):Bool:=match args[j]? with
 | some (.lst _ _ _ [])=>true
 | _=>false
theorem HU {P:Program} (hmix:P.follows .mixedOrders=true) {f:Nat} {args:List AV} {r:AV} (j:Nat) (hj:emptyAt args j=true) (h:Run P (.call f args r)):Run P (.call f (args.set j .nils) r):=by
 refine .ext0 ?_;have hc:CallOk P f args r:=ZG hmix h;intro M w vs hg hcons hlen hR
 refine hc M w vs hg hcons (by rw[List.length_set]at hlen;exact hlen) fun i c v h1 h2=>?_
 by_cases hij:j=i
 ·subst hij;unfold emptyAt at hj
  split at hj
  ·rename_i e k l hl;rw[hl]at h1;cases h1;have hlt:=(List.getElem?_eq_some_iff.1 hl).1;have:=hR j .nils v (by rw[List.getElem?_set_self hlt]) h2;cases this;exact .lstn e k l
  ·cases hj
 ·exact hR i c v (by rw[List.getElem?_set_ne hij];exact h1) h2
end Go.AM
namespace Go.Proofs
open Go.RowKit Go.AM Go.Sort
set_option maxHeartbeats 4000000 in
theorem Try.key81 (rel a c:Int) (b off cap n:Nat) (W:World) (h0:W.cell? ⟨b,off,none⟩=some (.int .i64 a)) (h1:1<n→W.cell? ⟨b,off+1,none⟩=some (.int .i64 c)) (h2:¬ 1<n→c=0) (hn:0<n) (hl:n≤1000000) :
  Calls Try.prog 81 #[.agg #[.int .i64 rel,.slice (some ⟨b,off,none⟩) n cap]] W fun e w'=>e=.returned (.agg #[.int .i64 rel,.int .i64 a,.int .i64 c])∧Below W.heap.size W w':=by
 have mixed:=mixedP;have t3:=Try.underlying3;have a3:=Try.isAgg3;have z3:=Try.sizeOf3;have v3:=Try.zeroValue3;have u3:=run_underlying Try.underlying3;have t4:=Try.underlying4;have a4:=Try.isAgg4;have z4:=Try.sizeOf4;have v4:=Try.zeroValue4;have u4:=run_underlying Try.underlying4;have t39:=Try.underlying39;have a39:=Try.isAgg39;have z39:=Try.sizeOf39;have v39:=Try.zeroValue39;have u39:=run_underlying Try.underlying39;have t41:=Try.underlying41;have a41:=Try.isAgg41;have z41:=Try.sizeOf41;have v41:=Try.zeroValue41;have u41:=run_underlying Try.underlying41;have t127:=Try.underlying127;have a127:=Try.isAgg127;have z127:=Try.sizeOf127;have v127:=Try.zeroValue127;have u127:=run_underlying Try.underlying127
 have hb:b<W.heap.size:=by
  unfold World.cell? at h0
  cases hh:W.heap[b]? with
  | none=>simp[hh]at h0
  | some o=>exact lt_of_block hh
 go_enter Try.func81,Try.ntmps81
 go_wp2_with fail
 obtain⟨W2,hW2⟩:∃ W2,W2=(W.alloc (.cells #[.int .i64 rel,.slice (some ⟨b,off,none⟩) n cap] 41)).alloc (.cells #[.int .i64 0,.int .i64 0,.int .i64 0] 127):=⟨_,rfl⟩
 have e1:W2.heap[W.heap.size]? = some (.cells #[.int .i64 rel,.slice (some ⟨b,off,none⟩) n cap] 41 (0,0)):=by
  rw[hW2,heap_alloc_old _ _ (by simp)];exact heap_alloc_new _ _
 have e2:W2.heap[W.heap.size+1]? = some (.cells #[.int .i64 0,.int .i64 0,.int .i64 0] 127 (0,0)):=by
  have:=heap_alloc_new (W.alloc (.cells #[.int .i64 rel,.slice (some ⟨b,off,none⟩) n cap] 41)) (.cells #[.int .i64 0,.int .i64 0,.int .i64 0] 127);rw[hW2]
  simpa using this
 have hsz:W2.heap.size=W.heap.size+2:=by rw[hW2];simp
 have hB:Below W.heap.size W W2:=by rw[hW2];exact ((Below.refl _ _).alloc (Nat.le_refl _) _).alloc (by simp) _
 rw[← hW2];clear hW2
 have old:∀ w',Below W.heap.size W w'→w'.cell? ⟨b,off,none⟩=some (.int .i64 a)∧(1<n→w'.cell? ⟨b,off+1,none⟩=some (.int .i64 c)):=fun w' h=>⟨(h.cell hb).trans h0,fun hc=>(h.cell hb).trans (h1 hc)⟩
 have K0:W2.cell? ⟨W.heap.size,0,none⟩=some (.int .i64 rel)∧W2.cell? ⟨W.heap.size,1,none⟩=some (.slice (some ⟨b,off,none⟩) n cap)∧W2.cell? ⟨b,off,none⟩=some (.int .i64 a):=by
  refine⟨?_,?_,(old _ hB).1⟩ <;> simp[World.cell?,e1]
 refine wp_region_held_drew (S:=(fun w'=>w'.cell? ⟨W.heap.size,0,none⟩=some (.int .i64 rel)∧w'.cell? ⟨W.heap.size,1,none⟩=some (.slice (some ⟨b,off,none⟩) n cap)∧w'.cell? ⟨b,off,none⟩=some (.int .i64 a))) (by kernel_rfl) K0 (fun hHeld=>?_);refine wpAnyH_take (i:=0) (v:=.pointer (some ⟨W.heap.size,0,none⟩)) rfl (by kernel_rfl) (by kernel_rfl) (by kernel_rfl) (fun _ _ _ h=>h) (Or.inl ⟨by kernel_rfl,fun w' hw'=>?_⟩) hHeld ?_
 ·obtain⟨q0,q1,q2⟩:=hw';go_simp
 simp only[Act.put,List.getElem_toArray,List.getElem_cons_succ,List.getElem_cons_zero,List.setIfInBounds_toArray,List.set_cons_zero,List.set_cons_succ];refine wpAnyH_take (i:=1) (v:=.int .i64 rel) rfl (by kernel_rfl) (by kernel_rfl) (by kernel_rfl) (fun _ _ _ h=>h) (Or.inl ⟨by kernel_rfl,fun w' hw'=>?_⟩) hHeld ?_
 ·obtain⟨q0,q1,q2⟩:=hw';go_simp
 simp only[Act.put,List.getElem_toArray,List.getElem_cons_succ,List.getElem_cons_zero,List.setIfInBounds_toArray,List.set_cons_zero,List.set_cons_succ];refine wpAnyH_take (i:=2) (v:=.pointer (some ⟨W.heap.size,1,none⟩)) rfl (by kernel_rfl) (by kernel_rfl) (by kernel_rfl) (fun _ _ _ h=>h) (Or.inl ⟨by kernel_rfl,fun w' hw'=>?_⟩) hHeld ?_
 ·obtain⟨q0,q1,q2⟩:=hw';go_simp
 simp only[Act.put,List.getElem_toArray,List.getElem_cons_succ,List.getElem_cons_zero,List.setIfInBounds_toArray,List.set_cons_zero,List.set_cons_succ];refine wpAnyH_take (i:=3) (v:=.slice (some ⟨b,off,none⟩) n cap) rfl (by kernel_rfl) (by kernel_rfl) (by kernel_rfl) (fun _ _ _ h=>h) (Or.inl ⟨by kernel_rfl,fun w' hw'=>?_⟩) hHeld ?_
 ·obtain⟨q0,q1,q2⟩:=hw';go_simp
 simp only[Act.put,List.getElem_toArray,List.getElem_cons_succ,List.getElem_cons_zero,List.setIfInBounds_toArray,List.set_cons_zero,List.set_cons_succ];refine wpAnyH_take (i:=4) (v:=.pointer (some ⟨b,off,none⟩)) rfl (by kernel_rfl) (by kernel_rfl) (by kernel_rfl) (fun _ _ _ h=>h) (Or.inl ⟨by kernel_rfl,fun w' hw'=>?_⟩) hHeld ?_
 ·obtain⟨q0,q1,q2⟩:=hw';go_simp
 simp only[Act.put,List.getElem_toArray,List.getElem_cons_succ,List.getElem_cons_zero,List.setIfInBounds_toArray,List.set_cons_zero,List.set_cons_succ];refine wpAnyH_take (i:=5) (v:=.int .i64 a) rfl (by kernel_rfl) (by kernel_rfl) (by kernel_rfl) (fun _ _ _ h=>h) (Or.inl ⟨by kernel_rfl,fun w' hw'=>?_⟩) hHeld ?_
 ·obtain⟨q0,q1,q2⟩:=hw';go_simp
 simp only[Act.put,List.getElem_toArray,List.getElem_cons_succ,List.getElem_cons_zero,List.setIfInBounds_toArray,List.set_cons_zero,List.set_cons_succ];refine wpAnyH_take (i:=6) (v:=.agg #[.int .i64 rel,.int .i64 a,.int .i64 0]) rfl (by kernel_rfl) (by kernel_rfl) (by kernel_rfl) (fun _ _ _ h=>h) (Or.inl ⟨by kernel_rfl,fun w' hw'=>?_⟩) hHeld ?_
 ·obtain⟨q0,q1,q2⟩:=hw';go_simp
 simp only[Act.put,List.getElem_toArray,List.getElem_cons_succ,List.getElem_cons_zero,List.setIfInBounds_toArray,List.set_cons_zero,List.set_cons_succ];refine wpAnyH_ready (rs:=[7]) (by kernel_rfl) (by simp) (AllReadyH.cons rfl (fun K hK=>?_) AllReadyH.nil);rw[if_pos (by kernel_rfl)]
 go_simp
 obtain⟨W3,hW3⟩:∃ W3,W3=(W2.alloc (Obj.cells #[Value.int IntKind.i64 0,Value.int IntKind.i64 0,Value.int IntKind.i64 0] 127)).drew:=⟨_,rfl⟩
 have g1:W3.heap[W.heap.size]? = some (.cells #[.int .i64 rel,.slice (some ⟨b,off,none⟩) n cap] 41 (0,0)):=by
  rw[hW3];exact (heap_alloc_old _ _ (lt_of_block e1)).trans e1
 have g2:W3.heap[W.heap.size+1]? = some (.cells #[.int .i64 0,.int .i64 0,.int .i64 0] 127 (0,0)):=by
  rw[hW3];exact (heap_alloc_old _ _ (lt_of_block e2)).trans e2
 have g3:W3.heap[W.heap.size+2]? = some (.cells #[.int .i64 0,.int .i64 0,.int .i64 0] 127 (0,0)):=by
  rw[hW3,← hsz];exact heap_alloc_new _ _
 have hB3:Below W.heap.size W W3:=by rw[hW3];exact (hB.alloc (by omega) _).trans ⟨rfl,rfl,rfl,Nat.le_refl _,fun _ _=>rfl⟩
 have hsz3:W3.heap.size=W.heap.size+3:=by rw[hW3];simp[hsz]
 have K3:W3.cell? ⟨W.heap.size,0,none⟩=some (.int .i64 rel)∧W3.cell? ⟨W.heap.size,1,none⟩=some (.slice (some ⟨b,off,none⟩) n cap)∧W3.cell? ⟨b,off,none⟩=some (.int .i64 a):=by
  refine⟨?_,?_,(old _ hB3).1⟩ <;> simp[World.cell?,g1]
 rw[← hW3];clear hW3 e1 e2 hHeld K0;refine hK.out _ _ K3 (fun _=>?_);clear hK K;refine wpAnyH_ready (rs:=[8]) (by kernel_rfl) (by simp) (AllReadyH.cons rfl (fun K hK=>?_) AllReadyH.nil);rw[if_pos (by kernel_rfl)]
 have fz:∀ j,W3.frozen? ⟨W.heap.size+2,j,none⟩=false:=fun j=>by simp[World.frozen?,g3]
 have f0:=fz 0;have f1:=fz 1;have f2:=fz 2
 have z0:W3.cell? ⟨W.heap.size+2,0,none⟩=some (.int .i64 0):=by simp[World.cell?,g3]
 have z1:W3.cell? ⟨W.heap.size+2,1,none⟩=some (.int .i64 0):=by simp[World.cell?,g3]
 have z2:W3.cell? ⟨W.heap.size+2,2,none⟩=some (.int .i64 0):=by simp[World.cell?,g3]
 go_wp2_with fail
 obtain⟨W4,hW4⟩:∃ W4,W4=(((W3.setCell { block:=W.heap.size+2,off:=0 } (Value.int IntKind.i64 rel)).setCell { block:=W.heap.size+2,off:=1 } (Value.int IntKind.i64 a)).setCell { block:=W.heap.size+2,off:=2 } (Value.int IntKind.i64 0)):=⟨_,rfl⟩
 have k3:W4.heap[W.heap.size+2]? = some (.cells #[.int .i64 rel,.int .i64 a,.int .i64 0] 127 (0,0)):=by
  rw[hW4,QQ _ (QQ _ (QQ _ g3))];rfl
 have kb:∀ j,j≠W.heap.size+2→W4.heap[j]? = W3.heap[j]?:=fun j hj=>by
  rw[hW4,Below.heap_setCell _ _ _ _ hj,Below.heap_setCell _ _ _ _ hj,Below.heap_setCell _ _ _ _ hj]
 have hB4:Below W.heap.size W W4:=hB3.trans ⟨by rw[hW4];rfl,by rw[hW4];rfl,by rw[hW4];rfl,by rw[hW4,Xw,Xw,Xw];exact Nat.le_refl _,fun j hj=>kb j (by omega)⟩;rw[← hW4];clear hW4;have k1:=(kb (W.heap.size) (by omega)).trans g1;have k2:=(kb (W.heap.size+1) (by omega)).trans g2;clear kb g1 g2 g3 fz f0 f1 f2 z0 z1 z2 K3
 have K4:W4.cell? ⟨W.heap.size,0,none⟩=some (.int .i64 rel)∧W4.cell? ⟨W.heap.size,1,none⟩=some (.slice (some ⟨b,off,none⟩) n cap)∧W4.cell? ⟨b,off,none⟩=some (.int .i64 a):=by
  refine⟨?_,?_,(old _ hB4).1⟩ <;> simp[World.cell?,k1]
 refine hK.out _ _ K4 (fun _=>?_);clear hK K;refine wpAnyH_done (by kernel_rfl) ?_ _;obtain⟨c0,c1,_⟩:=K4
 have d0:W4.cell? ⟨W.heap.size+2,0,none⟩=some (.int .i64 rel):=by simp[World.cell?,k3]
 have d1:W4.cell? ⟨W.heap.size+2,1,none⟩=some (.int .i64 a):=by simp[World.cell?,k3]
 have d2:W4.cell? ⟨W.heap.size+2,2,none⟩=some (.int .i64 0):=by simp[World.cell?,k3]
 have b0:W4.cell? ⟨W.heap.size+1,0,none⟩=some (.int .i64 0):=by simp[World.cell?,k2]
 have b1:W4.cell? ⟨W.heap.size+1,1,none⟩=some (.int .i64 0):=by simp[World.cell?,k2]
 have b2:W4.cell? ⟨W.heap.size+1,2,none⟩=some (.int .i64 0):=by simp[World.cell?,k2]
 have f2:W4.frozen? ⟨W.heap.size+2,2,none⟩=false:=by simp[World.frozen?,k3]
 have y0:W4.frozen? ⟨W.heap.size+1,0,none⟩=false:=by simp[World.frozen?,k2]
 have y1:W4.frozen? ⟨W.heap.size+1,1,none⟩=false:=by simp[World.frozen?,k2]
 have y2:W4.frozen? ⟨W.heap.size+1,2,none⟩=false:=by simp[World.frozen?,k2]
 have n1:=(old _ hB4).2
 have hres:∀ (tm:Array Value) (w9:World) (x:Int),tm[2]?.getD undef=.pointer (some ⟨W.heap.size+1,0,none⟩)→w9.heap[W.heap.size+1]? = some (.cells #[.int .i64 rel,.int .i64 a,.int .i64 x] 127 (0,0))→(results Try.f81 tm).run Try.prog w9=.ok (.agg #[.int .i64 rel,.int .i64 a,.int .i64 x]) w9:=by
  intro tm w9 x htm h9
  have hr:Try.f81.results=#[.cell 2 127]:=by kernel_rfl
  have e0:w9.cell? ⟨W.heap.size+1,0,none⟩=some (.int .i64 rel):=by simp[World.cell?,h9]
  have e1:w9.cell? ⟨W.heap.size+1,1,none⟩=some (.int .i64 a):=by simp[World.cell?,h9]
  have e2:w9.cell? ⟨W.heap.size+1,2,none⟩=some (.int .i64 x):=by simp[World.cell?,h9]
  simp[results,hr,htm]
  go_simp
 by_cases hc:1<n
 ·have n1:=n1 hc
  go_wp2
  refine bodyPost_ret (hres _ _ c (by rfl) ?_) rfl ⟨rfl,?_⟩
  ·rw[QQ _ (QQ _ (QQ _ ((Qj (by omega)).trans k2)))];rfl
  ·refine hB4.trans ⟨rfl,rfl,rfl,by simp only[Xw];exact Nat.le_refl _,fun j hj=>?_⟩;rw[Qj (by omega),Qj (by omega),Qj (by omega),Qj (by omega)]
 ·have n1:=h2 hc;subst n1
  go_wp2
  refine bodyPost_ret (hres _ _ 0 (by rfl) ?_) rfl ⟨rfl,?_⟩
  ·rw[QQ _ (QQ _ (QQ _ k2))];rfl
  ·refine hB4.trans ⟨rfl,rfl,rfl,by simp only[Xw];exact Nat.le_refl _,fun j hj=>?_⟩;rw[Qj (by omega),Qj (by omega),Qj (by omega)]
end Go.Proofs
namespace Go.AM
open Go.RowKit Go.Proofs
theorem key81 {rel a:Int} {l:List Int} (hl:(a::l).length≤1000000):CallOk Try.prog 81 [.agg [.int .i64 rel,.lst 3 1 none (cL (a::l))]] (.agg [.int .i64 rel,.int .i64 a,.int .i64 (l.headD 0)]):=by
 intro M w vs hG hC hlen hR
 obtain⟨v0,rfl⟩:∃ v0,vs=[v0]:=by
  match vs,hlen with
  | [v0],_=>exact⟨v0,rfl⟩
 have r0:R M (.agg [.int .i64 rel,.lst 3 1 none (cL (a::l))]) v0:=hR 0 _ v0 rfl rfl;obtain⟨us,rfl,hu,hc⟩:=r0.agg_inv
 obtain⟨u0,u1,rfl⟩:∃ u0 u1,us=[u0,u1]:=by
  match us,hu with
  | [u0,u1],_=>exact⟨u0,u1,rfl⟩
 obtain rfl:u0=.int .i64 rel:=(hc 0 _ u0 rfl rfl).int_inv;obtain⟨ad,cap,rfl,hcell⟩:=NL (hc 1 _ u1 rfl rfl);obtain⟨b,off,rfl,hM⟩:=hcell 0 (by simp);have h0:w.cell? ⟨b,off,none⟩=some (.int .i64 a):=JT (hC _ _ _ (by simpa using hM)) rfl
 have h1:1<(a::l).length→w.cell? ⟨b,off+1,none⟩=some (.int .i64 (l.headD 0)):=fun hlt=>by
  obtain⟨b',off',e,hM'⟩:=hcell 1 hlt;cases e;have:=JT (hC _ _ _ hM') rfl
  cases l with
  | nil=>simp at hlt
  | cons c l=>simpa using this
 have h2:¬ 1<(a::l).length→l.headD 0=0:=fun hn=>by
  cases l with
  | nil=>rfl
  | cons c l=>simp at hn
 refine (Go.Proofs.Try.key81 rel a (l.headD 0) b off cap (a::l).length w h0 h1 h2 (by simp) hl).mono ?_
 rintro e w' ⟨rfl,hB⟩
 refine⟨_,M,rfl,hB,Sub.refl M,UD hC hB,fun _ _ _=>rfl,?_,trivial⟩
 refine .agg (vs:=[.int .i64 rel,.int .i64 a,.int .i64 (l.headD 0)]) rfl fun j c v hc hv=>?_
 match j,hc,hv with
 | 0,hc,hv=>cases hc;cases hv;exact .int _ _
 | 1,hc,hv=>cases hc;cases hv;exact .int _ _
 | 2,hc,hv=>cases hc;cases hv;exact .int _ _
end Go.AM
namespace Go.AM
open Go.Proofs
abbrev I6:Int→AV:=AV.int .i64
abbrev W6:Int→Int:=IntKind.wrap .i64
abbrev S1 (n:Nat):AV:=.sb 2000000 5 1 0 n
abbrev O1 (l:List Int):Nat×AV:=(2000000,.obj 1000000005 1 (List.map (AV.int .u8) l))
abbrev M6 (l:List Int):List AV:=List.map (AV.int .i64) l
structure apiFact where
 qb:Int
 qa:(List Int)
def l3 (c:Option Nat) (l:List Int):AV:=.lst 3 1 c (List.map (AV.int .i64) l)
def qF (x:apiFact):AV:=.agg [.int .i64 x.qb,l3 none x.qa]
structure rf2Atom where
 qb:Int
 qa:(List Int)
def l41 (c:Option Nat) (l:List apiFact):AV:=.lst 41 2 c (List.map qF l)
def NN (x:rf2Atom):AV:=.agg [.int .i64 x.qb,l3 none x.qa]
structure rf3Lit where
 qi:Bool
 qc:rf2Atom
def jB (x:rf3Lit):AV:=.agg [.bool x.qi,.int .i64 x.qc.qb,l3 none x.qc.qa]
structure rf3Rule where
 qd:rf2Atom
 qe:(List rf3Lit)
def l96 (c:Option Nat) (l:List rf3Lit):AV:=.lst 96 3 c (List.map jB l)
def qK (x:rf3Rule):AV:=.agg [.int .i64 x.qd.qb,l3 none x.qd.qa,l96 none x.qe]
structure qj where
 qb:Int
 qa:(List Int)
def l94 (c:Option Nat) (l:List rf3Rule):AV:=.lst 94 3 c (List.map qK l)
def Qn (x:qj):AV:=.agg [.int .i64 x.qb,l3 none x.qa]
structure ruLit where
 qi:Bool
 qc:qj
def Jc (x:ruLit):AV:=.agg [.bool x.qi,.int .i64 x.qc.qb,l3 none x.qc.qa]
structure ruRule where
 qd:qj
 qe:(List ruLit)
def l56 (c:Option Nat) (l:List ruLit):AV:=.lst 56 3 c (List.map Jc l)
def jd (x:ruRule):AV:=.agg [.int .i64 x.qd.qb,l3 none x.qd.qa,l56 none x.qe]
structure ql where
 f_0:Int
 f_1:Int
def l54 (c:Option Nat) (l:List ruRule):AV:=.lst 54 3 c (List.map jd l)
def Jd (x:ql):AV:=.agg [.int .i64 x.f_0,.int .i64 x.f_1]
def l112 (c:Option Nat) (l:List ql):AV:=.lst 112 2 c (List.map Jd l)
end Go.AM
