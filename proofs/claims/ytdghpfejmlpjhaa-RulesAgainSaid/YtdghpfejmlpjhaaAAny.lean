/- s -/
import Derived.Test.YtdghpfejmlpjhaaAWq
import Derived.Test.YtdghpfejmlpjhaaAArr
set_option linter.unusedVariables false
set_option linter.unusedSimpArgs false
namespace Go.AM
variable {P:Program} {n:Nat} {K V:Type} {F:K→AV} {G:V→AV} {eq:K→K→Bool}
def mpE (F:K→AV) (G:V→AV) (l:List (K×V)):AV:=.mpv (l.map fun p=>F p.1) (l.map fun p=>G p.2)
def hobE (F:K→AV) (G:V→AV) (l:List (K×V)):AV:=.hob 0 (l.map fun p=>F p.1) (l.map fun p=>G p.2)
def mget (eq:K→K→Bool) (z:V) (k:K):List (K×V)→V
 | []=>z
 | p::r=>bif eq p.1 k then p.2 else mget eq z k r
def mset (eq:K→K→Bool) (k:K) (v:V):List (K×V)→List (K×V)
 | []=>[(k,v)]
 | p::r=>bif eq p.1 k then (p.1,v)::r else p::mset eq k v r
def keq1 (x a:Int):Bool:=x == a
theorem findA_get (he:∀ x y,akeq (F x) (F y)=eq x y) (z:V) (k:K):∀ l:List (K×V),
  (∃ j,findA (F k) (l.map fun p=>F p.1)=some j∧(l.map fun p=>G p.2)[j]? = some (G (mget eq z k l)))∨(findA (F k) (l.map fun p=>F p.1)=none∧mget eq z k l=z)
 | []=>.inr ⟨rfl,rfl⟩
 | p::r=>by
  have ih:=findA_get he z k r;simp only[List.map_cons,findA,mget,he]
  cases hq:eq p.1 k with
  | true=>exact .inl ⟨0,rfl,rfl⟩
  | false =>
   simp only[cond_false]
   rcases ih with ⟨j,h1,h2⟩ | ⟨h1,h2⟩
   ·rw[h1];exact .inl ⟨j+1,rfl,h2⟩
   ·rw[h1];exact .inr ⟨rfl,h2⟩
theorem findA_set (he:∀ x y,akeq (F x) (F y)=eq x y) (k:K) (v:V):∀ l:List (K×V),
  (∃ j,findA (F k) (l.map fun p=>F p.1)=some j∧(mset eq k v l).map (fun p=>F p.1)=l.map (fun p=>F p.1)∧(mset eq k v l).map (fun p=>G p.2)=(l.map fun p=>G p.2).set j (G v)) ∨
  (findA (F k) (l.map fun p=>F p.1)=none∧(mset eq k v l).map (fun p=>F p.1)=l.map (fun p=>F p.1)++[F k]∧(mset eq k v l).map (fun p=>G p.2)=(l.map fun p=>G p.2)++[G v])
 | []=>.inr ⟨rfl,rfl,rfl⟩
 | p::r=>by
  have ih:=findA_set he k v r;simp only[List.map_cons,findA,mset,he]
  cases hq:eq p.1 k with
  | true=>exact .inl ⟨0,rfl,rfl,rfl⟩
  | false =>
   simp only[cond_false,List.map_cons]
   rcases ih with ⟨j,h1,h2,h3⟩ | ⟨h1,h2,h3⟩
   ·rw[h1,h2,h3];exact .inl ⟨j+1,rfl,rfl,rfl⟩
   ·rw[h1,h2,h3];exact .inr ⟨rfl,rfl,rfl⟩
theorem fits_all {kt:TypeId} (hf:∀ x,keyFits P kt (F x)=true) (l:List (K×V)):(l.map fun p=>F p.1).all (keyFits P kt)=true:=by
 rw[List.all_map,List.all_eq_true]
 exact fun p _=>hf p.1
theorem alookup_mp {t kt e:TypeId} {l:List (K×V)} {k:K} {z:V} (hk:(F k).keyV.isSome=true) (ht:Ql P t=some (kt,e)) (hf:∀ x,keyFits P kt (F x)=true) (he:∀ x y,akeq (F x) (F y)=eq x y) (hz:zeroA1 P e=some (G z)):alookup P t [] (mpE F G l) (F k)=some (G (mget eq z k l)):=by
 unfold alookup mpE;rw[ht];simp only[XF];rw[hf,hk,fits_all hf];simp only[Bool.and_self]
 rcases findA_get (G:=G) he z k l with ⟨j,h1,h2⟩ | ⟨h1,h2⟩
 ·rw[h1];exact h2
 ·rw[h1,h2];exact hz
theorem keyS_int {k:IntKind} {i:Int} (h:wfI k i=true):(AV.int k i).keyV.isSome=true:=by
 simp only[AV.keyV,h];rfl
theorem keyS_three {k:IntKind} {i j l:Int} (h:(wfI k i && wfI k j && wfI k l)=true):(AV.agg [.int k i,.int k j,.int k l]).keyV.isSome=true:=by
 rw[Bool.and_eq_true,Bool.and_eq_true]at h;simp only[AV.keyV,keyVs,h.1.1,h.1.2,h.2];rfl
def mupPre (P:Program) (all:List Oper) (o:Oper) (env:Env):Option (Nat×TypeId×AV×AV×List AV×List AV) :=
 match awanted all o env with
 | some true=>match o.op with
  | .mapUpdate t m k v=>match o.dst,aop env m,aop env k,aop env v,Ql P t with
   | none,some (.mb 0 id),some k,some v,some (kt,e)=>match v.mapElem,look env id with
    | true,some (.hob 0 ks vs)=>some (id,kt,k,v.strip,ks,vs)
    | _,_=>none
   | _,_,_,_,_=>none
  | _=>none
 | _=>none
theorem WO.mapK {draw:Bool} {all ops:List Oper} {Q:Env→Prop} {env e1:Env} {id kt:Nat} {l:List (K×V)} {a:K} {b:V} (k:Nat) (hk:(F a).keyV.isSome=true) (hn:Nat.blt l.length 1000000000=true) (h:WO P n draw all (ops.drop (k+1)) Q e1)
  (hf:∀ x,keyFits P kt (F x)=true) (he:∀ x y,akeq (F x) (F y)=eq x y)
  (hp:stepsE P n draw all k ops env (fun os e=>match os with | o::_=>mupPre P all o e | []=>none)=some (id,kt,F a,G b,l.map (fun p=>F p.1),l.map (fun p=>G p.2)):=by kernel_rfl)
  (hs:stepsE P n draw all k ops env (fun os en=>some (ins id (hobE F G (mset eq a b l)) en))=some e1:=by kernel_rfl):WO P n draw all ops Q env:=by
 obtain⟨en,h1,h2⟩:=qK hp;obtain⟨en',h3,h4⟩:=qK hs;rw[h1]at h3;cases h3;cases h4;refine WO.steps k h1 ?_
 cases hos:ops.drop k with
 | nil=>rw[hos]at h2;cases h2
 | cons o rest =>
  rw[hos]at h2;rw[QO hos]at h;simp only[mupPre]at h2
  split at h2 <;> try cases h2
  rename_i hw
  split at h2 <;> try cases h2
  rename_i t m k0 v0 ho
  split at h2 <;> try cases h2
  rename_i id' k' v' kt' e' hd hm hk' hv ht
  split at h2 <;> try cases h2
  rename_i ks vs hel hl;simp only[Option.some.injEq,Prod.mk.injEq]at h2;obtain⟨rfl,rfl,rfl,hb,rfl,rfl⟩:=h2
  have hst:astep P n o en=some (ins id' (hobE F G (mset eq a b l)) en):=by
   unfold astep;rw[ho];simp only[hd,hm,hk',hv,ht,hl];rw[hf,hk,fits_all hf,hel,List.length_map,hn];simp only[Bool.and_self];unfold hobE
   rcases findA_set (G:=G) he a b l with ⟨j,g1,g2,g3⟩ | ⟨g1,g2,g3⟩
   ·rw[g1,g2,g3,hb]
   ·rw[g1,g2,g3,hb]
  refine WO.step (e1:=ins id' (hobE F G (mset eq a b l)) en) ?_ h;unfold step1;rw[hw]
  cases draw with
  | true =>
   have:isEff o.op=true:=by rw[ho];rfl
   refine Xm (Yz (by rw[ho];rfl)) ?_;unfold astepD;simp only[this,hst]
  | false=>exact hst
end Go.AM
namespace Go.AM
open Go.RowKit
variable {P:Program} {n:Nat} {K V:Type} {F:K→AV} {G:V→AV} {eq:K→K→Bool}
inductive AllP {α:Type} (q:α→Prop):List α→Prop where
 | nil:AllP q []
 | cons {a l}:q a→AllP q l→AllP q (a::l)
theorem AllP.mem {α:Type} {q:α→Prop}:∀ {l:List α},AllP q l→∀ x,x∈l→q x
 | _,.nil,x,h=>by cases h
 | _,.cons h t,x,hx=>by
  rcases List.mem_cons.1 hx with rfl | hx
  ·exact h
  ·exact t.mem x hx
def stepA (P:Program) (n:Nat) (all:List Oper) (env:Env) (k:Nat):Option Env :=
 match all[k]? with
 | some o=>match awanted all o env with
  | some true=>astep P n o env
  | _=>none
 | none=>none
def lkE:List (Nat×Env)→Nat→Env
 | [],_=>[]
 | p::r,k=>match Nat.beq p.1 k with
  | true=>p.2
  | false=>lkE r k
theorem lkE_mem:∀ {l:List (Nat×Env)} {k:Nat},k∈l.map (·.1)→∃ p,p∈l∧p.1=k∧lkE l k=p.2
 | [],k,h=>by cases h
 | p::r,k,h=>by
  unfold lkE
  cases hb:Nat.beq p.1 k with
  | true=>exact⟨p,List.mem_cons_self ..,Nat.eq_of_beq_eq_true hb,rfl⟩
  | false =>
   rw[List.map_cons,List.mem_cons]at h
   rcases h with rfl | h
   ·rw[Nat.beq_refl]at hb;cases hb
   ·obtain⟨q,h1,h2,h3⟩:=lkE_mem h;exact⟨q,List.mem_cons_of_mem _ h1,h2,h3⟩
theorem Run.anyL {all:List Oper} {R:List Nat} {env e1:Env} (l:List (Nat×Env)) (hne:R.isEmpty=false) (h0:R.filter (readyR all R)=l.map (·.1)) (hs:AllP (fun p=>stepA P n all env p.1=some p.2) l) (hr:AllP (fun p=>Run P (.any n all (R.erase p.1) p.2 e1)) l):Run P (.any n all R env e1):=by
 have key:∀ k,k∈R→readyR all R k=true→∃ p,p∈l∧p.1=k∧lkE l k=p.2:=fun k hk hd=>lkE_mem (by rw[← h0];exact List.mem_filter.2 ⟨hk,hd⟩)
 refine .anyStep (lkE l) (fun e=>by rw[e]at hne;cases hne) (fun k o hk ho hd=>?_) (fun k hk hd=>?_)
 ·obtain⟨p,h1,rfl,h3⟩:=key k hk hd;have:=hs.mem p h1;unfold stepA at this;rw[ho]at this;simp only at this
  split at this
  ·rename_i hw;exact⟨hw,by rw[h3];exact this⟩
  ·cases this
 ·obtain⟨p,h1,rfl,h3⟩:=key k hk hd;rw[h3];exact hr.mem p h1
theorem W.regionA {id:Nat} {ops:Array Oper} {Q:Ex→Env→Prop} {env e1:Env} (hb:jl ops=true) (h:Run P (.any n ops.toList (List.range ops.size) env e1)) (hq:WO P n false ops.toList [] (Q .normal) e1):W P n (.region id ops true) Q env:=by
 obtain⟨e2,h1,h2⟩:=hq;exact⟨_,e2,.regionA hb h h1,h2⟩
theorem JR {all:List Oper} {env e1:Env} {k:Nat} {v:AV} (X:Option AV)
  (hp:(match all[k]? with
   | some o=>match awanted all o env with
    | some true=>match plainOp o.op && notBox v with
     | true=>some (apure P o env)
     | false=>none
    | _=>none
   | none=>none)=some X) (hX:X=some v) (he:(match all[k]? with | some o=>eput n o.dst v env | none=>none)=some e1):stepA P n all env k=some e1:=by
 unfold stepA
 cases hk:all[k]? with
 | none=>rw[hk]at hp;cases hp
 | some o =>
  rw[hk]at hp he;simp only at hp he ⊢
  split at hp <;> try cases hp
  rename_i hw
  split at hp <;> try cases hp
  rename_i hb;simp only[Bool.and_eq_true]at hb;show astep P n o env=some e1;rw[astep_plain hb.1,hX];exact he
theorem Jv {α:Type} {enc:α→AV} {all:List Oper} {env:Env} {s sz k:Nat} {l l':List α} (hF:Flat enc) (hl:decide (l.length=sz∧l'.length=sz)=true)
  (hp:(match all[k]? with | some o=>setPre P all o env | none=>none)=some (s,0,.agg (l.map enc),l'.map enc,sz)):stepA P n all env k=some (ins s (.hob 3 [] (l.map enc)) env):=by
 obtain⟨hl1,hl2⟩:=of_decide_eq_true hl;unfold stepA
 cases hk:all[k]? with
 | none=>rw[hk]at hp;cases hp
 | some o =>
  rw[hk]at hp;obtain⟨a1,a2,a3,a4,_,a5⟩:=setPre_spec (n:=n) hp;simp only[a1];rw[a5 _ rfl (by rw[List.length_map];exact hl1)];unfold putRow;have:Nat.ble (0+(l.map enc).length) (l'.map enc).length=true:=Nat.ble_eq_true_of_le (by rw[List.length_map,List.length_map];omega);simp only[hF.all,a4,this];rw[hF.strips,List.take_zero,List.drop_eq_nil_of_le (by rw[List.length_map,List.length_map];omega),List.nil_append,List.append_nil]
end Go.AM
