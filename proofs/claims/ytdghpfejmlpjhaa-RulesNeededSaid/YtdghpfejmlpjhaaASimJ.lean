/- s -/
import Derived.Test.YtdghpfejmlpjhaaAWq
import Derived.Test.YtdghpfejmlpjhaaASimI
set_option linter.unusedVariables false
set_option linter.unusedSimpArgs false
namespace Go.AM
variable {P:Program} {n:Nat} {α:Type} {enc:α→AV}
def Flat (enc:α→AV):Prop:=∀ x,(enc x).one=true∧(enc x).strip=enc x∧(enc x).cells=[enc x]
theorem qC (k:IntKind):Flat (AV.int k):=fun _=>⟨rfl,rfl,rfl⟩
theorem Flat.all (h:Flat enc) (l:List α):(l.map enc).all AV.one=true:=by
 rw[List.all_map,List.all_eq_true]
 exact fun x _=>(h x).1
theorem Flat.strips (h:Flat enc) (l:List α):(l.map enc).map AV.strip=l.map enc:=by
 rw[List.map_map]
 exact List.map_congr_left fun x _=>(h x).2.1
def cutS (P:Program) (t:TypeId):Bool:=match tSize P t with
 | some sz=>Nat.beq sz 1 && !tAgg P t && (P.underlying t).isSome
 | none=>false
def cutW (P:Program) (t:TypeId) (sz:Nat):Bool:=match tSize P t with
 | some s=>Nat.beq s sz && tAgg P t && (P.underlying t).isSome
 | none=>false
theorem YX {t:TypeId} {l:List α} {off:Nat} {e:α} (hF:Flat enc) (hc:cutS P t=true) (h:l[off]? = some e):cut P t (l.map enc) off=some (enc e):=by
 unfold cutS at hc
 split at hc
 ·rename_i sz hs;simp only[Bool.and_eq_true,Bool.not_eq_true']at hc;obtain⟨⟨h1,h2⟩,h3⟩:=hc;obtain rfl:=Nat.eq_of_beq_eq_true h1;have hlt:=(List.getElem?_eq_some_iff.1 h).1;unfold cut;rw[hs];have e1:Nat.ble (off+1) (l.map enc).length=true:=Nat.ble_eq_true_of_le (by rw[List.length_map];exact hlt)
  have e2:(l.map enc)[off]? = some (enc e):=by rw[List.getElem?_map,h];rfl
  simp only[e1,h3,h2,e2,(hF e).1,Bool.and_self]
 ·cases hc
theorem qgh {t sz:Nat} {l:List α} {off:Nat} (hF:Flat enc) (hc:cutW P t sz=true) (h:off+sz≤l.length):cut P t (l.map enc) off=some (.agg (((l.drop off).take sz).map enc)):=by
 unfold cutW at hc
 split at hc
 ·rename_i s hs;simp only[Bool.and_eq_true]at hc;obtain⟨⟨h1,h2⟩,h3⟩:=hc;obtain rfl:=Nat.eq_of_beq_eq_true h1;unfold cut;rw[hs];have e1:Nat.ble (off+s) (l.map enc).length=true:=Nat.ble_eq_true_of_le (by rw[List.length_map];exact h);simp only[e1,h3,h2,Bool.and_self];rw[← List.map_drop,← List.map_take,hF.strips]
 ·cases hc
theorem JO {t sz:Nat} {l:List α} (hF:Flat enc) (hc:cutW P t sz=true) (h:l.length=sz):cut P t (l.map enc) 0=some (.agg (l.map enc)):=by
 rw[qgh hF hc (by omega),List.drop_zero,List.take_of_length_le (by omega)]
def setPre (P:Program) (all:List Oper) (o:Oper) (env:Env):Option (Nat×Nat×AV×List AV×Nat) :=
 match awanted all o env with
 | some true=>match o.op with
  | .store t p x=>match o.dst,aop env p,aop env x,tSize P t with
   | none,some (.pb s off),some v,some sz=>match look env s with
    | some (.hob 3 [] cs)=>some (s,off,v,cs,sz)
    | _=>none
   | _,_,_,_=>none
  | _=>none
 | _=>none
theorem ZS {all:List Oper} {o:Oper} {env:Env} {s off:Nat} {v:AV} {cs:List AV} {sz:Nat} (h:setPre P all o env=some (s,off,v,cs,sz)):awanted all o env=some true∧isEff o.op=true∧isApp o.op=false∧look env s=some (.hob 3 [] cs) ∧
  (v.one=true→v.cells.length=sz→astep P n o env=putCell s env off v)∧(∀ c2,v=.agg c2→c2.length=sz→astep P n o env=putRow s env off c2):=by
 unfold setPre at h
 split at h <;> try cases h
 rename_i hw
 split at h <;> try cases h
 rename_i t p x ho
 split at h <;> try cases h
 rename_i hd hp hx hs
 split at h <;> try cases h
 rename_i hl;refine⟨hw,by rw[ho];rfl,by rw[ho];rfl,hl,fun h1 hc=>?_,fun c2 hv hc=>?_⟩
 ·unfold astep;rw[ho];simp only[hd,hp,hx,hs]
  have:Nat.beq v.cells.length sz=true:=by rw[hc];exact Nat.beq_refl _
  simp only[this]
  cases v <;> first | (simp only[hl];done) | cases h1
 ·subst hv;unfold astep;rw[ho];simp only[hd,hp,hx,hs]
  have:Nat.beq (AV.agg c2).cells.length sz=true:=by show Nat.beq c2.length sz=true;rw[hc];exact Nat.beq_refl _
  simp only[this]
theorem WO.eff {draw:Bool} {all ops:List Oper} {Q:Env→Prop} {en e1:Env} {o:Oper} (hw:awanted all o en=some true) (hei:isEff o.op=true) (hap:isApp o.op=false) (hst:astep P n o en=some e1) (h:WO P n draw all ops Q e1):WO P n draw all (o::ops) Q en:=by
 refine WO.step (e1:=e1) ?_ h;unfold step1;rw[hw]
 cases draw with
 | true =>
  refine Xp (Yz hap) ?_;unfold astepD;simp only[hei,hst]
 | false=>exact hst
theorem WO.setA {draw:Bool} {all ops:List Oper} {Q:Env→Prop} {env e1:Env} {s off:Nat} {l:List α} {x:α} (k:Nat) (hF:Flat enc) (hlt:decide (off<l.length)=true) (h:WO P n draw all (ops.drop (k+1)) Q e1)
  (hp:stepsE P n draw all k ops env (fun os e=>match os with | o::_=>setPre P all o e | []=>none)=some (s,off,enc x,l.map enc,1):=by kernel_rfl)
  (hs:stepsE P n draw all k ops env (fun os en=>some (ins s (.hob 3 [] ((l.set off x).map enc)) en))=some e1:=by kernel_rfl):WO P n draw all ops Q env:=by
 obtain⟨en,h1,h2⟩:=qM hp;obtain⟨en',h3,h4⟩:=qM hs;rw[h1]at h3;cases h3;cases h4;refine WO.steps k h1 ?_
 cases hos:ops.drop k with
 | nil=>rw[hos]at h2;cases h2
 | cons o rest =>
  rw[hos]at h2;rw[QS hos]at h;obtain⟨a1,a2,a3,a4,a5,_⟩:=ZS (n:=n) h2;refine WO.eff a1 a2 a3 ?_ h;have hone:=(hF x).1;rw[a5 hone (by rw[(hF x).2.2];rfl)];unfold putCell;have:Nat.blt off (l.map enc).length=true:=Nat.ble_eq_true_of_le (by rw[List.length_map];exact of_decide_eq_true hlt);simp only[hone,a4,this];rw[List.map_set,(hF x).2.1]
theorem WO.storeA {draw:Bool} {all ops:List Oper} {Q:Env→Prop} {env e1:Env} {s sz:Nat} {l l':List α} (k:Nat) (hF:Flat enc) (hl:decide (l.length=sz∧l'.length=sz)=true) (h:WO P n draw all (ops.drop (k+1)) Q e1)
  (hp:stepsE P n draw all k ops env (fun os e=>match os with | o::_=>setPre P all o e | []=>none)=some (s,0,.agg (l.map enc),l'.map enc,sz):=by kernel_rfl)
  (hs:stepsE P n draw all k ops env (fun os en=>some (ins s (.hob 3 [] (l.map enc)) en))=some e1:=by kernel_rfl):WO P n draw all ops Q env:=by
 obtain⟨en,h1,h2⟩:=qM hp;obtain⟨en',h3,h4⟩:=qM hs;rw[h1]at h3;cases h3;cases h4;obtain⟨hl1,hl2⟩:=of_decide_eq_true hl;refine WO.steps k h1 ?_
 cases hos:ops.drop k with
 | nil=>rw[hos]at h2;cases h2
 | cons o rest =>
  rw[hos]at h2;rw[QS hos]at h;obtain⟨a1,a2,a3,a4,_,a5⟩:=ZS (n:=n) h2;refine WO.eff a1 a2 a3 ?_ h;rw[a5 _ rfl (by rw[List.length_map];exact hl1)];unfold putRow;have:Nat.ble (0+(l.map enc).length) (l'.map enc).length=true:=Nat.ble_eq_true_of_le (by rw[List.length_map,List.length_map];omega);simp only[hF.all,a4,this];rw[hF.strips,List.take_zero,List.drop_eq_nil_of_le (by rw[List.length_map,List.length_map];omega),List.nil_append,List.append_nil]
def boxPre (all:List Oper) (o:Oper) (env:Env):Option (Nat×AV) :=
 match awanted all o env with
 | some true=>match o.op with
  | .box t x=>match o.dst,aop env x with
   | some d,some v=>match clearOf d env with
    | true=>some (d,v)
    | false=>none
   | _,_=>none
  | _=>none
 | _=>none
theorem qam {d:Nat}:∀ {en:Env},clearOf d en=true→forget d en=en
 | [],_=>rfl
 | (t,y)::r,h=>by
  simp only[clearOf,List.all_cons,Bool.and_eq_true,Bool.not_eq_true']at h;have ih:=qam (en:=r) (d:=d) (by simpa[clearOf] using h.2);unfold forget at ih ⊢
  have hk:killRef d y=y:=by unfold killRef;rw[h.1.2]
  rw[List.filter_cons_of_pos (by simp[h.1.1]),List.map_cons,ih,hk]
theorem HV {d:Nat} {x:AV}:∀ {en:Env},clearOf d en=true→forget d (ins d x en)=en
 | [],_=>by simp[forget,ins]
 | (t,y)::r,h=>by
  have h0:=h;simp only[clearOf,List.all_cons,Bool.and_eq_true,Bool.not_eq_true']at h;have ih:=HV (x:=x) (en:=r) (d:=d) (by simpa[clearOf] using h.2)
  have hk:killRef d y=y:=by unfold killRef;rw[h.1.2]
  simp only[ins]
  split
  ·unfold forget at ih ⊢;rw[List.filter_cons_of_pos (by simp[h.1.1]),List.map_cons,ih,hk]
  ·simp only[h.1.1];have:=qam h0;unfold forget at this ⊢;rw[List.filter_cons_of_neg (by simp)];exact this
theorem qeg {d:Nat} {x:AV} {p:Nat×AV}:∀ {en:Env},p∈ins d x en→p=(d,x)∨p∈en
 | [],h=>by simpa[ins] using h
 | (t,y)::r,h=>by
  simp only[ins]at h
  split at h
  ·rcases List.mem_cons.1 h with h | h
   ·exact .inr (by rw[h];exact List.mem_cons_self ..)
   ·exact (qeg h).imp id (List.mem_cons_of_mem _)
  ·split at h
   ·rcases List.mem_cons.1 h with h | h
    ·exact .inl h
    ·exact .inr (List.mem_cons_of_mem _ h)
   ·rcases List.mem_cons.1 h with h | h
    ·exact .inl h
    ·exact .inr h
theorem VW {d:Nat} {x:AV}:∀ {en:Env},look (ins d x en) d=some x
 | []=>by simp[ins,look]
 | (t,y)::r=>by
  have ih:=VW (x:=x) (en:=r) (d:=d);simp only[ins]
  split
  ·rename_i hb;have:t<d:=Nat.le_of_ble_eq_true hb
   have h2:Nat.beq t d=false:=by rw[Bool.eq_false_iff];intro hh;have:=Nat.eq_of_beq_eq_true hh;omega
   simp only[look,h2];exact ih
  ·split <;> simp[look]
theorem qgc {d:Nat} {x y:AV} {en:Env} (h:(eput n (some d) x en).isSome=true):eput n (some d) y en=some (ins d y en):=by
 unfold eput at h ⊢;simp only at h ⊢
 split at h
 ·rfl
 ·cases h
theorem WO.boxA {all ops:List Oper} {Q:Env→Prop} {env e1:Env} {d:Nat} {l:List α} (k:Nat) (hF:Flat enc) (hl:(!l.isEmpty)=true) (h:WO P n false all (ops.drop (k+1)) Q e1)
  (hp:stepsE P n false all k ops env (fun os e=>match os with | o::_=>boxPre all o e | []=>none)=some (d,.agg (l.map enc)):=by kernel_rfl)
  (hs:stepsE P n false all k ops env (fun os en=>match (eput n (some d) .und en).isSome,clearOf (1000000+d) en && Nat.blt d 1000000 with
   | true,true=>some (ins d (.pb (1000000+d) 0) (ins (1000000+d) (.hob 3 [] (l.map enc)) en))
   | _,_=>none)=some e1:=by kernel_rfl):WO P n false all ops Q env:=by
 obtain⟨en,h1,h2⟩:=qM hp;obtain⟨en',h3,h4⟩:=qM hs;rw[h1]at h3;cases h3;refine WO.steps k h1 ?_
 cases hos:ops.drop k with
 | nil=>rw[hos]at h2;cases h2
 | cons o rest =>
  rw[hos]at h2;rw[QS hos]at h;simp only[boxPre]at h2
  split at h2 <;> try cases h2
  rename_i hw
  split at h2 <;> try cases h2
  rename_i t x ho
  split at h2 <;> try cases h2
  rename_i hd hx
  split at h2 <;> try cases h2
  rename_i hcl
  split at h4 <;> try cases h4
  rename_i hb hc;refine WO.eff (e1:=ins d (.box (l.map enc)) en) hw (by rw[ho];rfl) (by rw[ho];rfl) ?_ (WO.mv [.arr d] ?_ h)
  ·unfold astep;rw[ho];simp only[hd,hx]
   have hne:(l.map enc).isEmpty=false:=by
    cases l with
    | nil=>cases hl
    | cons=>rfl
   have e1':(AV.agg (l.map enc)).cells=l.map enc:=rfl;rw[e1',hcl,hF.all,hne,hF.strips];show eput n (some d) _ en=_;exact qgc hb
  ·show arrBox (ins d (.box (l.map enc)) en) d=_;unfold arrBox
   have hc2:(clearOf (1000000+d) (ins d (.box (l.map enc)) en) && Nat.blt d 1000000)=true:=by
    simp only[Bool.and_eq_true]at hc ⊢;refine⟨?_,hc.2⟩;unfold clearOf;rw[List.all_eq_true];intro p hp
    rcases qeg hp with rfl | hp
    ·have:Nat.beq d (1000000+d)=false:=by rw[Bool.eq_false_iff];intro hh;have:=Nat.eq_of_beq_eq_true hh;omega
     simp[this,AV.refs]
    ·have:=hc.1;unfold clearOf at this;exact List.all_eq_true.1 this p hp
   rw[VW,hc2]
   simp only
   rw[HV hcl,hF.strips]
theorem WO.one {all ops:List Oper} {Q:Env→Prop} {en e1:Env} {o:Oper} (hw:awanted all o en=some true) (hst:astep P n o en=some e1) (h:WO P n false all ops Q e1):WO P n false all (o::ops) Q en:=by
 refine WO.step (e1:=e1) ?_ h;unfold step1;rw[hw];exact hst
theorem qeQ {t:TypeId} {l:List α} {i:Int} {m:Nat} {e:α} (hF:Flat enc) (hc:cutS P t=true) (hi:(0:Int)≤i∧i<((m:Nat):Int)) (h:l[Int.toNat i * 1]? = some e):(if (0:Int)≤i∧i<((m:Nat):Int) then cut P t (List.map AV.strip (List.map enc l)) (Int.toNat i * 1) else none)=some (enc e):=by
 have hs:List.map AV.strip (List.map enc l)=List.map enc l:=by
  rw[List.map_map]
  exact List.map_congr_left fun x _=>(hF x).2.1
 rw[if_pos hi,hs];exact YX hF hc h
end Go.AM
namespace Go.AM
variable {P:Program} {n:Nat} {K V:Type} {F:K→AV} {G:V→AV} {eq:K→K→Bool}
def mpE (F:K→AV) (G:V→AV) (l:List (K×V)):AV:=.mpv (l.map fun p=>F p.1) (l.map fun p=>G p.2)
def hobE (F:K→AV) (G:V→AV) (l:List (K×V)):AV:=.hob 0 (l.map fun p=>F p.1) (l.map fun p=>G p.2)
def mget (eq:K→K→Bool) (z:V) (k:K):List (K×V)→V
 | []=>z
 | p::r=>bif eq p.1 k then p.2 else mget eq z k r
def mset (eq:K→K→Bool) (k:K) (v:V):List (K×V)→List (K×V)
 | []=>[(k,v)]
 | p::r=>bif eq p.1 k then (p.1,v)::r else p::mset eq k v r
def keq1 (x a:Int):Bool:=x == a
theorem Ny (he:∀ x y,akeq (F x) (F y)=eq x y) (z:V) (k:K):∀ l:List (K×V),
  (∃ j,findA (F k) (l.map fun p=>F p.1)=some j∧(l.map fun p=>G p.2)[j]? = some (G (mget eq z k l)))∨(findA (F k) (l.map fun p=>F p.1)=none∧mget eq z k l=z)
 | []=>.inr ⟨rfl,rfl⟩
 | p::r=>by
  have ih:=Ny he z k r;simp only[List.map_cons,findA,mget,he]
  cases hq:eq p.1 k with
  | true=>exact .inl ⟨0,rfl,rfl⟩
  | false =>
   simp only[cond_false]
   rcases ih with ⟨j,h1,h2⟩ | ⟨h1,h2⟩
   ·rw[h1];exact .inl ⟨j+1,rfl,h2⟩
   ·rw[h1];exact .inr ⟨rfl,h2⟩
theorem VF (he:∀ x y,akeq (F x) (F y)=eq x y) (k:K) (v:V):∀ l:List (K×V),
  (∃ j,findA (F k) (l.map fun p=>F p.1)=some j∧(mset eq k v l).map (fun p=>F p.1)=l.map (fun p=>F p.1)∧(mset eq k v l).map (fun p=>G p.2)=(l.map fun p=>G p.2).set j (G v)) ∨
  (findA (F k) (l.map fun p=>F p.1)=none∧(mset eq k v l).map (fun p=>F p.1)=l.map (fun p=>F p.1)++[F k]∧(mset eq k v l).map (fun p=>G p.2)=(l.map fun p=>G p.2)++[G v])
 | []=>.inr ⟨rfl,rfl,rfl⟩
 | p::r=>by
  have ih:=VF he k v r;simp only[List.map_cons,findA,mset,he]
  cases hq:eq p.1 k with
  | true=>exact .inl ⟨0,rfl,rfl,rfl⟩
  | false =>
   simp only[cond_false,List.map_cons]
   rcases ih with ⟨j,h1,h2,h3⟩ | ⟨h1,h2,h3⟩
   ·rw[h1,h2,h3];exact .inl ⟨j+1,rfl,rfl,rfl⟩
   ·rw[h1,h2,h3];exact .inr ⟨rfl,rfl,rfl⟩
theorem UN {kt:TypeId} (hf:∀ x,keyFits P kt (F x)=true) (l:List (K×V)):(l.map fun p=>F p.1).all (keyFits P kt)=true:=by
 rw[List.all_map,List.all_eq_true]
 exact fun p _=>hf p.1
theorem Up {t kt e:TypeId} {l:List (K×V)} {k:K} {z:V} (hk:(F k).keyV.isSome=true) (ht:Qq P t=some (kt,e)) (hf:∀ x,keyFits P kt (F x)=true) (he:∀ x y,akeq (F x) (F y)=eq x y) (hz:zeroA1 P e=some (G z)):alookup P t [] (mpE F G l) (F k)=some (G (mget eq z k l)):=by
 unfold alookup mpE;rw[ht];simp only[XH];rw[hf,hk,UN hf];simp only[Bool.and_self]
 rcases Ny (G:=G) he z k l with ⟨j,h1,h2⟩ | ⟨h1,h2⟩
 ·rw[h1];exact h2
 ·rw[h1,h2];exact hz
theorem UK {k:IntKind} {i:Int} (h:wfI k i=true):(AV.int k i).keyV.isSome=true:=by
 simp only[AV.keyV,h];rfl
theorem qds {k:IntKind} {i j l:Int} (h:(wfI k i && wfI k j && wfI k l)=true):(AV.agg [.int k i,.int k j,.int k l]).keyV.isSome=true:=by
 rw[Bool.and_eq_true,Bool.and_eq_true]at h;simp only[AV.keyV,keyVs,h.1.1,h.1.2,h.2];rfl
def mupPre (P:Program) (all:List Oper) (o:Oper) (env:Env):Option (Nat×TypeId×AV×AV×List AV×List AV) :=
 match awanted all o env with
 | some true=>match o.op with
  | .mapUpdate t m k v=>match o.dst,aop env m,aop env k,aop env v,Qq P t with
   | none,some (.mb 0 id),some k,some v,some (kt,e)=>match v.mapElem,look env id with
    | true,some (.hob 0 ks vs)=>some (id,kt,k,v.strip,ks,vs)
    | _,_=>none
   | _,_,_,_,_=>none
  | _=>none
 | _=>none
theorem WO.mapK {draw:Bool} {all ops:List Oper} {Q:Env→Prop} {env e1:Env} {id kt:Nat} {l:List (K×V)} {a:K} {b:V} (k:Nat) (hk:(F a).keyV.isSome=true) (hn:Nat.blt l.length 1000000000=true) (h:WO P n draw all (ops.drop (k+1)) Q e1)
  (hf:∀ x,keyFits P kt (F x)=true) (he:∀ x y,akeq (F x) (F y)=eq x y)
  (hp:stepsE P n draw all k ops env (fun os e=>match os with | o::_=>mupPre P all o e | []=>none)=some (id,kt,F a,G b,l.map (fun p=>F p.1),l.map (fun p=>G p.2)):=by kernel_rfl)
  (hs:stepsE P n draw all k ops env (fun os en=>some (ins id (hobE F G (mset eq a b l)) en))=some e1:=by kernel_rfl):WO P n draw all ops Q env:=by
 obtain⟨en,h1,h2⟩:=qM hp;obtain⟨en',h3,h4⟩:=qM hs;rw[h1]at h3;cases h3;cases h4;refine WO.steps k h1 ?_
 cases hos:ops.drop k with
 | nil=>rw[hos]at h2;cases h2
 | cons o rest =>
  rw[hos]at h2;rw[QS hos]at h;simp only[mupPre]at h2
  split at h2 <;> try cases h2
  rename_i hw
  split at h2 <;> try cases h2
  rename_i t m k0 v0 ho
  split at h2 <;> try cases h2
  rename_i id' k' v' kt' e' hd hm hk' hv ht
  split at h2 <;> try cases h2
  rename_i ks vs hel hl;simp only[Option.some.injEq,Prod.mk.injEq]at h2;obtain⟨rfl,rfl,rfl,hb,rfl,rfl⟩:=h2
  have hst:astep P n o en=some (ins id' (hobE F G (mset eq a b l)) en):=by
   unfold astep;rw[ho];simp only[hd,hm,hk',hv,ht,hl];rw[hf,hk,UN hf,hel,List.length_map,hn];simp only[Bool.and_self];unfold hobE
   rcases VF (G:=G) he a b l with ⟨j,g1,g2,g3⟩ | ⟨g1,g2,g3⟩
   ·rw[g1,g2,g3,hb]
   ·rw[g1,g2,g3,hb]
  refine WO.step (e1:=ins id' (hobE F G (mset eq a b l)) en) ?_ h;unfold step1;rw[hw]
  cases draw with
  | true =>
   have:isEff o.op=true:=by rw[ho];rfl
   refine Xp (Yz (by rw[ho];rfl)) ?_;unfold astepD;simp only[this,hst]
  | false=>exact hst
end Go.AM
namespace Go.AM
open Go.RowKit
section
variable {bs:Base} {n:Nat} {M:Mem} {O:Gh} {env:Env} {a:Act} {w:World} {P:Program}
theorem Xe {o:Oper} {env':Env} (h:Leads P bs n o a w env') {K:Act→World→Prop} {Q:Exit→Act→World→Prop} (hK:∀ a' w' M' O',Inv bs n M' O' env' a' w'→K a' w'):o.wp P a w K Q:=by
 obtain⟨v,w',M',O',h1,h2⟩:=h;unfold Oper.wp
 rcases h1 with h1 | ⟨h1,rfl⟩ <;> rw[h1] <;> exact hK _ _ _ _ h2
theorem qZ (h:Inv bs n M O env a w) {all:List Oper} {o:Oper} {b:Bool} (hw:awanted all o env=some b):Region.wanted o (yielded all.toArray a.tmps)=b:=by
 unfold awanted at hw;unfold Region.wanted
 split at hw
 ·rename_i hg;rw[hg];cases hw;rfl
 ·rename_i j want hg;rw[hg]
  simp only
  split at hw
  ·cases hw
  ·rename_i t ht
   split at hw
   ·rename_i c hl;cases hw;have hs:=h.slots t _ hl;have hv:a.tmps.getD t undef=.bool c:=hs.1.bool_inv
    have ht':((all.toArray[j]?).bind (·.dst))=some t:=by simpa using ht
    unfold yielded;rw[ht'];simp only[Option.bind_some]
    have hget:a.tmps[t]? = some (.bool c):=by
     cases hx:a.tmps[t]? with
     | none =>
      rw[Array.getD_eq_getD_getElem?,hx]at hv
      simp[undef]at hv
     | some y =>
      rw[Array.getD_eq_getD_getElem?,hx]at hv
      simp at hv
      rw[hv]
    rw[hget];cases c <;> cases want <;> rfl
   ·rename_i hl;cases hw;have hs:=h.slots t _ hl
    have hv:a.tmps.getD t undef=undef:=by
     have:=hs.1;generalize a.tmps.getD t undef=y at this;cases this;rfl
    have ht':((all.toArray[j]?).bind (·.dst))=some t:=by simpa using ht
    unfold yielded;rw[ht'];simp only[Option.bind_some]
    cases hx:a.tmps[t]? with
    | none=>rfl
    | some y =>
     rw[Array.getD_eq_getD_getElem?,hx]at hv
     simp at hv
     subst hv;rfl
   ·cases hw
def StepSem (P:Program) (n:Nat) (all:List Oper) (o:Oper) (e e1:Env):Prop :=
 ∀ (bs:Base) (M:Mem) (O:Gh) (a:Act) (w:World),Inv bs n M O e a w→∀ (K:Act→World→Prop) (Q:Exit→Act→World→Prop),(∀ a' w' M' O',Inv bs n M' O' e1 a' w'→K a' w') →
  if Region.wanted o (yielded all.toArray a.tmps) then o.wp P a w K Q else K (a.put o.dst undef) w
def insO (d:Option Nat) (x:AV) (E:Env):Env :=
 match d with
 | some t=>ins t x E
 | none=>E
def lookS (env:Env) (t:Nat):Option AV:=(look env t).map AV.sk
def NA (all:List Oper) (o:Oper) (e E:Env):Prop:=∀ t,t∈namesOf all.toArray o→∀ y,lookS e t=some y→lookS E t=some y
def EA (e E:Env):Prop:=∀ s x,x.ent=true→look e s=some x→look E s=some x
def Pure1 (P:Program) (n:Nat) (all:List Oper) (o:Oper) (e e1:Env):Prop :=
 ∃ x,eput n o.dst x e=some e1∧x.ent=false∧∀ E,NA all o e E→(memFree o.op=true∨EA e E)→StepSem P n all o E (insO o.dst x E)
def St1 (P:Program) (n:Nat) (all:List Oper) (o:Oper) (e e1:Env):Prop :=
 isStore o.op=true∧o.dst=none∧∃ s x x',look e s=some x∧x.ent=true∧x'.ent=true∧x'.sk=x.sk∧e1=ins s x' e∧∀ E,NA all o e E→look E s=some x→StepSem P n all o E (ins s x' E)
def LE (E F:Env):Prop:=∀ t,look E t=look F t
def ClearL (id:Nat) (E:Env):Prop:=look E id=none∧∀ s x,look E s=some x→x.refs id=false
def Unord (all:List Oper) (o x:Oper):Prop:=∃ k i,all[k]? = some o∧all[i]? = some x∧i≠k∧((Region.before all.toArray).getD k 0).testBit i=false∧((Region.before all.toArray).getD i 0).testBit k=false
def IsA (P:Program) (n:Nat) (all:List Oper) (o:Oper) (E E1:Env):Prop :=
 isMk o.op=true∧∃ (d:Nat) (x y:AV),o.dst=some d∧x.ent=false∧ClearL (1000000+d) E∧LE (ins (1000000+d) y (ins d x E)) E1∧∀ F,NA all o E F→ClearL (1000000+d) F→look F d=none→StepSem P n all o F (ins (1000000+d) y (ins d x F))
def IsB (P:Program) (n:Nat) (all:List Oper) (o:Oper) (E E1:Env):Prop :=
 isApp o.op=true∧((∀ x,¬ Unord all o x)∨∃ (d:Nat) (v:AV) (g:AV→AV),o.dst=some d∧LE (ins d v (E.map fun p=>(p.1,g p.2))) E1∧(∀ x,plainV (some x)=true→g x=x) ∧
  (∀ x,Unord all o x→∀ t,t∈namesOf all.toArray x→plainV (look E t)=true)∧∀ F,NA all o E F→look F d=none→StepSem P n all o F (ins d v (F.map fun p=>(p.1,g p.2))))
def Hard (P:Program) (n:Nat) (all:List Oper) (o:Oper) (e e1:Env):Prop :=
 (isEff o.op=true∧isStore o.op=false)∧(∀ t,t<1000000→o.dst≠some t→look e t=none→look e1 t=none)∧(o.guard=none→isMk o.op=true→IsA P n all o e e1)∧(o.guard=none→isApp o.op=true→IsB P n all o e e1)
def StepOk (P:Program) (n:Nat) (draw:Bool) (all:List Oper) (o:Oper) (e e1:Env):Prop :=
 StepSem P n all o e e1∧(draw=true→Hard P n all o e e1∨St1 P n all o e e1∨((isEff o.op=false∨isStore o.op=true)∧Pure1 P n all o e e1))
inductive Chain (P:Program) (n:Nat) (draw:Bool) (all:List Oper):List Oper→Env→Env→Prop where
 | nil {e}:Chain P n draw all [] e e
 | drop {rest e e'} (e0:Env):draw=false→(∀ (bs:Base) (M:Mem) (O:Gh) (a:Act) (w:World),Inv bs n M O e a w→∃ M' O',Inv bs n M' O' e0 a w)→Chain P n draw all rest e0 e'→Chain P n draw all rest e e'
 | step {o rest e e1 e'}:StepOk P n draw all o e e1→Chain P n draw all rest e1 e'→Chain P n draw all (o::rest) e e'
theorem ND {draw:Bool} {all rest:List Oper} {e e':Env} (hc:Chain P n draw all rest e e'):∀ {M:Mem} {O:Gh} {a:Act} {w:World},Inv bs n M O e a w→∀ {Q:Exit→Act→World→Prop},(∀ a' w' M' O',Inv bs n M' O' e' a' w'→Q .normal a' w')→wpList P all.toArray Q rest a w:=by
 induction hc with
 | nil=>intro M O a w h Q hQ;exact hQ _ _ _ _ h
 | drop e0 _ hw _ ih =>
  intro M O a w h Q hQ;obtain⟨M',O',h'⟩:=hw _ M O a w h;exact ih h' hQ
 | step hs _ ih =>
  intro M O a w h Q hQ;have:=hs.1 bs M O a w h (wpList P all.toArray Q _) Q (fun a' w' M' O' h'=>ih h' hQ);simp only[wpList]
  split at this
  ·rename_i hw;rw[if_pos hw];exact .inl this
  ·rename_i hw;rw[if_neg hw];exact this
theorem qcY {id:Nat} {ops:Array Oper} {e e':Env} (hc:Chain P n false ops.toList ops.toList e e') (h:Inv bs n M O e a w) {Q:Exit→Act→World→Prop} (hQ:∀ a' w' M' O',Inv bs n M' O' e' a' w'→Q .normal a' w'):(Code.region id ops false).wp P Q a w:=by
 refine wp_region_list ?_;have:=ND hc h hQ
 simpa using this
theorem qfs {all:List Oper} {o:Oper} {e e1:Env} (hw:awanted all o e=some false) (he:eput n o.dst .und e=some e1):StepSem P n all o e e1:=by
 intro bs M O a w h K Q hK;rw[qZ h hw];simp only[Bool.false_eq_true,if_false];exact hK _ _ _ _ (XG h (x:=.und) ⟨.und,trivial⟩ he)
theorem Uv {all:List Oper} {o:Oper} {e e1:Env} (hw:awanted all o e=some true) (he:astep P n o e=some e1):StepSem P n all o e e1:=by
 intro bs M O a w h K Q hK;rw[qZ h hw];simp only[if_true];exact Xe (NX h he) hK
theorem qfr {all:List Oper} {o:Oper} {e e1:Env} (hw:awanted all o e=some true) (he:arow P n o e=some e1):StepSem P n all o e e1:=by
 intro bs M O a w h K Q hK;rw[qZ h hw];simp only[if_true];exact Xe (qdN h he) hK
theorem qfu {all:List Oper} {o:Oper} {e e1:Env} (hw:awanted all o e=some true) (he:aagr P n o e=some e1):StepSem P n all o e e1:=by
 intro bs M O a w h K Q hK;rw[qZ h hw];simp only[if_true];exact Xe (qdQ h he) hK
theorem qep {all:List Oper} {o:Oper} {e e1:Env} {x:AV} (hw:awanted all o e=some true) (hx:apure P o e=some x) (he:eput n o.dst x e=some e1):StepSem P n all o e e1:=by
 intro bs M O a w h K Q hK;rw[qZ h hw];simp only[if_true];exact Xe (Zz h hx he) hK
theorem Vn (h:Inv bs n M O env a w) {d:Option Nat} {x:AV} {v:Value} (hv:ValOk O M w x v) (hd:∀ t,d=some t→t<n):Inv bs n M O (insO d x env) (a.put d v) w:=by
 cases d with
 | none=>exact h
 | some t=>exact h.put (hd t rfl) hv
theorem JN {d:Option Nat} {x:AV} {e e1:Env} (he:eput n d x e=some e1):e1=insO d x e∧(∀ t,d=some t→t<n)∧∀ t,d=some t→∀ y,look e t=some y→y.ent=false:=by
 cases d with
 | none=>cases he;exact⟨rfl,(fun t e=>by cases e),(fun t e=>by cases e)⟩
 | some t =>
  obtain⟨h1,h2,h3⟩:=YC he;exact⟨h2,(fun t' e=>by cases e;exact h1),fun t' e y hy=>by cases e;exact h3 y hy⟩
theorem UU {all:List Oper} {o:Oper} {e:Env} {f:Nat} {args:List AV} {r:AV} (hc:acallee P o e=some (f,args)) (hr:CallOk P f args r) (h:Inv bs n M O e a w) {K:Act→World→Prop} {Q:Exit→Act→World→Prop}
  (hK:∀ v w' M',Inv bs n M' O e a w'→R M' r v→OwnR M' w.heap.size w' r v→(∀ i c g,O i c=some g→g<w.heap.size)→(∀ g,w.heap.size≤g→¬ bs.D g)→K (a.put o.dst v) w'):o.wp P a w K Q:=by
 obtain⟨vs,h1,h2,h3⟩:=qbl h hc;unfold Oper.wp;rw[h1];show Calls P f vs.toArray w _;refine (hr M w vs h.glob h.cons h2 h3).mono ?_
 rintro ed w' ⟨v,M',rfl,hb,hs,hC,ho,hR,hO⟩
 exact hK v w' M' (h.grown (row:=none) (fun g e=>by cases e) (NV hb) hs hC (fun b o hb _=>ho b o hb)) hR hO (fun i c g hg=>(h.own i c g hg).2) (fun g hg=>h.fresh hg)
theorem NU {all:List Oper} {o:Oper} {e:Env} {f:Nat} {args:List AV} {r:AV} (hc:Qr P o e=some (f,args)) (hp:r.plain=true) (hr:CallOk P f args r) (h:Inv bs n M O e a w) {K:Act→World→Prop} {Q:Exit→Act→World→Prop}
  (hK:∀ v w',Inv bs n M O e a w'→R M r v→K (a.put o.dst v) w'):o.wp P a w K Q:=by
 obtain⟨vs,h1,h2,h3⟩:=DD h hc;unfold Oper.wp;rw[h1];show Calls P f vs.toArray w _;refine (hr _ w vs (h.glob.mono (Xc h)) (qeN h) h2 h3).mono ?_
 rintro ed w' ⟨v,M',rfl,hb,hs,hC,ho,hR,hO⟩
 exact hK v w' (h.grown (row:=none) (fun g e=>by cases e) (NV hb) (Sub.refl M) (fun b o u hu=>hC b o u (hs b o u (Xc h b o u hu))) (fun b o hb _=>rfl)) (qgE hp hR)
theorem Xq (x:AV):x.strip.lab? = none:=by cases x <;> rfl
theorem qcN {all:List Oper} {o:Oper} {e e1:Env} {f:Nat} {args:List AV} {r:AV} (hw:awanted all o e=some true) (hc:Qr P o e=some (f,args)) (hp:r.plain=true) (hr:CallOk P f args r) (he:eput n o.dst r e=some e1):StepSem P n all o e e1:=by
 intro bs M O a w h K Q hK;rw[qZ h hw];simp only[if_true]
 exact NU (all:=all) hc hp hr h fun v w' h' hR=>hK _ _ _ _ (XG h' (jZ hR (DY hp)) he)
theorem qeq {draw:Bool} {all:List Oper} {o:Oper} {e e1:Env} {f:Nat} {args:List AV} {r:AV} (hw:awanted all o e=some true) (hc:acallee P o e=some (f,args)) (hr:CallOk P f args r) (he:callPut n draw o.dst r e=some e1):StepSem P n all o e e1:=by
 intro bs M O a w h K Q hK;rw[qZ h hw];simp only[if_true]
 refine UU (all:=all) hc hr h fun v w' M' h' hR hO hlt hB=>?_
 have plain:eput n o.dst r.strip e=some e1→K (a.put o.dst v) w':=fun he=>hK _ _ _ _ (XG h' (jZ hR.strip (Xq r)) he)
 unfold callPut at he
 split at he
 ·split at he
  ·exact plain he
  ·cases he
 ·split at he
  ·rename_i c hl
   cases r with
   | lst el k lab xs =>
    cases lab with
    | none=>cases hl
    | some c' =>
     simp only[AV.strip]at he plain
     cases hd:o.dst with
     | none=>rw[hd]at he plain;exact plain he
     | some d =>
      rw[hd]at he plain;simp only[fresh]at he
      split at he
      ·exact plain he
      ·rename_i hlab;obtain⟨hdn,rfl⟩:=YD he
       have hput:∃ O',Inv bs n M' O' (ins d (.lst el k (some d) xs) e) (a.put (some d) v) w':=by
        rcases hO with hv | ⟨g,off,cap,cur,q1,q2,q3,q4,q5,q6,q7⟩
        ·exact h'.putFresh (g:=0) (off:=0) (cap:=0) (cur:=#[]) hdn hlab hR.setLab (.inl hv)
        ·exact h'.putFresh hdn hlab hR.setLab (.inr ⟨q1,hB g q2,fun i c hc=>by have:=hlt i c _ hc;omega,q3,q4,q5,q6,q7⟩)
       obtain⟨O',hput⟩:=hput;exact hK _ _ _ _ hput
   | _=>cases hl
  ·exact plain he
end
end Go.AM
