import Derived.Test.YtdghpfejmlpjhaaAWq
set_option linter.all false
open Nat renaming beq→A0, eq_of_beq_eq_true→B1, lt_of_not_le→C7, blt→D2, ble_eq_true_of_le→D5, le_refl→D9, lt_or_ge→E0, beq_refl→E9, le_of_ble_eq_true→G0
open List renaming map_cons→A1, map→A2, length_map→A3, getElem?_eq_getElem→A4, mem_cons_self→A8, mem_cons_of_mem→A9, all_eq_true→D0, foldl_cons→D7, map_map→E7, map_congr_left→E8, all_cons→F6, mem_append_right→F8, filter_cons_of_pos→F9, mem_append_left→G1
open Bool renaming and_eq_true→A5, not_eq_true'→A7, and_self→D1, or_eq_true→D8
open Go.Region renaming before→A6, binds→C0, ready→D4, wanted→D6
open Array renaming getD_eq_getD_getElem?→D3, getElem?_push→G2
open Option renaming map_some→F7
namespace Go.AM
variable {P:Program} {n:Nat} {α:Type} {enc:α->AV}
variable {d off s sz t:Nat} {o:Oper} {e1 en env:Env} {draw:Bool} {Q:Env->Prop}
def Flat (enc:α->AV):Prop:=∀ x,(enc x).one=true/\(enc x).strip=enc x/\(enc x).cells=[enc x]
theorem qy (k:IntKind):Flat (AV.int k):=fun _=>⟨rfl,rfl,rfl⟩
theorem qB:Flat AV.bool:=fun _=>⟨rfl,rfl,rfl⟩
theorem Flat.all (h:Flat enc) (l:List α):(l.map enc).all AV.one=true:=by
 rw[List.all_map,D0]
 exact fun x _=>(h x).1
theorem Flat.strips (h:Flat enc) (l:List α):(l.map enc).map AV.strip=l.map enc:=by
 rw[E7]
 exact E8 fun x _=>(h x).2.1
def cutS (P:Program) (t:TypeId):Bool:=match tSize P t with
 | some sz=>A0 sz 1 && !tAgg P t && (P.underlying t).isSome
 | none=>false
def cutW (P:Program) (t:TypeId) (sz:Nat):Bool:=match tSize P t with
 | some s=>A0 s sz && tAgg P t && (P.underlying t).isSome
 | none=>false
theorem QQ {t:TypeId} {l:List α} {e:α} (hF:Flat enc) (hc:cutS P t=true) (h:l[off]? = some e):cut P t (l.map enc) off=some (enc e):=by
 unfold cutS at hc;split at hc
 .rename_i sz hs;simp only[A5,A7]at hc;obtain⟨⟨h1,h2⟩,h3⟩:=hc;obtain rfl:=B1 h1;have hlt:=(List.getElem?_eq_some_iff.1 h).1;unfold cut;rw[hs];have e1:Nat.ble (off+1) (l.map enc).length=true:=D5 (by rw[A3];exact hlt)
  have e2:(l.map enc)[off]? = some (enc e):=by rw[List.getElem?_map,h];rfl
  simp only[e1,h3,h2,e2,(hF e).1,D1]
 cases hc
theorem qkT {l:List α} (hF:Flat enc) (hc:cutW P t sz=true) (h:off+sz<=l.length):cut P t (l.map enc) off=some (.agg (((l.drop off).take sz).map enc)):=by
 unfold cutW at hc;split at hc
 .rename_i s hs;simp only[A5]at hc;obtain⟨⟨h1,h2⟩,h3⟩:=hc;obtain rfl:=B1 h1;unfold cut;rw[hs];have e1:Nat.ble (off+s) (l.map enc).length=true:=D5 (by rw[A3];exact h);simp only[e1,h3,h2,D1];rw[<- List.map_drop,<- List.map_take,hF.strips]
 cases hc
theorem qE {l:List α} (hF:Flat enc) (hc:cutW P t sz=true) (h:l.length=sz):cut P t (l.map enc) 0=some (.agg (l.map enc)):=by
 rw[qkT hF hc (by omega),List.drop_zero,List.take_of_length_le (by omega)]
theorem qfm {l:List α} (hF:Flat enc) (hc:cutW P t sz=true) (h:l.length=sz):cut P t (A2 AV.strip (A2 enc l)) 0=some (.agg (l.map enc)):=by
 have hs:A2 AV.strip (A2 enc l)=A2 enc l:=by
  rw[E7]
  exact E8 fun x _=>(hF x).2.1
 rw[hs];exact qE hF hc h
def setPre (P:Program) (all:LF) (o:Oper) (env:Env):Option (Nat×Nat×AV×LM×Nat) :=
 match awanted all o env with
 | some true=>match o.op with
  | .store t p x=>match o.dst,aop env p,aop env x,tSize P t with
   | none,some (.pb s off),some v,some sz=>match look env s with
    | some (.hob 3 [] cs)=>some (s,off,v,cs,sz)
    | _=>none
   | _,_,_,_=>none
  | _=>none
 | _=>none
theorem NH {all:LF} {v:AV} {cs:LM} (h:setPre P all o env=some (s,off,v,cs,sz)):awanted all o env=some true/\isEff o.op=true/\isApp o.op=false/\look env s=some (.hob 3 [] cs) /\
  (v.one=true->v.cells.length=sz->astep P n o env=putCell s env off v)/\(∀ c2,v=.agg c2->c2.length=sz->astep P n o env=putRow s env off c2):=by
 unfold setPre at h
 split at h <;> try cases h
 rename_i hw
 split at h <;> try cases h
 rename_i t p x ho
 split at h <;> try cases h
 rename_i hd hp hx hs
 split at h <;> try cases h
 rename_i hl;refine⟨hw,by rw[ho];rfl,by rw[ho];rfl,hl,fun h1 hc=>?_,fun c2 hv hc=>?_⟩
 .unfold astep;rw[ho];simp only[hd,hp,hx,hs]
  have:A0 v.cells.length sz=true:=by rw[hc];exact E9 _
  simp only[this]
  cases v <;> first | (simp only[hl];done) | cases h1
 subst hv;unfold astep;rw[ho];simp only[hd,hp,hx,hs]
 have:A0 (AV.agg c2).cells.length sz=true:=by show A0 c2.length sz=true;rw[hc];exact E9 _
 simp only[this]
theorem WO.eff {all ops:LF} (hw:awanted all o en=some true) (hei:isEff o.op=true) (hap:isApp o.op=false) (hst:astep P n o en=some e1) (h:WO P n draw all ops Q e1):WO P n draw all (o::ops) Q en:=by
 refine WO.step (e1:=e1) ?_ h;unfold step1;rw[hw]
 cases draw with
 | true =>
  refine Zc (Ug hap) ?_;unfold astepD;simp only[hei,hst]
 | false=>exact hst
theorem WO.setA {all ops:LF} {l:List α} {x:α} (k:Nat) (hF:Flat enc) (hlt:decide (off<l.length)=true) (h:WO P n draw all (ops.drop (k+1)) Q e1)
  (hp:stepsE P n draw all k ops env (fun os e=>match os with | o::_=>setPre P all o e | []=>none)=some (s,off,enc x,l.map enc,1):=by kernel_rfl)
  (hs:stepsE P n draw all k ops env (fun os en=>some (ins s (.hob 3 [] ((l.set off x).map enc)) en))=some e1:=by kernel_rfl):WO P n draw all ops Q env:=by
 obtain⟨en,h1,h2⟩:=je hp;obtain⟨en',h3,h4⟩:=je hs;rw[h1]at h3;cases h3;cases h4;refine WO.steps k h1 ?_
 cases hos:ops.drop k with
 | nil=>rw[hos]at h2;cases h2
 | cons o rest =>
  rw[hos]at h2;rw[XW hos]at h;obtain⟨a1,a2,a3,a4,a5,_⟩:=NH (n:=n) h2;refine WO.eff a1 a2 a3 ?_ h;have hone:=(hF x).1;rw[a5 hone (by rw[(hF x).2.2];rfl)];unfold putCell;have:D2 off (l.map enc).length=true:=D5 (by rw[A3];exact oT hlt);simp only[hone,a4,this];rw[List.map_set,(hF x).2.1]
theorem WO.storeA {all ops:LF} {l l':List α} (k:Nat) (hF:Flat enc) (hl:decide (l.length=sz/\l'.length=sz)=true) (h:WO P n draw all (ops.drop (k+1)) Q e1)
  (hp:stepsE P n draw all k ops env (fun os e=>match os with | o::_=>setPre P all o e | []=>none)=some (s,0,.agg (l.map enc),l'.map enc,sz):=by kernel_rfl)
  (hs:stepsE P n draw all k ops env (fun os en=>some (ins s (.hob 3 [] (l.map enc)) en))=some e1:=by kernel_rfl):WO P n draw all ops Q env:=by
 obtain⟨en,h1,h2⟩:=je hp;obtain⟨en',h3,h4⟩:=je hs;rw[h1]at h3;cases h3;cases h4;obtain⟨hl1,hl2⟩:=oT hl;refine WO.steps k h1 ?_
 cases hos:ops.drop k with
 | nil=>rw[hos]at h2;cases h2
 | cons o rest =>
  rw[hos]at h2;rw[XW hos]at h;obtain⟨a1,a2,a3,a4,_,a5⟩:=NH (n:=n) h2;refine WO.eff a1 a2 a3 ?_ h;rw[a5 _ rfl (by rw[A3];exact hl1)];unfold putRow;have:Nat.ble (0+(l.map enc).length) (l'.map enc).length=true:=D5 (by rw[A3,A3];omega);simp only[hF.all,a4,this];rw[hF.strips,List.take_zero,List.drop_eq_nil_of_le (by rw[A3,A3];omega),List.nil_append,List.append_nil]
def boxPre (all:LF) (o:Oper) (env:Env):Option (Nat×AV) :=
 match awanted all o env with
 | some true=>match o.op with
  | .box t x=>match o.dst,aop env x with
   | some d,some v=>match clearOf d env with
    | true=>some (d,v)
    | false=>none
   | _,_=>none
  | _=>none
 | _=>none
theorem qeq {d:Nat}:∀ {en:Env},clearOf d en=true->forget d en=en
 | [],_=>rfl
 | (t,y)::r,h=>by
  simp only[clearOf,F6,A5,A7]at h;have ih:=qeq (en:=r) (d:=d) (by simpa[clearOf] using h.2);unfold forget at ih ⊢
  have hk:killRef d y=y:=by unfold killRef;rw[h.1.2]
  rw[F9 (by simp[h.1.1]),A1,ih,hk]
theorem qcM {d:Nat} {x:AV}:∀ {en:Env},clearOf d en=true->forget d (ins d x en)=en
 | [],_=>by simp[forget,ins]
 | (t,y)::r,h=>by
  have h0:=h;simp only[clearOf,F6,A5,A7]at h;have ih:=qcM (x:=x) (en:=r) (d:=d) (by simpa[clearOf] using h.2)
  have hk:killRef d y=y:=by unfold killRef;rw[h.1.2]
  simp only[ins];split
  .unfold forget at ih ⊢;rw[F9 (by simp[h.1.1]),A1,ih,hk]
  simp only[h.1.1];have:=qeq h0;unfold forget at this ⊢;rw[List.filter_cons_of_neg (by simp)];exact this
theorem qis {d:Nat} {x:AV} {p:Nat×AV}:∀ {en:Env},p∈ins d x en->p=(d,x)\/p∈en
 | [],h=>by simpa[ins] using h
 | (t,y)::r,h=>by
  simp only[ins]at h;split at h
  .rcases List.mem_cons.1 h with h | h
   .exact .inr (by rw[h];exact A8 ..)
   exact (qis h).imp id (A9 _)
  split at h
  .rcases List.mem_cons.1 h with h | h
   .exact .inl h
   exact .inr (A9 _ h)
  rcases List.mem_cons.1 h with h | h
  .exact .inl h
  exact .inr h
theorem Dq {d:Nat} {x:AV}:∀ {en:Env},look (ins d x en) d=some x
 | []=>by simp[ins,look]
 | (t,y)::r=>by
  have ih:=Dq (x:=x) (en:=r) (d:=d);simp only[ins];split
  .rename_i hb;have:t<d:=G0 hb
   have h2:A0 t d=false:=by rw[Bool.eq_false_iff];intro hh;have:=B1 hh;omega
   simp only[look,h2];exact ih
  split <;> simp[look]
theorem qkN {x y:AV} (h:(eput n (some d) x en).isSome=true):eput n (some d) y en=some (ins d y en):=by
 unfold eput at h ⊢;simp only at h ⊢;split at h
 .rfl
 cases h
theorem WO.boxA {all ops:LF} {l:List α} (k:Nat) (hF:Flat enc) (hl:(!l.isEmpty)=true) (h:WO P n false all (ops.drop (k+1)) Q e1)
  (hp:stepsE P n false all k ops env (fun os e=>match os with | o::_=>boxPre all o e | []=>none)=some (d,.agg (l.map enc)):=by kernel_rfl)
  (hs:stepsE P n false all k ops env (fun os en=>match (eput n (some d) .und en).isSome,clearOf (1000000+d) en && D2 d 1000000 with
   | true,true=>some (ins d (.pb (1000000+d) 0) (ins (1000000+d) (.hob 3 [] (l.map enc)) en))
   | _,_=>none)=some e1:=by kernel_rfl):WO P n false all ops Q env:=by
 obtain⟨en,h1,h2⟩:=je hp;obtain⟨en',h3,h4⟩:=je hs;rw[h1]at h3;cases h3;refine WO.steps k h1 ?_
 cases hos:ops.drop k with
 | nil=>rw[hos]at h2;cases h2
 | cons o rest =>
  rw[hos]at h2;rw[XW hos]at h;simp only[boxPre]at h2
  split at h2 <;> try cases h2
  rename_i hw
  split at h2 <;> try cases h2
  rename_i t x ho
  split at h2 <;> try cases h2
  rename_i hd hx
  split at h2 <;> try cases h2
  rename_i hcl
  split at h4 <;> try cases h4
  rename_i hb hc;refine WO.eff (e1:=ins d (.box (l.map enc)) en) hw (by rw[ho];rfl) (by rw[ho];rfl) ?_ (WO.mv [.arr d] ?_ h)
  .unfold astep;rw[ho];simp only[hd,hx]
   have hne:(l.map enc).isEmpty=false:=by
    cases l with
    | nil=>cases hl
    | cons=>rfl
   have e1':(AV.agg (l.map enc)).cells=l.map enc:=rfl;rw[e1',hcl,hF.all,hne,hF.strips];show eput n (some d) _ en=_;exact qkN hb
  show arrBox (ins d (.box (l.map enc)) en) d=_;unfold arrBox
  have hc2:(clearOf (1000000+d) (ins d (.box (l.map enc)) en) && D2 d 1000000)=true:=by
   simp only[A5]at hc ⊢;refine⟨?_,hc.2⟩;unfold clearOf;rw[D0];intro p hp
   rcases qis hp with rfl | hp
   .have:A0 d (1000000+d)=false:=by rw[Bool.eq_false_iff];intro hh;have:=B1 hh;omega
    simp[this,AV.refs]
   have:=hc.1;unfold clearOf at this;exact List.all_eq_true.1 this p hp
  rw[Dq,hc2];simp only;rw[qcM hcl,hF.strips]
theorem WO.one {all ops:LF} (hw:awanted all o en=some true) (hst:astep P n o en=some e1) (h:WO P n false all ops Q e1):WO P n false all (o::ops) Q en:=by
 refine WO.step (e1:=e1) ?_ h;unfold step1;rw[hw];exact hst
def litPre (all:LF) (o:Oper) (env:Env):Option (Nat×TypeId×AV) :=
 match awanted all o env with
 | some true=>match o.op with
  | .buildSlice t 1 ps=>match o.dst,ps.toList with
   | some d,[(0,x)]=>match aop env x with
    | some v=>some (d,t,v)
    | none=>none
   | _,_=>none
  | _=>none
 | _=>none
def litOk (P:Program) (t:TypeId) (e s:Nat):Bool :=
 match Jg P t with
 | some (e',s')=>A0 e' e && (A0 s' s && ((match (P.info? e').bind (·.zero) with | some z=>A0 z.cells.size s' | none=>false) && (Nat.ble (1 * s') 16777216 && D2 0 s')))
 | none=>false
theorem WO.litA {all ops:LF} {e:Nat} {l:List α} (k:Nat) (hF:Flat enc) (hl:l.length=s) (h:WO P n false all (ops.drop (k+1)) Q e1)
  (hp:stepsE P n false all k ops env (fun os en=>match os with | o::_=>litPre all o en | []=>none)=some (d,t,.agg (l.map enc)):=by kernel_rfl)
  (hc:litOk P t e s=true:=by kernel_rfl)
  (hs:stepsE P n false all k ops env (fun os en=>eput n (some d) (fresh (some d) (.lst e s none [.agg (l.map enc)]) en) en)=some e1:=by kernel_rfl):WO P n false all ops Q env:=by
 obtain⟨en,h1,h2⟩:=je hp;obtain⟨en',h3,h4⟩:=je hs;rw[h1]at h3;cases h3;refine WO.steps k h1 ?_
 cases hos:ops.drop k with
 | nil=>rw[hos]at h2;cases h2
 | cons o rest =>
  rw[hos]at h2;rw[XW hos]at h;simp only[litPre]at h2
  split at h2 <;> try cases h2
  rename_i hw
  split at h2 <;> try cases h2
  rename_i t' ps ho
  split at h2 <;> try cases h2
  rename_i d' x hd hps
  split at h2 <;> try cases h2
  rename_i v hx;refine WO.one (e1:=e1) hw ?_ h;unfold astep;rw[ho]
  have hap:apure P o en=some (.lst e s none [.agg (l.map enc)]):=by
   unfold litOk at hc;split at hc
   case h_2=>cases hc
   rename_i e' s' hse;simp only[A5]at hc;obtain⟨c1,c2,c3,c4,c5⟩:=hc;obtain rfl:=B1 c1;obtain rfl:=B1 c2;unfold apure;rw[ho]
   have hparts:parts? en ps=some [(0,.agg (l.map enc))]:=by
    unfold parts?;rw[hps];simp only[A1,List.map_nil,hx];rfl
   simp only[hparts];unfold UG;rw[hse]
   have hlen:A0 (AV.agg (l.map enc)).cells.length s'=true:=by
    show A0 (l.map enc).length s'=true;rw[A3,hl];exact E9 _
   have hall:(AV.agg (l.map enc)).cells.all AV.one=true:=hF.all l;have hne:nilE P e' (AV.agg (l.map enc))=AV.agg (l.map enc):=rfl;have hb:A0 ([(0,AV.agg (l.map enc))]:Lh).length 1=true:=rfl;have ho1:inOrder 0 ([(0,AV.agg (l.map enc))]:Lh)=true:=rfl
   cases hz:(P.info? e').bind (·.zero) with
   | none=>rw[hz]at c3;cases c3
   | some z =>
    rw[hz]at c3;have c3':A0 z.cells.size s'=true:=c3;simp only[hz,c3',hb,c4,ho1,c5,F6,List.all_nil,hlen,hall,D1,A1,List.map_nil,hF.strips,hne]
  simp only[hap,hd];exact h4
theorem qei {t:TypeId} {l:List α} {i:Int} {m:Nat} {e:α} (hF:Flat enc) (hc:cutS P t=true) (hi:(0:Int)<=i/\i<((m:Nat):Int)) (h:l[Int.toNat i * 1]? = some e):(if (0:Int)<=i/\i<((m:Nat):Int) then cut P t (A2 AV.strip (A2 enc l)) (Int.toNat i * 1) else none)=some (enc e):=by
 have hs:A2 AV.strip (A2 enc l)=A2 enc l:=by
  rw[E7]
  exact E8 fun x _=>(hF x).2.1
 rw[if_pos hi,hs];exact QQ hF hc h
theorem qgU (k:IntKind):∀ (m:Nat) (l l':LA),l.length=m->l'.length=m->aeqL (List.replicate m 0) (A2 (AV.int k) l) (A2 (AV.int k) l')=some (l == l')
 | 0,[],[],_,_=>rfl
 | m+1,a::l,b::l',h1,h2=>by
  have ih:=qgU k m l l' (by simpa using h1) (by simpa using h2)
  have hk:kbeq k k=true:=by cases k <;> rfl
  rw[List.replicate_succ,A1,A1];simp only[aeqL,aeq1,ih,hk];rfl
end Go.AM
namespace Go.AM
variable {P:Program} {n:Nat} {K V:Type} {F:K->AV} {G:V->AV} {eq:K->K->Bool}
variable {kt:TypeId} {k:IntKind} {i:Int}
def mpE (F:K->AV) (G:V->AV) (l:List (K×V)):AV:=.mpv (l.map fun p=>F p.1) (l.map fun p=>G p.2)
def hobE (F:K->AV) (G:V->AV) (l:List (K×V)):AV:=.hob 0 (l.map fun p=>F p.1) (l.map fun p=>G p.2)
def mget (eq:K->K->Bool) (z:V) (k:K):List (K×V)->V
 | []=>z
 | p::r=>bif eq p.1 k then p.2 else mget eq z k r
def mset (eq:K->K->Bool) (k:K) (v:V):List (K×V)->List (K×V)
 | []=>[(k,v)]
 | p::r=>bif eq p.1 k then (p.1,v)::r else p::mset eq k v r
def keq1 (x a:Int):Bool:=x == a
theorem ZV (he:∀ x y,akeq (F x) (F y)=eq x y) (z:V) (k:K):∀ l:List (K×V),
  (∃ j,findA (F k) (l.map fun p=>F p.1)=some j/\(l.map fun p=>G p.2)[j]? = some (G (mget eq z k l)))\/(findA (F k) (l.map fun p=>F p.1)=none/\mget eq z k l=z)
 | []=>.inr ⟨rfl,rfl⟩
 | p::r=>by
  have ih:=ZV he z k r;simp only[A1,findA,mget,he]
  cases hq:eq p.1 k with
  | true=>exact .inl ⟨0,rfl,rfl⟩
  | false =>
   simp only[cN]
   rcases ih with ⟨j,h1,h2⟩ | ⟨h1,h2⟩
   .rw[h1];exact .inl ⟨j+1,rfl,h2⟩
   rw[h1];exact .inr ⟨rfl,h2⟩
theorem Da (he:∀ x y,akeq (F x) (F y)=eq x y) (k:K) (v:V):∀ l:List (K×V),
  (∃ j,findA (F k) (l.map fun p=>F p.1)=some j/\(mset eq k v l).map (fun p=>F p.1)=l.map (fun p=>F p.1)/\(mset eq k v l).map (fun p=>G p.2)=(l.map fun p=>G p.2).set j (G v)) \/
  (findA (F k) (l.map fun p=>F p.1)=none/\(mset eq k v l).map (fun p=>F p.1)=l.map (fun p=>F p.1)++[F k]/\(mset eq k v l).map (fun p=>G p.2)=(l.map fun p=>G p.2)++[G v])
 | []=>.inr ⟨rfl,rfl,rfl⟩
 | p::r=>by
  have ih:=Da he k v r;simp only[A1,findA,mset,he]
  cases hq:eq p.1 k with
  | true=>exact .inl ⟨0,rfl,rfl,rfl⟩
  | false =>
   simp only[cN,A1]
   rcases ih with ⟨j,h1,h2,h3⟩ | ⟨h1,h2,h3⟩
   .rw[h1,h2,h3];exact .inl ⟨j+1,rfl,rfl,rfl⟩
   rw[h1,h2,h3];exact .inr ⟨rfl,rfl,rfl⟩
theorem UX (hf:∀ x,keyFits P kt (F x)=true) (l:List (K×V)):(l.map fun p=>F p.1).all (keyFits P kt)=true:=by
 rw[List.all_map,D0]
 exact fun p _=>hf p.1
theorem Uq {t e:TypeId} {l:List (K×V)} {k:K} {z:V} (hk:(F k).keyV.isSome=true) (ht:Xe P t=some (kt,e)) (hf:∀ x,keyFits P kt (F x)=true) (he:∀ x y,akeq (F x) (F y)=eq x y) (hz:zeroA1 P e=some (G z)):alookup P t [] (mpE F G l) (F k)=some (G (mget eq z k l)):=by
 unfold alookup mpE;rw[ht];simp only[ZG];rw[hf,hk,UX hf];simp only[D1]
 rcases ZV (G:=G) he z k l with ⟨j,h1,h2⟩ | ⟨h1,h2⟩
 .rw[h1];exact h2
 rw[h1,h2];exact hz
theorem qao (h:wfI k i=true):(AV.int k i).keyV.isSome=true:=by
 simp only[AV.keyV,h];rfl
theorem qcB {j l:Int} (h:(wfI k i && wfI k j && wfI k l)=true):(AV.agg [.int k i,.int k j,.int k l]).keyV.isSome=true:=by
 rw[A5,A5]at h;simp only[AV.keyV,keyVs,h.1.1,h.1.2,h.2];rfl
def mupPre (P:Program) (all:LF) (o:Oper) (env:Env):Option (Nat×TypeId×AV×AV×LM×LM) :=
 match awanted all o env with
 | some true=>match o.op with
  | .mapUpdate t m k v=>match o.dst,aop env m,aop env k,aop env v,Xe P t with
   | none,some (.mb 0 id),some k,some v,some (kt,e)=>match v.mapElem,look env id with
    | true,some (.hob 0 ks vs)=>some (id,kt,k,v.strip,ks,vs)
    | _,_=>none
   | _,_,_,_,_=>none
  | _=>none
 | _=>none
theorem WO.mapK {draw:Bool} {all ops:LF} {Q:Env->Prop} {env e1:Env} {id kt:Nat} {l:List (K×V)} {a:K} {b:V} (k:Nat) (hk:(F a).keyV.isSome=true) (hn:D2 l.length 1000000000=true) (h:WO P n draw all (ops.drop (k+1)) Q e1)
  (hf:∀ x,keyFits P kt (F x)=true) (he:∀ x y,akeq (F x) (F y)=eq x y)
  (hp:stepsE P n draw all k ops env (fun os e=>match os with | o::_=>mupPre P all o e | []=>none)=some (id,kt,F a,G b,l.map (fun p=>F p.1),l.map (fun p=>G p.2)):=by kernel_rfl)
  (hs:stepsE P n draw all k ops env (fun os en=>some (ins id (hobE F G (mset eq a b l)) en))=some e1:=by kernel_rfl):WO P n draw all ops Q env:=by
 obtain⟨en,h1,h2⟩:=je hp;obtain⟨en',h3,h4⟩:=je hs;rw[h1]at h3;cases h3;cases h4;refine WO.steps k h1 ?_
 cases hos:ops.drop k with
 | nil=>rw[hos]at h2;cases h2
 | cons o rest =>
  rw[hos]at h2;rw[XW hos]at h;simp only[mupPre]at h2
  split at h2 <;> try cases h2
  rename_i hw
  split at h2 <;> try cases h2
  rename_i t m k0 v0 ho
  split at h2 <;> try cases h2
  rename_i id' k' v' kt' e' hd hm hk' hv ht
  split at h2 <;> try cases h2
  rename_i ks vs hel hl;simp only[Option.some.injEq,Prod.mk.injEq]at h2;obtain⟨rfl,rfl,rfl,hb,rfl,rfl⟩:=h2
  have hst:astep P n o en=some (ins id' (hobE F G (mset eq a b l)) en):=by
   unfold astep;rw[ho];simp only[hd,hm,hk',hv,ht,hl];rw[hf,hk,UX hf,hel,A3,hn];simp only[D1];unfold hobE
   rcases Da (G:=G) he a b l with ⟨j,g1,g2,g3⟩ | ⟨g1,g2,g3⟩
   .rw[g1,g2,g3,hb]
   rw[g1,g2,g3,hb]
  refine WO.step (e1:=ins id' (hobE F G (mset eq a b l)) en) ?_ h;unfold step1;rw[hw]
  cases draw with
  | true =>
   have:isEff o.op=true:=by rw[ho];rfl
   refine Zc (Ug (by rw[ho];rfl)) ?_;unfold astepD;simp only[this,hst]
  | false=>exact hst
end Go.AM
namespace Go.AM
open Go.RowKit
variable {K:Act->World->Prop} {Q:Exit->Act->World->Prop} {draw:Bool} {x:AV} {d:LP} {f:Nat} {args:LM}
section
variable {bs:Base} {n:Nat} {M:Mem} {O:Gh} {env:Env} {a:Act} {w:World} {P:Program}
theorem ZE {o:Oper} {env':Env} (h:Leads P bs n o a w env') (hK:∀ a' w' M' O',Inv bs n M' O' env' a' w'->K a' w'):o.wp P a w K Q:=by
 obtain⟨v,w',M',O',h1,h2⟩:=h;unfold Oper.wp
 rcases h1 with h1 | ⟨h1,rfl⟩ <;> rw[h1] <;> exact hK _ _ _ _ h2
theorem jl (h:Inv bs n M O env a w) {all:LF} {o:Oper} {b:Bool} (hw:awanted all o env=some b):D6 o (yielded all.toArray a.tmps)=b:=by
 unfold awanted at hw;unfold D6;split at hw
 .rename_i hg;rw[hg];cases hw;rfl
 rename_i j want hg;rw[hg];simp only;split at hw
 .cases hw
 rename_i t ht;split at hw
 .rename_i c hl;cases hw;have hs:=h.slots t _ hl;have hv:a.tmps.getD t undef=.bool c:=hs.1.bool_inv
  have ht':((all.toArray[j]?).bind (·.dst))=some t:=by simpa using ht
  unfold yielded;rw[ht'];simp only[Option.bind_some]
  have hget:a.tmps[t]? = some (.bool c):=by
   cases hx:a.tmps[t]? with
   | none =>
    rw[D3,hx]at hv;simp[undef]at hv
   | some y =>
    rw[D3,hx]at hv;simp at hv;rw[hv]
  rw[hget];cases c <;> cases want <;> rfl
 .rename_i hl;cases hw;have hs:=h.slots t _ hl
  have hv:a.tmps.getD t undef=undef:=by
   have:=hs.1;generalize a.tmps.getD t undef=y at this;cases this;rfl
  have ht':((all.toArray[j]?).bind (·.dst))=some t:=by simpa using ht
  unfold yielded;rw[ht'];simp only[Option.bind_some]
  cases hx:a.tmps[t]? with
  | none=>rfl
  | some y =>
   rw[D3,hx]at hv;simp at hv;subst hv;rfl
 cases hw
def StepSem (P:Program) (n:Nat) (all:LF) (o:Oper) (e e1:Env):Prop :=
 ∀ (bs:Base) (M:Mem) (O:Gh) (a:Act) (w:World),Inv bs n M O e a w->∀ (K:Act->World->Prop) (Q:Exit->Act->World->Prop),(∀ a' w' M' O',Inv bs n M' O' e1 a' w'->K a' w') ->
  if D6 o (yielded all.toArray a.tmps) then o.wp P a w K Q else K (a.put o.dst undef) w
def insO (d:LP) (x:AV) (E:Env):Env :=
 match d with
 | some t=>ins t x E
 | none=>E
def lookS (env:Env) (t:Nat):Lb:=(look env t).map AV.sk
def NA (all:LF) (o:Oper) (e E:Env):Prop:=∀ t,t∈namesOf all.toArray o->∀ y,lookS e t=some y->lookS E t=some y
def EA (e E:Env):Prop:=∀ s x,x.ent=true->look e s=some x->look E s=some x
def Pure1 (P:Program) (n:Nat) (all:LF) (o:Oper) (e e1:Env):Prop :=
 ∃ x,eput n o.dst x e=some e1/\x.ent=false/\∀ E,NA all o e E->(memFree o.op=true\/EA e E)->StepSem P n all o E (insO o.dst x E)
def St1 (P:Program) (n:Nat) (all:LF) (o:Oper) (e e1:Env):Prop :=
 isStore o.op=true/\o.dst=none/\∃ s x x',look e s=some x/\x.ent=true/\x'.ent=true/\x'.sk=x.sk/\e1=ins s x' e/\∀ E,NA all o e E->look E s=some x->StepSem P n all o E (ins s x' E)
def LE (E F:Env):Prop:=∀ t,look E t=look F t
def ClearL (id:Nat) (E:Env):Prop:=look E id=none/\∀ s x,look E s=some x->x.refs id=false
def Unord (all:LF) (o x:Oper):Prop:=∃ k i,all[k]? = some o/\all[i]? = some x/\i≠k/\((A6 all.toArray).getD k 0).testBit i=false/\((A6 all.toArray).getD i 0).testBit k=false
def IsA (P:Program) (n:Nat) (all:LF) (o:Oper) (E E1:Env):Prop :=
 isMk o.op=true/\∃ (d:Nat) (x y:AV),o.dst=some d/\x.ent=false/\ClearL (1000000+d) E/\LE (ins (1000000+d) y (ins d x E)) E1/\∀ F,NA all o E F->ClearL (1000000+d) F->look F d=none->StepSem P n all o F (ins (1000000+d) y (ins d x F))
def IsB (P:Program) (n:Nat) (all:LF) (o:Oper) (E E1:Env):Prop :=
 isApp o.op=true/\((∀ x,¬ Unord all o x)\/∃ (d:Nat) (v:AV) (g:AV->AV),o.dst=some d/\LE (ins d v (E.map fun p=>(p.1,g p.2))) E1/\(∀ x,plainV (some x)=true->g x=x) /\
  (∀ x,Unord all o x->∀ t,t∈namesOf all.toArray x->plainV (look E t)=true)/\∀ F,NA all o E F->look F d=none->StepSem P n all o F (ins d v (F.map fun p=>(p.1,g p.2))))
def Hard (P:Program) (n:Nat) (all:LF) (o:Oper) (e e1:Env):Prop :=
 (isEff o.op=true/\isStore o.op=false)/\(∀ t,t<1000000->o.dst≠some t->look e t=none->look e1 t=none)/\(o.guard=none->isMk o.op=true->IsA P n all o e e1)/\(o.guard=none->isApp o.op=true->IsB P n all o e e1)
def StepOk (P:Program) (n:Nat) (draw:Bool) (all:LF) (o:Oper) (e e1:Env):Prop :=
 StepSem P n all o e e1/\(draw=true->Hard P n all o e e1\/St1 P n all o e e1\/((isEff o.op=false\/isStore o.op=true)/\Pure1 P n all o e e1))
inductive Chain (P:Program) (n:Nat) (draw:Bool) (all:LF):LF->Env->Env->Prop where
 | nil {e}:Chain P n draw all [] e e
 | drop {rest e e'} (e0:Env):draw=false->(∀ (bs:Base) (M:Mem) (O:Gh) (a:Act) (w:World),Inv bs n M O e a w->∃ M' O',Inv bs n M' O' e0 a w)->Chain P n draw all rest e0 e'->Chain P n draw all rest e e'
 | step {o rest e e1 e'}:StepOk P n draw all o e e1->Chain P n draw all rest e1 e'->Chain P n draw all (o::rest) e e'
theorem Dd {all rest:LF} {e e':Env} (hc:Chain P n draw all rest e e'):∀ {M:Mem} {O:Gh} {a:Act} {w:World},Inv bs n M O e a w->∀ {Q:Exit->Act->World->Prop},(∀ a' w' M' O',Inv bs n M' O' e' a' w'->Q .normal a' w')->wpList P all.toArray Q rest a w:=by
 induction hc with
 | nil=>intro M O a w h Q hQ;exact hQ _ _ _ _ h
 | drop e0 _ hw _ ih =>
  intro M O a w h Q hQ;obtain⟨M',O',h'⟩:=hw _ M O a w h;exact ih h' hQ
 | step hs _ ih =>
  intro M O a w h Q hQ;have:=hs.1 bs M O a w h (wpList P all.toArray Q _) Q (fun a' w' M' O' h'=>ih h' hQ);simp only[wpList];split at this
  .rename_i hw;rw[if_pos hw];exact .inl this
  rename_i hw;rw[if_neg hw];exact this
theorem qhi {id:Nat} {ops:Lj} {e e':Env} (hc:Chain P n false ops.toList ops.toList e e') (h:Inv bs n M O e a w) (hQ:∀ a' w' M' O',Inv bs n M' O' e' a' w'->Q .normal a' w'):(Code.region id ops false).wp P Q a w:=by
 refine wp_region_list ?_;have:=Dd hc h hQ
 simpa using this
theorem qjR {all:LF} {o:Oper} {e e1:Env} (hw:awanted all o e=some false) (he:eput n o.dst .und e=some e1):StepSem P n all o e e1:=by
 intro bs M O a w h K Q hK;rw[jl h hw];simp only[Bool.false_eq_true,if_false];exact hK _ _ _ _ (Yi h (x:=.und) ⟨.und,trivial⟩ he)
theorem DW {all:LF} {o:Oper} {e e1:Env} (hw:awanted all o e=some true) (he:astep P n o e=some e1):StepSem P n all o e e1:=by
 intro bs M O a w h K Q hK;rw[jl h hw];simp only[if_true];exact ZE (qbD h he) hK
theorem qjQ {all:LF} {o:Oper} {e e1:Env} (hw:awanted all o e=some true) (he:arow P n o e=some e1):StepSem P n all o e e1:=by
 intro bs M O a w h K Q hK;rw[jl h hw];simp only[if_true];exact ZE (qhW h he) hK
theorem qjT {all:LF} {o:Oper} {e e1:Env} (hw:awanted all o e=some true) (he:aagr P n o e=some e1):StepSem P n all o e e1:=by
 intro bs M O a w h K Q hK;rw[jl h hw];simp only[if_true];exact ZE (qhY h he) hK
theorem qiN {all:LF} {o:Oper} {e e1:Env} (hw:awanted all o e=some true) (hx:apure P o e=some x) (he:eput n o.dst x e=some e1):StepSem P n all o e e1:=by
 intro bs M O a w h K Q hK;rw[jl h hw];simp only[if_true];exact ZE (Nj h hx he) hK
theorem NZ (h:Inv bs n M O env a w) {v:Value} (hv:ValOk O M w x v) (hd:∀ t,d=some t->t<n):Inv bs n M O (insO d x env) (a.put d v) w:=by
 cases d with
 | none=>exact h
 | some t=>exact h.put (hd t rfl) hv
theorem QK {e e1:Env} (he:eput n d x e=some e1):e1=insO d x e/\(∀ t,d=some t->t<n)/\∀ t,d=some t->∀ y,look e t=some y->y.ent=false:=by
 cases d with
 | none=>cases he;exact⟨rfl,(fun t e=>by cases e),(fun t e=>by cases e)⟩
 | some t =>
  obtain⟨h1,h2,h3⟩:=Um he;exact⟨h2,(fun t' e=>by cases e;exact h1),fun t' e y hy=>by cases e;exact h3 y hy⟩
theorem qaB {all:LF} {o:Oper} {e:Env} {r:AV} (hc:acallee P o e=some (f,args)) (hr:CallOk P f args r) (h:Inv bs n M O e a w) 
  (hK:∀ v w' M',Inv bs n M' O e a w'->R M' r v->OwnR M' w.heap.size w' r v->(∀ i c g,O i c=some g->g<w.heap.size)->(∀ g,w.heap.size<=g->¬ bs.D g)->K (a.put o.dst v) w'):o.wp P a w K Q:=by
 obtain⟨vs,h1,h2,h3⟩:=Nt h hc;unfold Oper.wp;rw[h1];show Calls P f vs.toArray w _;refine (hr M w vs h.glob h.cons h2 h3).mono ?_
 rintro ed w' ⟨v,M',rfl,hb,hs,hC,ho,hR,hO⟩
 exact hK v w' M' (h.grown (row:=none) (fun g e=>by cases e) (UE hb) hs hC (fun b o hb _=>ho b o hb)) hR hO (fun i c g hg=>(h.own i c g hg).2) (fun g hg=>h.fresh hg)
theorem qbB {all:LF} {o:Oper} {e:Env} {r:AV} (hc:XI P o e=some (f,args)) (hp:r.plain=true) (hr:CallOk P f args r) (h:Inv bs n M O e a w) 
  (hK:∀ v w',Inv bs n M O e a w'->R M r v->K (a.put o.dst v) w'):o.wp P a w K Q:=by
 obtain⟨vs,h1,h2,h3⟩:=qdz h hc;unfold Oper.wp;rw[h1];show Calls P f vs.toArray w _;refine (hr _ w vs (h.glob.mono (YL h)) (qjp h) h2 h3).mono ?_
 rintro ed w' ⟨v,M',rfl,hb,hs,hC,ho,hR,hO⟩
 exact hK v w' (h.grown (row:=none) (fun g e=>by cases e) (UE hb) (Sub.refl M) (fun b o u hu=>hC b o u (hs b o u (YL h b o u hu))) (fun b o hb _=>rfl)) (qls hp hR)
theorem XJ (x:AV):x.strip.lab? = none:=by cases x <;> rfl
theorem qgY {all:LF} {o:Oper} {e e1:Env} {r:AV} (hw:awanted all o e=some true) (hc:XI P o e=some (f,args)) (hp:r.plain=true) (hr:CallOk P f args r) (he:eput n o.dst r e=some e1):StepSem P n all o e e1:=by
 intro bs M O a w h K Q hK;rw[jl h hw];simp only[if_true]
 exact qbB (all:=all) hc hp hr h fun v w' h' hR=>hK _ _ _ _ (Yi h' (Jl hR (qea hp)) he)
theorem qiO {all:LF} {o:Oper} {e e1:Env} {r:AV} (hw:awanted all o e=some true) (hc:acallee P o e=some (f,args)) (hr:CallOk P f args r) (he:callPut n draw o.dst r e=some e1):StepSem P n all o e e1:=by
 intro bs M O a w h K Q hK;rw[jl h hw];simp only[if_true]
 refine qaB (all:=all) hc hr h fun v w' M' h' hR hO hlt hB=>?_
 have plain:eput n o.dst r.strip e=some e1->K (a.put o.dst v) w':=fun he=>hK _ _ _ _ (Yi h' (Jl hR.strip (XJ r)) he)
 unfold callPut at he;split at he
 .split at he
  .exact plain he
  cases he
 split at he
 .rename_i c hl
  cases r with
  | lst el k lab xs =>
   cases lab with
   | none=>cases hl
   | some c' =>
    simp only[AV.strip]at he plain
    cases hd:o.dst with
    | none=>rw[hd]at he plain;exact plain he
    | some d =>
     rw[hd]at he plain;simp only[fresh]at he;split at he
     .exact plain he
     rename_i hlab;obtain⟨hdn,rfl⟩:=Un he
     have hput:∃ O',Inv bs n M' O' (ins d (.lst el k (some d) xs) e) (a.put (some d) v) w':=by
      rcases hO with hv | ⟨g,off,cap,cur,q1,q2,q3,q4,q5,q6,q7⟩
      .exact h'.putFresh (g:=0) (off:=0) (cap:=0) (cur:=#[]) hdn hlab hR.setLab (.inl hv)
      exact h'.putFresh hdn hlab hR.setLab (.inr ⟨q1,hB g q2,fun i c hc=>by have:=hlt i c _ hc;omega,q3,q4,q5,q6,q7⟩)
     obtain⟨O',hput⟩:=hput;exact hK _ _ _ _ hput
  | _=>cases hl
 exact plain he
end
end Go.AM
namespace Go.AM
open Go.RowKit
variable {m p v x y:AV} {E e e1:Env} {t:TypeId} {o:Oper} {f off s:Nat} {args vs:LM}
section
variable {n:Nat} {P:Program}
def Knows (e E:Env) (xs:List Operand):Prop:=∀ x,x∈xs->∀ v,aop e x=some v->aop E x=some v
theorem qjV (x:AV):x.sk.ent=x.ent:=by cases x <;> rfl
theorem qig (h:x.ent=false):x.sk=x:=by cases x <;> first | rfl | cases h
theorem qjJ {t:Nat} (h:∀ y,lookS e t=some y->lookS E t=some y) (hv:aop e (.tmp t)=some v):aop E (.tmp t)=some v:=by
 simp only[aop]at hv ⊢
 cases hl:look e t with
 | none=>rw[hl]at hv;cases hv
 | some y =>
  have:=h y.sk (by simp[lookS,hl]);simp only[lookS]at this
  cases hL:look E t with
  | none=>rw[hL]at this;cases this
  | some Y =>
   rw[hL]at this;simp only[F7,Option.some.injEq]at this;rw[hl]at hv
   cases y <;> cases Y <;> simp only[AV.sk]at this <;> first | (cases this;exact hv) | (cases this;done) | exact hv | (simp at hv;done)
theorem qkA {ts:LQ} (h:∀ t,t∈ts->∀ y,lookS e t=some y->lookS E t=some y) {xs:List Operand} (hx:∀ x t,x∈xs->x=.tmp t->t∈ts):Knows e E xs:=by
 intro x hxm v hv
 cases x with
 | tmp t=>exact qjJ (h t (hx _ t hxm rfl)) hv
 | _=>exact hv
theorem VA {e E:Env}:∀ {xs:List Operand} {l:LM},Knows e E xs->optAll (xs.map (aop e))=some l->optAll (xs.map (aop E))=some l
 | [],l,_,h=>h
 | x::xs,l,hk,h=>by
  simp only[A1]at h ⊢
  cases hx:aop e x with
  | none=>rw[hx]at h;cases h
  | some v =>
   rw[hx]at h;rw[hk x (A8 ..) v hx];simp only[optAll]at h ⊢;split at h
   .rename_i l' hl';rw[VA (fun y hy=>hk y (A9 _ hy)) hl'];exact h
   cases h
theorem NS {e E:Env}:∀ {ps:List (Nat×Operand)} {l:Lh},Knows e E (ps.map (·.2)) ->
  optAll (ps.map fun p=>match aop e p.2 with | some v=>some (p.1,v) | none=>none)=some l->optAll (ps.map fun p=>match aop E p.2 with | some v=>some (p.1,v) | none=>none)=some l
 | [],l,_,h=>h
 | (i,x)::ps,l,hk,h=>by
  simp only[A1]at h ⊢ hk
  cases hx:aop e x with
  | none=>rw[hx]at h;cases h
  | some v =>
   rw[hx]at h;rw[hk x (A8 ..) v hx];simp only[optAll]at h ⊢;split at h
   .rename_i l' hl';rw[NS (fun y hy=>hk y (A9 _ hy)) hl'];exact h
   cases h
theorem UK {d:Int} {x:Option Operand} (hk:Knows e E x.toList) {m:Int} (h:aoptInt e d x=some m):aoptInt E d x=some m:=by
 cases x with
 | none=>exact h
 | some y =>
  simp only[aoptInt]at h ⊢;split at h
  .rename_i k m' hy;rw[hk y (by simp) _ hy];exact h
  cases h
theorem qgS {r:AV} (hb:EA e E) (h:aload P e t p=some r):aload P E t p=some r:=by
 unfold aload at h ⊢;split at h
 .rename_i s off;split at h
  .rename_i cs hl;simp only[hb s _ rfl hl];exact h
  .rename_i cs hl;simp only[hb s _ rfl hl];exact h
  .rename_i ks cs hl;simp only[hb s _ rfl hl];exact h
  cases h
 .exact h
 .rename_i id k j o;split at h
  .rename_i e' k' xs hl;simp only[hb id _ rfl hl];exact h
  cases h
 cases h
theorem qdx {q:LM×LM} (hb:EA e E) (h:ZG e m=some q):ZG E m=some q:=by
 unfold ZG at h ⊢;split at h
 .exact h
 .rename_i id;split at h
  .rename_i ks vs hl;simp only[hb id _ rfl hl];exact h
  cases h
 cases h
theorem qdD {k r:AV} (hb:EA e E) (h:alookup P t e m k=some r):alookup P t E m k=some r:=by
 unfold alookup at h ⊢;split at h
 .rename_i kt et ks vs ht he;simp only[ht,qdx hb he];exact h
 cases h
theorem qfp {r:AV} {lo hi:Option Operand} (hk:Knows e E (lo.toList++hi.toList)) (h:aslice P t p lo hi e=some r):aslice P t p lo hi E=some r:=by
 have h1:∀ d m,aoptInt e d lo=some m->aoptInt E d lo=some m:=fun d m=>UK fun x hx=>hk x (G1 _ hx)
 have h2:∀ d m,aoptInt e d hi=some m->aoptInt E d hi=some m:=fun d m=>UK fun x hx=>hk x (F8 _ hx)
 unfold aslice at h ⊢;split at h
 .split at h
  .split at h
   .split at h
    .rename_i l m hl hm;simp only[h1 _ _ hl,h2 _ _ hm];simp_all
    cases h
   cases h
  cases h
 .split at h
  .split at h
   .split at h
    .rename_i l m hl hm;simp only[h1 _ _ hl,h2 _ _ hm];simp_all
    cases h
   cases h
  cases h
 .split at h
  .split at h
   .rename_i l m hl hm;simp only[h1 _ _ hl,h2 _ _ hm];simp_all
   cases h
  cases h
 .split at h
  .split at h
   .rename_i l m hl hm;simp only[h1 _ _ hl,h2 _ _ hm];simp_all
   cases h
  cases h
 cases h
theorem Hj (hk:Knows e E o.op.operands.toList) (hb:memFree o.op=true\/EA e E) (h:apure P o e=some x):apure P o E=some x:=by
 obtain⟨dst,op,ty,pos,after,guard⟩:=o
 cases op with
 | move y=>exact hk y (by simp[Op.operands]) _ h
 | assign y=>exact hk y (by simp[Op.operands]) _ h
 | pick c p q =>
  simp only[apure]at h ⊢;split at h
  .rename_i hc;rw[hk c (by simp[Op.operands]) _ hc];exact hk p (by simp[Op.operands]) _ h
  .rename_i hc;rw[hk c (by simp[Op.operands]) _ hc];exact hk q (by simp[Op.operands]) _ h
  cases h
 | binOp op t y z t' =>
  simp only[apure]at h ⊢;split at h
  .rename_i p q hp hq;rw[hk y (by simp[Op.operands]) _ hp,hk z (by simp[Op.operands]) _ hq];exact h
  cases h
 | unOp op t y =>
  simp only[apure]at h ⊢;split at h
  .rename_i p hp;rw[hk y (by simp[Op.operands]) _ hp];exact h
  cases h
 | convert s t y =>
  simp only[apure]at h ⊢;split at h
  .rename_i p hp;rw[hk y (by simp[Op.operands]) _ hp];exact h
  cases h
 | build t ps =>
  simp only[apure]at h ⊢;split at h
  .rename_i l hl;have:parts? E ps=some l:=NS (by simpa[Op.operands] using hk) hl;rw[this];exact h
  cases h
 | buildSlice t m ps =>
  simp only[apure]at h ⊢;split at h
  .rename_i l hl;have:parts? E ps=some l:=NS (by simpa[Op.operands] using hk) hl;rw[this];exact h
  cases h
 | load t y =>
  simp only[apure]at h ⊢;split at h
  .rename_i p hp;rw[hk y (by simp[Op.operands]) _ hp]
   rcases hb with hb | hb
   .cases hb
   exact qgS hb h
  cases h
 | fieldAddr t y f =>
  simp only[apure]at h ⊢;split at h
  .rename_i p hp;rw[hk y (by simp[Op.operands]) _ hp];exact h
  cases h
 | field t y f =>
  simp only[apure]at h ⊢;split at h
  .rename_i cs o' ft sz hp hf;rw[hk y (by simp[Op.operands]) _ hp,hf];exact h
  .rename_i cs o' ft sz hp hf;rw[hk y (by simp[Op.operands]) _ hp,hf];exact h
  cases h
 | indexAddr t y i =>
  simp only[apure]at h ⊢;split at h
  .rename_i p q hp hq;rw[hk y (by simp[Op.operands]) _ hp,hk i (by simp[Op.operands]) _ hq];exact h
  cases h
 | index t y i =>
  simp only[apure]at h ⊢;split at h
  .rename_i p q hp hq;rw[hk y (by simp[Op.operands]) _ hp,hk i (by simp[Op.operands]) _ hq];exact h
  cases h
 | slice t y lo hi mx =>
  cases mx with
  | some mx =>
   cases hi with
   | none=>simp[apure]at h
   | some hi =>
    simp only[apure]at h ⊢;split at h
    case h_2=>cases h
    rename_i e0 k0 lab xs k2 m hp hm;simp only[hk y (by simp[Op.operands]) _ hp,hk mx (by simp[Op.operands]) _ hm];split at h
    case h_2=>cases h
    rename_i e' k' hse;split at h
    case h_2=>cases h
    rename_i l k1 c hkk hl hh;simp only[hse,hkk,UK (E:=E) (fun z hz=>hk z (by simp[Op.operands]at hz ⊢;exact .inr (.inl hz))) hl,hk hi (by simp[Op.operands]) _ hh];exact h
  | none =>
   simp only[apure]at h ⊢;split at h
   .rename_i p hp;rw[hk y (by simp[Op.operands]) _ hp];refine qfp (fun z hz=>hk z ?_) h;simp only[Op.operands];simp at hz ⊢
    rcases hz with hz | hz
    .exact .inr (.inl hz)
    exact .inr (.inr hz)
   cases h
 | lookup t y k c =>
  cases c with
  | true=>simp[apure]at h
  | false =>
   have hb:EA e E:=by
    rcases hb with hb | hb
    .simp[memFree]at hb
    exact hb
   simp only[apure]at h ⊢;split at h
   .rename_i p q hp hq;rw[hk y (by simp[Op.operands]) _ hp,hk k (by simp[Op.operands]) _ hq];simp only;rw[Option.map_eq_some_iff]at h ⊢;obtain⟨r,hr,e1⟩:=h;exact⟨r,qdD hb hr,e1⟩
   cases h
 | entry y =>
  have hb:EA e E:=by
   rcases hb with hb | hb
   .simp[memFree]at hb
   exact hb
  simp only[apure]at h ⊢;split at h
  .rename_i id hp;rw[hk y (by simp[Op.operands]) _ hp];simp only;split at h
   .rename_i k ks v vs hl;simp only[hb id _ rfl hl];exact h
   cases h
  cases h
 | makeFunc fn first caps =>
  cases fn <;> simp only[apure]at h ⊢ <;> try (cases h;done)
  split at h
  .rename_i l hf hl;rw[VA (fun z hz=>hk z (by simp[Op.operands];exact .inr (by simpa using hz))) hl];simp only[hf];exact h
  cases h
 | extract y i =>
  simp only[apure]at h ⊢;split at h
  .rename_i vs hp;rw[hk y (by simp[Op.operands]) _ hp];exact h
  .rename_i id e' k off m rest hp;rw[hk y (by simp[Op.operands]) _ hp];exact h
  cases h
 | nilCheck y =>
  simp only[apure]at h ⊢;split at h
  .rename_i z hp;rw[hk y (by simp[Op.operands]) _ hp];exact h
  .rename_i b z hp;rw[hk y (by simp[Op.operands]) _ hp];exact h
  .rename_i s m hp;rw[hk y (by simp[Op.operands]) _ hp];exact h
  cases h
 | call c =>
  obtain⟨callee,args,ats⟩:=c
  cases callee with
  | value f=>simp[apure]at h
  | invoke r m=>simp[apure]at h
  | builtin b =>
   have hka:∀ y,y∈args.toList->∀ v,aop e y=some v->aop E y=some v:=fun y hy=>hk y (by simp[Op.operands,Call.operands];simpa using hy)
   cases b <;> simp only[apure]at h ⊢ <;> try (cases h;done)
   case len =>
    split at h
    .rename_i y t ha ht;split at h
     .rename_i p hp;rw[hka y (by rw[ha];simp) _ hp];exact h
     cases h
    cases h
   case max =>
    split at h
    .rename_i y z ha;split at h
     .rename_i k p k' q hp hq;rw[hka y (by rw[ha];simp) _ hp,hka z (by rw[ha];simp) _ hq];exact h
     cases h
    cases h
   case min =>
    split at h
    .rename_i y z ha;split at h
     .rename_i k p k' q hp hq;rw[hka y (by rw[ha];simp) _ hp,hka z (by rw[ha];simp) _ hq];exact h
     cases h
    cases h
 | _=>simp[apure]at h
theorem qdE (hk:Knows e E o.op.operands.toList) (h:acallee P o e=some (f,args)):acallee P o E=some (f,args):=by
 unfold acallee at h ⊢;split at h
 case h_2=>cases h
 rename_i fo as ats ho;rw[ho]at hk;split at h
 case h_2=>cases h
 rename_i g caps l hf hl;have h1:=hk fo (by simp[Op.operands,Call.operands]) _ hf;have h2:=VA (E:=E) (fun z hz=>hk z (by simp[Op.operands,Call.operands];exact .inr (by simpa using hz))) hl;simp only[h1,h2];exact h
theorem JE {all:LF} {b:Bool} (hk:NA all o e E) (h:awanted all o e=some b):awanted all o E=some b:=by
 unfold awanted at h ⊢;split at h
 .exact h
 rename_i j want hg;split at h
 .cases h
 rename_i t ht
 have hmem:t∈namesOf all.toArray o:=by
  unfold namesOf;rw[hg];refine F8 _ ?_
  have ht':(all.toArray[j]?.bind fun x=>x.dst)=some t:=by simpa using ht
  simp only[ht'];simp
 have key:∀ y,y.ent=false->look e t=some y->look E t=some y:=by
  intro y hy hl;have:=hk t hmem y (by simp[lookS,hl,qig hy]);simp only[lookS]at this
  cases hL:look E t with
  | none=>rw[hL]at this;cases this
  | some Y =>
   rw[hL]at this;simp only[F7,Option.some.injEq]at this
   have hY:Y.ent=false:=by rw[<- qjV,this];exact hy
   rw[qig hY]at this;rw[this]
 split at h
 .rename_i c hl;simp only[ht,key _ rfl hl];exact h
 .rename_i hl;simp only[ht,key _ rfl hl];exact h
 cases h
theorem Xg {all:LF} (hk:NA all o e E):Knows e E o.op.operands.toList:=by
 refine qkA hk fun x t hx ht=>?_
 subst ht;unfold namesOf;refine G1 _ (F8 _ ?_);exact List.mem_filterMap.2 ⟨_,hx,rfl⟩
theorem qkl {all:LF} (hw:awanted all o e=some true) (hx:apure P o e=some x) (he:eput n o.dst x e=some e1) (hnb:x.ent=false):Pure1 P n all o e e1:=by
 refine⟨x,he,hnb,fun E hk hb=>?_⟩;obtain⟨_,hd,_⟩:=QK he;intro bs M O a w h K Q hK;rw[jl h (JE hk hw)];simp only[if_true];obtain⟨v,w',M',h1,h2,h3,h4,h5,h6⟩:=DA h (Hj (Xg hk) hb hx);have h':=h.grown (row:=none) (fun g e=>by cases e) h2 h3 h4 (fun b o hb _=>h5 b o hb);unfold Oper.wp;rw[h1];exact hK _ _ _ _ (NZ h' h6 hd)
theorem qdZ {all:LF} (hw:awanted all o e=some false) (he:eput n o.dst .und e=some e1):Pure1 P n all o e e1:=by
 refine⟨.und,he,rfl,fun E hk hb=>?_⟩;obtain⟨_,hd,_⟩:=QK he;intro bs M O a w h K Q hK;rw[jl h (JE hk hw)];simp only[Bool.false_eq_true,if_false];exact hK _ _ _ _ (NZ h (x:=.und) ⟨.und,trivial⟩ hd)
theorem qhr {all:LF} {r:AV} (hw:awanted all o e=some true) (hc:acallee P o e=some (f,args)) (hr:CallOk P f args r) (he:callPut n true o.dst r e=some e1):Pure1 P n all o e e1:=by
 have he':notBox r.strip=true/\eput n o.dst r.strip e=some e1:=by
  unfold callPut at he;simp only at he;split at he
  .rename_i hb;exact⟨hb,he⟩
  cases he
 obtain⟨hnb,he⟩:=he';refine⟨r.strip,he,by simpa[notBox] using hnb,fun E hk hb=>?_⟩;obtain⟨_,hd,_⟩:=QK he;intro bs M O a w h K Q hK;rw[jl h (JE hk hw)];simp only[if_true]
 exact qaB (all:=all) (qdE (Xg hk) hc) hr h fun v w' M' h' hR _ _ _=>hK _ _ _ _ (NZ h' (Jl hR.strip (XJ r)) hd)
theorem qjI (hb:EA e E) (h:asnapC e x=some y):asnapC E x=some y:=by
 unfold asnapC at h ⊢;split at h
 .rename_i id;split at h
  .rename_i ks vs hl;simp only[hb id _ rfl hl];exact h
  cases h
 .rename_i id e' k off m;split at h
  .rename_i e2 k2 xs hl;simp only[hb id _ rfl hl];exact h
  cases h
 exact h
theorem Nk {e E:Env} (hb:EA e E):∀ {caps l:LM},optAll (caps.map (asnapC e))=some l->optAll (caps.map (asnapC E))=some l
 | [],l,h=>h
 | x::xs,l,h=>by
  simp only[A1]at h ⊢
  cases hx:asnapC e x with
  | none=>rw[hx]at h;cases h
  | some v =>
   rw[hx]at h;rw[qjI hb hx];simp only[optAll]at h ⊢;split at h
   .rename_i l' hl';rw[Nk hb hl'];exact h
   cases h
theorem qeG (hb:EA e E) (h:asnapP e x=some y):asnapP E x=some y:=by
 unfold asnapP at h ⊢;split at h
 .exact h
 .rename_i s;split at h
  .rename_i c hl;simp only[hb s _ rfl hl];exact h
  .rename_i cs hne hl;simp only[hb s _ rfl hl];exact h
  .rename_i cs hl;simp only[hb s _ rfl hl];split at h
   .rename_i c hl';rw[Nk hb hl'];exact h
   .rename_i l hne hl';rw[Nk hb hl']
    cases l with
    | nil=>exact h
    | cons c l=>cases l with
     | nil=>exact absurd rfl (hne c)
     | cons c2 l=>exact h
   cases h
  cases h
 cases h
theorem qcw {e E:Env} (hb:EA e E):∀ {caps l:LM},optAll (caps.map (asnapP e))=some l->optAll (caps.map (asnapP E))=some l
 | [],l,h=>h
 | x::xs,l,h=>by
  simp only[A1]at h ⊢
  cases hx:asnapP e x with
  | none=>rw[hx]at h;cases h
  | some v =>
   rw[hx]at h;rw[qeG hb hx];simp only[optAll]at h ⊢;split at h
   .rename_i l' hl';rw[qcw hb hl'];exact h
   cases h
theorem qla (hb:EA e E) (h:asnap e x=some y):asnap E x=some y:=by
 cases x with
 | mb kd id =>
  cases kd with
  | succ kd=>simp[asnap]at h
  | zero =>
   simp only[asnap]at h ⊢;split at h
   .rename_i ks vs hl;simp only[hb id _ rfl hl];exact h
   cases h
 | clb f caps =>
  simp only[asnap]at h ⊢;split at h
  .rename_i l hl;rw[qcw hb hl];exact h
  cases h
 | sb id e' k off m =>
  simp only[asnap]at h ⊢;split at h
  .rename_i e2 k2 xs hl;simp only[hb id _ rfl hl];exact h
  cases h
 | pb s o =>
  simp only[asnap]at h ⊢;exact qeG hb h
 | agr cs =>
  simp only[asnap]at h ⊢;split at h
  .rename_i l hl;rw[Nk hb hl];exact h
  cases h
 | _=>first | exact h | cases h
theorem qdf (hk:Knows e E o.op.operands.toList) (hb:EA e E) (h:XI P o e=some (f,args)):XI P o E=some (f,args):=by
 unfold XI at h ⊢;split at h
 case h_2=>cases h
 rename_i fo as ats ho;rw[ho]at hk;split at h
 case h_2=>cases h
 rename_i g caps l hf hl;have h1:=hk fo (by simp[Op.operands,Call.operands]) _ hf;have h2:=VA (E:=E) (fun z hz=>hk z (by simp[Op.operands,Call.operands];exact .inr (by simpa using hz))) hl;simp only[h1,h2];split at h
 case h_2=>cases h
 rename_i fn hfn;split at h
 case h_2=>cases h
 rename_i l' hb' hl'
 have h3:∀ {l l':LM},optAll (l.map (asnap e))=some l'->optAll (l.map (asnap E))=some l':=by
  intro l
  induction l with
  | nil=>intro l' h;exact h
  | cons x l ih =>
   intro l' h;simp only[A1]at h ⊢
   cases hx:asnap e x with
   | none=>rw[hx]at h;cases h
   | some v =>
    rw[hx]at h;rw[qla hb hx];simp only[optAll]at h ⊢;split at h
    .rename_i l2 hl2;rw[ih hl2];exact h
    cases h
 simp only[hfn,hb',h3 hl'];exact h
theorem qjg (hp:x.plain=true):x.ent=false:=by cases x <;> first | rfl | cases hp
theorem qfW {all:LF} {r:AV} (hw:awanted all o e=some true) (hc:XI P o e=some (f,args)) (hp:r.plain=true) (hr:CallOk P f args r) (he:eput n o.dst r e=some e1):Pure1 P n all o e e1:=by
 have hmf:memFree o.op=false:=by
  unfold XI at hc;split at hc
  case h_2=>cases hc
  rename_i fo as ats ho;rw[ho];rfl
 refine⟨r,he,qjg hp,fun E hk hb=>?_⟩
 rcases hb with hb | hb
 .rw[hmf]at hb;cases hb
 obtain⟨_,hd,_⟩:=QK he;intro bs M O a w h K Q hK;rw[jl h (JE hk hw)];simp only[if_true]
 exact qbB (all:=all) (qdf (Xg hk) hb hc) hp hr h fun v w' h' hR=>hK _ _ _ _ (NZ h' (Jl hR (qea hp)) hd)
theorem qhp (h:putRow s e off vs=some e1):∃ y y':AV,look e s=some y/\y.ent=true/\y'.ent=true/\y'.sk=y.sk/\e1=ins s y' e/\∀ E,look E s=some y->putRow s E off vs=some (ins s y' E):=by
 unfold putRow at h;split at h
 .cases h
 rename_i h1;split at h
 case h_3=>cases h
 case h_2 =>
  rename_i ks cs hl;split at h
  case h_2=>cases h
  rename_i h2;cases h;refine⟨_,.hob 3 ks (cs.take off++vs.map AV.strip++cs.drop (off+vs.length)),hl,rfl,rfl,rfl,rfl,fun E hE=>?_⟩;unfold putRow;simp only[h1,hE,h2]
 rename_i cs hl;split at h
 case h_2=>cases h
 rename_i h2;cases h;refine⟨_,.box (cs.take off++vs.map AV.strip++cs.drop (off+vs.length)),hl,rfl,rfl,rfl,rfl,fun E hE=>?_⟩;unfold putRow;simp only[h1,hE,h2]
theorem qfV (h:putCell s e off v=some e1):∃ y y':AV,look e s=some y/\y.ent=true/\y'.ent=true/\y'.sk=y.sk/\e1=ins s y' e/\(∀ cs,y≠.bxg cs)/\∀ E,look E s=some y->putCell s E off v=some (ins s y' E):=by
 unfold putCell at h;split at h
 .cases h
 rename_i h1;split at h
 case h_3=>cases h
 case h_2 =>
  rename_i ks cs hl;split at h
  case h_2=>cases h
  rename_i h2;cases h;refine⟨_,.hob 3 ks (cs.set off v.strip),hl,rfl,rfl,rfl,rfl,fun _ e=>(by cases e),fun E hE=>?_⟩;unfold putCell;simp only[h1,hE,h2]
 rename_i cs hl;split at h
 case h_2=>cases h
 rename_i h2;cases h;refine⟨_,.box (cs.set off v),hl,rfl,rfl,rfl,rfl,fun _ e=>(by cases e),fun E hE=>?_⟩;unfold putCell;simp only[h1,hE,h2]
theorem qhq {id k j:Nat} (h:putObj id k j e off vs=some e1):∃ x x':AV,look e id=some x/\x.ent=true/\x'.ent=true/\x'.sk=x.sk/\e1=ins id x' e/\∀ E,look E id=some x->putObj id k j E off vs=some (ins id x' E):=by
 unfold putObj at h;split at h
 case h_2=>cases h
 rename_i e' k' xs hl;split at h
 case h_2=>cases h
 rename_i hk;split at h
 case h_2=>cases h
 rename_i y hy;split at h
 case h_2=>cases h
 rename_i y' hy';cases h;refine⟨_,.obj e' k (xs.set j y'),hl,rfl,rfl,rfl,rfl,fun E hE=>?_⟩;unfold putObj;simp only[hE,hk,hy,hy']
theorem qct (h:putG s e off v=some e1):∃ y y',look e s=some y/\y.ent=true/\y'.ent=true/\y'.sk=y.sk/\e1=ins s y' e/\∀ E,look E s=some y->putG s E off v=some (ins s y' E):=by
 unfold putG at h;split at h
 .cases h
 rename_i h0;split at h
 .rename_i cs hl;split at h
  case h_2=>cases h
  rename_i hc;cases h;exact⟨_,.bxg ((cs.map AV.strip).set off v.strip),hl,rfl,rfl,rfl,rfl,fun E hE=>by unfold putG;simp only[h0,hE,hc]⟩
 .rename_i cs hl;split at h
  case h_2=>cases h
  rename_i hc;cases h;exact⟨_,.bxg (cs.set off v.strip),hl,rfl,rfl,rfl,rfl,fun E hE=>by unfold putG;simp only[h0,hE,hc]⟩
 cases h
theorem qiP {all:LF} (hw:awanted all o e=some true) (hs:isStore o.op=true) (he:astep P n o e=some e1):St1 P n all o e e1:=by
 cases hop:o.op with
 | store t p x =>
  have he0:=he;unfold astep at he;rw[hop]at he;simp only at he
  have fin:∀ (s:Nat) (y y':AV),o.dst=none->look e s=some y->y.ent=true->y'.ent=true->y'.sk=y.sk->e1=ins s y' e->(∀ E,NA all o e E->look E s=some y->astep P n o E=some (ins s y' E))->St1 P n all o e e1:=by
   intro s y y' hd h1 h2 h3 h4 h5 h6;refine⟨hs,hd,s,y,y',h1,h2,h3,h4,h5,fun E hk hE=>?_⟩;exact DW (JE hk hw) (h6 E hk hE)
  have hka:∀ E,NA all o e E->∀ z v,z∈[p,x]->aop e z=some v->aop E z=some v:=by
   intro E hk z v hz hv;refine Xg hk z ?_ v hv;rw[hop]
   simpa[Op.operands] using hz
  split at he
  .rename_i s off v sz hd hp hx hsz;split at he
   case h_2=>cases he
   rename_i hlen
   have one:∀ (v:AV),aop e x=some v->A0 v.cells.length sz=true->(∀ cs,v≠.agg cs)->(∀ id e' k o m,v≠.sb id e' k o m)->(∀ kd id,v≠.mb kd id)->(match look e s with | some (.bxg _)=>putG s e off v | _=>putCell s e off v)=some e1->St1 P n all o e e1:=by
    intro v hx hlen hna hnb hnm he;split at he
    .rename_i cs0 hcs0;obtain⟨y,y',h1,h2,h2',h3,h4,h5⟩:=qct he;rw[hcs0]at h1;cases h1
     refine fin s _ y' hd hcs0 h2 h2' h3 h4 fun E hk hE=>?_
     unfold astep;rw[hop];simp only[hd,hka E hk p _ (by simp) hp,hka E hk x _ (by simp) hx,hsz,hlen];have h6:=h5 E hE
     cases v <;> first | (simp only[hE];exact h6) | exact absurd rfl (hna _) | exact absurd rfl (hnb _ _ _ _ _) | exact absurd rfl (hnm _ _)
    obtain⟨y,y',h1,h2,h2',h3,h4',hny,h5⟩:=qfV he
    refine fin s y y' hd h1 h2 h2' h3 h4' fun E hk hE=>?_
    unfold astep;rw[hop];simp only[hd,hka E hk p _ (by simp) hp,hka E hk x _ (by simp) hx,hsz,hlen];have h4:=h5 E hE
    have h6:(match look E s with | some (.bxg _)=>putG s E off v | _=>putCell s E off v)=some (ins s y' E):=by
     rw[hE]
     cases y <;> first | exact h4 | exact absurd rfl (hny _)
    cases v <;> first | exact h6 | exact absurd rfl (hna _) | exact absurd rfl (hnb _ _ _ _ _) | exact absurd rfl (hnm _ _)
   cases v with
   | agg cs =>
    obtain⟨y,y',h1,h2,h2',h3,h4,h5⟩:=qhp he
    refine fin s y y' hd h1 h2 h2' h3 h4 fun E hk hE=>?_
    unfold astep;rw[hop];simp only[hd,hka E hk p _ (by simp) hp,hka E hk x _ (by simp) hx,hsz,hlen];exact h5 E hE
   | sb id e' k o2 m =>
    obtain⟨y,y',h1,h2,h2',h3,h4,h5⟩:=qct he
    refine fin s y y' hd h1 h2 h2' h3 h4 fun E hk hE=>?_
    unfold astep;rw[hop];simp only[hd,hka E hk p _ (by simp) hp,hka E hk x _ (by simp) hx,hsz,hlen];exact h5 E hE
   | mb kd id =>
    obtain⟨y,y',h1,h2,h2',h3,h4,h5⟩:=qct he
    refine fin s y y' hd h1 h2 h2' h3 h4 fun E hk hE=>?_
    unfold astep;rw[hop];simp only[hd,hka E hk p _ (by simp) hp,hka E hk x _ (by simp) hx,hsz,hlen];exact h5 E hE
   | _=>exact one _ hx hlen (fun cs e=>by cases e) (fun _ _ _ _ _ e=>by cases e) (fun _ _ e=>by cases e) he
  .rename_i id k j off v sz hd hp hx hsz;split at he
   case h_2=>cases he
   rename_i hlen;obtain⟨y,y',h1,h2,h3,h4,h5,h6⟩:=qhq he
   refine fin id y y' hd h1 h2 h3 h4 h5 fun E hk hE=>?_
   unfold astep;rw[hop];simp only[hd,hka E hk p _ (by simp) hp,hka E hk x _ (by simp) hx,hsz,hlen];exact h6 E hE
  cases he
 | _=>rw[hop]at hs;cases hs
end
end Go.AM
namespace Go.AM
open Go.RowKit
variable {o:Op} {i t:Nat} {x:AV} {e:Env} {d:LP}
section
variable {n:Nat} {P:Program}
theorem qer (acc:Array Nat):∀ (l:List Edge) (s i:Nat),(l.foldl (fun s e=>if C0 .any e then s ||| 2 ^ e.on ||| acc.getD e.on 0 else s) s).testBit i=true ->
    s.testBit i=true\/∃ e,e∈l/\C0 .any e=true/\(i=e.on\/(acc.getD e.on 0).testBit i=true)
  | [],s,i,h=>.inl h
  | e::l,s,i,h=>by
    simp only[D7]at h
    rcases qer acc l _ i h with h1 | ⟨e',he',h1,h2⟩
    . split at h1
      . rename_i hb
        simp only[Nat.testBit_or,D8]at h1
        rcases h1 with (h1 | h1) | h1
        . exact .inl h1
        . refine .inr ⟨e,A8 ..,hb,.inl ?_⟩
          rw[Nat.testBit_two_pow]at h1
          simpa using (oT h1).symm
        . exact .inr ⟨e,A8 ..,hb,.inr h1⟩
      . exact .inl h1
    . exact .inr ⟨e',A9 _ he',h1,h2⟩
def JX (acc:Array Nat) (o:Oper):Array Nat :=
  acc.push (o.after.foldl (fun s e=>if C0 .any e then s ||| 2 ^ e.on ||| acc.getD e.on 0 else s) 0)
theorem qeE (all:LF):A6 all.toArray=all.foldl JX #[]:=by
  unfold A6;rw[<- Array.foldl_toList];rfl
theorem UF:∀ (l:LF) (acc:Array Nat),(l.foldl JX acc).size=acc.size+l.length
  | [],acc=>rfl
  | o::l,acc=>by
    simp only[D7,List.length_cons];rw[UF l];simp[JX];omega
theorem Hh:∀ (l:LF) (acc:Array Nat) (j:Nat),j<acc.size->(l.foldl JX acc).getD j 0=acc.getD j 0
  | [],acc,j,h=>rfl
  | o::l,acc,j,h=>by
    simp only[D7];rw[Hh l _ j (by simp[JX];omega)];simp[JX,G2,Nat.ne_of_lt h]
theorem qjF (all:LF) {j:Nat} {o:Oper} (h:all[j]? = some o) :
    (all.foldl JX #[]).getD j 0=o.after.toList.foldl (fun s e=>if C0 .any e then s ||| 2 ^ e.on ||| ((all.take j).foldl JX #[]).getD e.on 0 else s) 0:=by
  have hj:=(List.getElem?_eq_some_iff.1 h).1
  have hsplit:all=all.take j++o::all.drop (j+1):=by
    have:=List.getElem?_eq_some_iff.1 h;rw[<- this.2];simp
  have hs:((all.take j).foldl JX #[]).size=j:=by rw[UF];simp;omega
  conv=>lhs;rw[hsplit]
  rw[List.foldl_append,D7,Hh _ _ j (by simp[JX,hs])];simp only[JX];rw[D3,G2,if_pos (by rw[hs])];simp
def Closed (all:LF) (S:Nat->Prop):Prop:=∀ j o,all[j]? = some o->S j->∀ e,e∈o.after.toList->C0 .any e=true->S e.on
theorem Ve {all:LF} {S:Nat->Prop} (hc:Closed all S):∀ (j:Nat) (o:Oper),all[j]? = some o->(∀ e,e∈o.after.toList->C0 .any e=true->S e.on)->∀ i,((A6 all.toArray).getD j 0).testBit i=true->S i:=by
  intro j
  induction j using Nat.strongRecOn with
  | _ j ih =>
    intro o ho he i hi;rw[qeE,qjF all ho]at hi
    rcases qer _ _ 0 i hi with h0 | ⟨e,hem,hb,h⟩
    . simp at h0
    . rcases h with rfl | h
      . exact he e hem hb
      . have hlt:e.on<j:=by
          refine C7 fun hle=>?_
          have hs:((all.take j).foldl JX #[]).size<=j:=by rw[UF];simp;omega
          rw[D3,Array.getElem?_eq_none (by omega)]at h;simp at h
        have hj:=(List.getElem?_eq_some_iff.1 ho).1;have ho':all[e.on]? = some (all[e.on]'(by omega)):=A4 _;refine ih e.on hlt _ ho' (hc e.on _ ho' (he e hem hb)) i ?_;rw[qeE];have h1:=Hh (all.drop j) ((all.take j).foldl JX #[]) e.on (by rw[UF];simp;omega);rw[<- List.foldl_append,List.take_append_drop]at h1;rw[h1];exact h
theorem UA (h:memFree o=true):isEff o=false:=by
  unfold memFree at h;unfold isEff
  split at h <;> first | rfl | cases h
theorem qdM (h:isStore o=true):isEff o=true:=by
  cases o <;> first | rfl | cases h
def Free (x y:Op):Prop:=(isEff x=false/\isEff y=false)\/(isStore x=true/\memFree y=true)\/(memFree x=true/\isStore y=true)
theorem qaj {all:LF} (h:orderOk all.toArray=true) {j:Nat} {x y:Oper} (hij:i<j) (hx:all[i]? = some x) (hy:all[j]? = some y) :
    ((A6 all.toArray).getD j 0).testBit i=true\/(Free x.op y.op/\(∀ d,x.dst=some d->d ∉ namesOf all.toArray y)/\(∀ d,y.dst=some d->d ∉ namesOf all.toArray x)):=by
  unfold orderOk at h;simp only[D0,List.mem_range]at h;have hj:=(List.getElem?_eq_some_iff.1 hy).1;have:=h j (by simpa using hj) i hij;simp only[D8]at this
  rcases this with h1 | h1
  . exact .inl h1
  . refine .inr ?_
    have hx':all.toArray[i]? = some x:=by simpa using hx
    have hy':all.toArray[j]? = some y:=by simpa using hy
    rw[hx',hy']at h1;simp only[A5,D8,A7]at h1;obtain⟨⟨h1,h3⟩,h4⟩:=h1;refine⟨?_,fun d hd hm=>?_,fun d hd hm=>?_⟩
    . rcases h1 with (⟨h1,h2⟩ | h1) | h1
      . exact .inl ⟨h1,h2⟩
      . exact .inr (.inl h1)
      . exact .inr (.inr h1)
    . rw[hd]at h3
      simp only[A7,List.any_eq_false]at h3;exact h3 d hm (by simp)
    . rw[hd]at h4
      simp only[A7,List.any_eq_false]at h4;exact h4 d hm (by simp)
theorem qhR {all rest:LF} {e':Env} {draw:Bool} (h:Chain P n draw all rest e e') (hd:draw=true):∃ es:Nat->Env,es 0=e/\es rest.length=e'/\∀ i o,rest[i]? = some o->StepOk P n draw all o (es i) (es (i+1)):=by
  induction h with
  | @nil e=>exact⟨fun _=>e,rfl,rfl,fun i o h=>by simp at h⟩
  | drop e0 hf _ _ _=>rw[hf]at hd;cases hd
  | @step o rest e e1 e' hs _ ih =>
    obtain⟨es,h1,h2,h3⟩:=ih;refine⟨fun i=>match i with | 0=>e | i+1=>es i,rfl,h2,fun i o' ho=>?_⟩
    cases i with
    | zero=>simp at ho;subst ho;show StepOk P n draw all o e (es 0);rw[h1];exact hs
    | succ i=>exact h3 i o' (by simpa using ho)
variable {all:LF} {es:Nat->Env}
def Wr (all:LF) (i t:Nat):Prop:=∃ o,all[i]? = some o/\((isEff o.op=true/\isStore o.op=false)\/o.dst=some t)
def WrE (all:LF) (i:Nat):Prop:=∃ o,all[i]? = some o/\isEff o.op=true
theorem VK {E:Env} (h:d≠some t):look (insO d x E) t=look E t:=by
  cases d with
  | none=>rfl
  | some s =>
    simp only[insO];rw[jy,if_neg (fun e=>h (by rw[e]))]
theorem qan {s:Nat} {x':AV} (hl:look e s=some x) (hk:x'.sk=x.sk):lookS (ins s x' e) t=lookS e t:=by
  unfold lookS;rw[jy];split
  . rename_i h;subst h
    rw[hl];simp[hk]
  . rfl
theorem stable (hes:∀ i o,all[i]? = some o->StepOk P n true all o (es i) (es (i+1))):∀ j,i<=j->j<=all.length->(∀ k,i<=k->k<j->¬ Wr all k t)->lookS (es j) t=lookS (es i) t:=by
  intro j
  induction j with
  | zero =>
   intro h _ _;have:i=0:=by omega
   subst this;rfl
  | succ j ih =>
    intro h hl hw;by_cases hij:i=j+1
    . subst hij;rfl
    . have hlt:j<all.length:=by omega
      have ho:all[j]? = some all[j]:=A4 hlt;have hn:=hw j oM oM;rw[<- ih (by omega) (by omega) (fun k h1 h2=>hw k h1 (by omega))]
      rcases (hes j _ ho).2 rfl with he | ⟨_,_,s,x,x',hx,_,_,hk,e1,_⟩ | ⟨_,x,hx,_⟩
      . exact absurd ⟨_,ho,.inl he.1⟩ hn
      . rw[e1]
        exact qan hx hk
      . obtain⟨e1,_,_⟩:=QK hx
        rw[e1];unfold lookS;rw[VK fun e=>hn ⟨_,ho,.inr e⟩]
theorem Db (e:Env):EA e e:=fun _ _ _ h=>h
theorem EA.trans {a b c:Env} (h:EA a b) (k:EA b c):EA a c:=fun s x hx hl=>k s x hx (h s x hx hl)
theorem qiC {e1:Env} (hx:x.ent=false) (he:eput n d x e=some e1):EA e e1/\EA e1 e:=by
  obtain⟨e1',_,hno⟩:=QK he;subst e1'
  cases d with
  | none=>exact⟨Db _,Db _⟩
  | some t =>
    simp only[insO];refine⟨fun s y hy hl=>?_,fun s y hy hl=>?_⟩
    . rw[jy]
      split
      . rename_i h;subst h
        rw[hno s rfl y hl]at hy;cases hy
      . exact hl
    . rw[jy]at hl
      split at hl
      . cases hl
        rw[hx]at hy;cases hy
      . exact hl
theorem stableE (hes:∀ i o,all[i]? = some o->StepOk P n true all o (es i) (es (i+1))):∀ j,i<=j->j<=all.length->(∀ k,i<=k->k<j->¬ WrE all k)->EA (es i) (es j)/\EA (es j) (es i):=by
  intro j
  induction j with
  | zero =>
   intro h _ _;have:i=0:=by omega
   subst this;exact⟨Db _,Db _⟩
  | succ j ih =>
    intro h hl hw;by_cases hij:i=j+1
    . subst hij;exact⟨Db _,Db _⟩
    . have hlt:j<all.length:=by omega
      have ho:all[j]? = some all[j]:=A4 hlt;have hn:=hw j oM oM;obtain⟨h1,h2⟩:=ih oM oM (fun k h1 h2=>hw k h1 oM)
      rcases (hes j _ ho).2 rfl with he | ⟨hs,_⟩ | ⟨_,x,hx,hxe,_⟩
      . exact absurd ⟨_,ho,he.1.1⟩ hn
      . exact absurd ⟨_,ho,qdM hs⟩ hn
      . obtain⟨k1,k2⟩:=qiC hxe hx
        exact⟨h1.trans k1,k2.trans h2⟩
structure Match (all:LF) (es:Nat->Env) (S:Nat->Prop) (E:Env):Prop where
  s:∀ t j,j<=all.length->(∀ i,i<j->Wr all i t->S i)->(∀ i,j<=i->Wr all i t->¬ S i)->∀ y,lookS (es j) t=some y->lookS E t=some y
  e:∀ j,j<=all.length->(∀ i,i<j->WrE all i->S i)->(∀ i,j<=i->WrE all i->¬ S i)->EA (es j) E
end
end Go.AM
namespace Go.AM
open Go.RowKit
variable {S:Nat->Prop} {bs:Base}
section
variable {n:Nat} {P:Program} {all:LF} {es:Nat->Env}
theorem qge (hes:∀ i o,all[i]? = some o->StepOk P n true all o (es i) (es (i+1))) (hS:∀ i,i<all.length->¬ S i):Match all es S (es 0):=by
 refine⟨fun t j hj h1 h2 y hy=>?_,fun j hj h1 h2=>?_⟩
 .rw[<- stable hes (i:=0) j (Nat.zero_le _) hj (fun k _ hk hw=>hS k (by omega) (h1 k hk hw))];exact hy
 exact (stableE hes (i:=0) j (Nat.zero_le _) hj (fun k _ hk hw=>hS k oM (h1 k hk hw))).2
theorem Dp {E:Env} (hm:Match all es S E) {j:Nat} (hj:j<=all.length) (h1:∀ i,i<j->S i) (h2:∀ i,j<=i->i<all.length->¬ S i) {t:Nat} {x:AV} (hx:look (es j) t=some x):look E t=some x:=by
 have hlt:∀ i (o:Oper),all[i]? = some o->i<all.length:=fun i o ho=>(List.getElem?_eq_some_iff.1 ho).1
 cases he:x.ent with
 | true=>exact hm.e j hj (fun i hi _=>h1 i hi) (fun i hi ⟨o,ho,_⟩=>h2 i hi (hlt i o ho)) t x he hx
 | false =>
  have:=hm.s t j hj (fun i hi _=>h1 i hi) (fun i hi ⟨o,ho,_⟩=>h2 i hi (hlt i o ho)) x (by simp[lookS,hx,qig he]);unfold lookS at this
  cases hL:look E t with
  | none=>rw[hL]at this;cases this
  | some Y =>
   rw[hL]at this;simp only[F7,Option.some.injEq]at this
   have hY:Y.ent=false:=by rw[<- qjV,this];exact he
   rw[qig hY]at this;rw[this]
theorem QN {x y:Op} (h:Free x y):¬ (isEff x=true/\isStore x=false)/\¬ (isEff y=true/\isStore y=false)/\¬ (isEff x=true/\isEff y=true)/\(isEff x=true->memFree y=true)/\(isEff y=true->memFree x=true):=by
 rcases h with ⟨h1,h2⟩ | ⟨h1,h2⟩ | ⟨h1,h2⟩
 .refine⟨fun h=>?_,fun h=>?_,fun h=>?_,fun h=>?_,fun h=>?_⟩ <;> simp_all
 .have:=UA h2;refine⟨fun h=>?_,fun h=>?_,fun h=>?_,fun h=>h2,fun h=>?_⟩ <;> simp_all
 have:=UA h1;refine⟨fun h=>?_,fun h=>?_,fun h=>?_,fun h=>?_,fun h=>h1⟩ <;> simp_all
theorem Dc {α:Type} {p q:α->Bool}:∀ {l:List α} {x:α},(∀ y,y∈l->q y=true->p y=true)->x∈l->p x=true->q x=false->l.countP q<l.countP p
 | [],x,_,hx,_,_=>by cases hx
 | z::l,x,h,hx,hp,hq=>by
  have hle:l.countP q<=l.countP p:=List.countP_mono_left fun y hy=>h y (A9 _ hy)
  rw[List.countP_cons,List.countP_cons]
  cases hx with
  | head=>rw[if_pos hp,if_neg (by rw[hq];exact Bool.false_ne_true)];omega
  | tail _ hx =>
   have:=Dc (fun y hy=>h y (A9 _ hy)) hx hp hq;by_cases hz:q z=true
   .rw[if_pos hz,if_pos (h z (A8 ..) hz)];omega
   rw[if_neg hz];split <;> omega
def jU (N:Nat) (listed:Array Bool):Nat:=(List.range N).countP fun i=>!listed.getD i true
theorem Yz {listed:Array Bool} {i:Nat} (h:i<listed.size):listed.getD i true=listed.getD i false:=by
 simp[h]
theorem qjo {all:LF} {o:Oper} {d:Nat} (h:o.dst=some d):d∈namesOf all.toArray o:=by
 unfold namesOf;rw[h];simp
theorem qjK {Q:Exit->Act->World->Prop} (hes:∀ i o,all[i]? = some o->StepOk P n true all o (es i) (es (i+1))) (hord:orderOk all.toArray=true) (hback:jO all.toArray=true)
  (hQ:∀ a' w' M' O',Inv bs n M' O' (es all.length) a' w'->Q .normal a' w') :
  ∀ (fuel:Nat) (listed:Array Bool) (a:Act) (w:World) (M:Mem) (O:Gh) (E:Env),listed.size=all.length->Closed all (fun i=>listed.getD i false=true)->Match all es (fun i=>listed.getD i false=true) E ->
   jU all.length listed<=fuel->Inv bs n M O E a w->wpAny P .any all.toArray Q fuel listed a w:=by
 have done:∀ (listed:Array Bool) (a:Act) (w:World) (M:Mem) (O:Gh) (E:Env),listed.size=all.length->Match all es (fun i=>listed.getD i false=true) E->Inv bs n M O E a w ->
   D4 .any all.toArray listed=[]->Q .normal a w:=by
  intro listed a w M O E hsz hm h hr
  have hall:∀ i,i<all.length->listed.getD i false=true:=by
   intro i
   induction i using Nat.strongRecOn with
   | _ i ih =>
    intro hi
    cases hv:listed.getD i false with
    | true=>rfl
    | false =>
     exfalso;have ho:all[i]? = some all[i]:=A4 hi
     have:i∈D4 .any all.toArray listed:=by
      rw[mem_ready];refine⟨by rw[Yz (by omega)];exact hv,all[i],by simp,fun e he hb=>?_⟩
      have hlt:e.on<i:=by
       unfold jO at hback;rw[D0]at hback
       have hmem:(all[i],i)∈all.toArray.toList.zipIdx:=by
        rw[List.mem_iff_getElem?];exact⟨i,by simp[List.getElem?_zipIdx,ho]⟩
       have:=hback _ hmem;rw[Array.all_eq_true_iff_forall_mem]at this;have:=this e he;simp only[D8,A7]at this
       rcases this with h1 | h1
       .rw[hb]at h1;cases h1
       exact G0 h1
      exact ih e.on hlt oM
     rw[hr]at this;cases this
  refine hQ a w M O (h.sub fun t y hy=>.inl (Dp hm (D9 _) (fun i hi=>hall i hi) (fun i hi hw=>by omega) hy))
 intro fuel
 induction fuel with
 | zero =>
  intro listed a w M O E hsz hc hm hu h
  have hr:D4 .any all.toArray listed=[]:=by
   cases hr:D4 .any all.toArray listed with
   | nil=>rfl
   | cons i rs =>
    exfalso
    have hi:i∈D4 .any all.toArray listed:=by rw[hr];exact A8 ..
    rw[mem_ready]at hi;obtain⟨h0,o,ho,_⟩:=hi
    have hil:i<all.length:=by
     have:=(Array.getElem?_eq_some_iff.1 ho).1
     simpa using this
    have:0<jU all.length listed:=by
     unfold jU;rw[List.countP_pos_iff];exact⟨i,List.mem_range.2 hil,by rw[h0];rfl⟩
    omega
  exact⟨hr,done listed a w M O E hsz hm h hr⟩
 | succ fuel ih =>
  intro listed a w M O E hsz hc hm hu h;refine⟨fun hr=>done listed a w M O E hsz hm h hr,fun k hk=>?_⟩;rw[mem_ready]at hk;obtain⟨hk0,ok,hok,hkall⟩:=hk
  have hok':all[k]? = some ok:=by simpa using hok
  have hkl:k<all.length:=(List.getElem?_eq_some_iff.1 hok').1
  have hkf:listed.getD k false=false:=by rw[<- Yz (by omega)];exact hk0
  have hdeps:∀ i,((A6 all.toArray).getD k 0).testBit i=true->listed.getD i false=true :=
   Ve hc k ok hok' (fun e he hb=>hkall e (by simpa using he) hb)
  have hnot:∀ i,listed.getD i false=true->i<all.length->((A6 all.toArray).getD i 0).testBit k=false:=by
   intro i hi hil
   cases hb:((A6 all.toArray).getD i 0).testBit k with
   | false=>rfl
   | true =>
    have:=Ve hc i _ (A4 hil) (fun e he hb=>hc i _ (A4 hil) hi e he hb) k hb;simp only[hkf]at this;cases this
  have hsz':(listed.setIfInBounds k true).size=all.length:=by simp[hsz]
  have hset:∀ i,(listed.setIfInBounds k true).getD i false=true↔(i=k\/listed.getD i false=true):=by
   intro i;by_cases hik:i=k
   .subst hik
    have hkk:i<listed.size:=by omega
    simp[hkk]
   rw[getD_set_ne false (fun e=>hik e.symm)];simp[hik]
  have hc':Closed all (fun i=>(listed.setIfInBounds k true).getD i false=true):=by
   intro j o ho hj e he hb;rw[hset]at hj ⊢
   rcases hj with rfl | hj
   .rw[hok']at ho;cases ho;exact .inr (hkall e (by simpa using he) hb)
   exact .inr (hc j o ho hj e he hb)
  have hu':jU all.length (listed.setIfInBounds k true)<=fuel:=by
   have:jU all.length (listed.setIfInBounds k true)<jU all.length listed:=by
    unfold jU;refine Dc (x:=k) (fun i hi hq=>?_) (List.mem_range.2 hkl) (by rw[hk0];rfl) ?_
    .have hil:=List.mem_range.1 hi;simp only[A7]at hq ⊢;rw[Yz (by omega)]at hq ⊢
     cases hv:listed.getD i false with
     | false=>rfl
     | true =>
      have:=(hset i).2 (.inr hv);rw[this]at hq;cases hq
    have hkk:k<listed.size:=by omega
    simp[hkk]
   omega
  obtain⟨hsem,hpure⟩:=hes k ok hok'
  have hwp:∀ (K:Act->World->Prop),(if D6 ok (yielded all.toArray a.tmps) then ok.wp P a w K Q else K (a.put ok.dst undef) w)->wpOp P all.toArray Q k K a w:=by
   intro K hK;unfold wpOp;rw[hok];simp only;split
   .rename_i hw;rw[if_pos hw]at hK;exact .inl hK
   rename_i hw;rw[if_neg hw]at hK;exact hK
  refine hwp _ ?_
  have P1:∀ i oi,all[i]? = some oi->i<k->listed.getD i false=true\/(Free oi.op ok.op/\(∀ d,oi.dst=some d->d ∉ namesOf all.toArray ok)/\(∀ d,ok.dst=some d->d ∉ namesOf all.toArray oi)):=by
   intro i oi hoi hi
   rcases qaj hord hi hoi hok' with h1 | h1
   .exact .inl (hdeps i h1)
   exact .inr h1
  have P2:∀ i oi,all[i]? = some oi->k<i->listed.getD i false=true->(Free ok.op oi.op/\(∀ d,ok.dst=some d->d ∉ namesOf all.toArray oi)/\(∀ d,oi.dst=some d->d ∉ namesOf all.toArray ok)):=by
   intro i oi hoi hi hl
   rcases qaj hord hi hok' hoi with h1 | h1
   .rw[hnot i hl (List.getElem?_eq_some_iff.1 hoi).1]at h1;cases h1
   exact h1
  have hNA:NA all ok (es k) E:=by
   intro t ht y hy;refine hm.s t k oM (fun i hi hw=>?_) (fun i hi hw hl=>?_) y hy
   .obtain⟨oi,hoi,hwi⟩:=hw
    rcases P1 i oi hoi hi with h1 | ⟨h1,h2,_⟩
    .exact h1
    rcases hwi with hwi | hwi
    .exact absurd hwi (QN h1).1
    exact absurd ht (h2 t hwi)
   obtain⟨oi,hoi,hwi⟩:=hw
   rcases E0 k i with hki | hki
   .obtain⟨h1,h2,h3⟩:=P2 i oi hoi hki hl
    rcases hwi with hwi | hwi
    .exact absurd hwi (QN h1).2.1
    exact absurd ht (h3 t hwi)
   have:i=k:=by omega
   subst this;simp only[hkf]at hl;cases hl
  have hEA:memFree ok.op=false->EA (es k) E:=by
   intro hmf;refine hm.e k oM (fun i hi hw=>?_) (fun i hi hw hl=>?_)
   .obtain⟨oi,hoi,hwi⟩:=hw
    rcases P1 i oi hoi hi with h1 | ⟨h1,_⟩
    .exact h1
    rw[(QN h1).2.2.2.1 hwi]at hmf;cases hmf
   obtain⟨oi,hoi,hwi⟩:=hw
   rcases E0 k i with hki | hki
   .obtain⟨h1,_⟩:=P2 i oi hoi hki hl;rw[(QN h1).2.2.2.2 hwi]at hmf;cases hmf
   have:i=k:=by omega
   subst this;simp only[hkf]at hl;cases hl
  rcases hpure rfl with ⟨hhard,_⟩ | ⟨hst,hdn,s,x,x',hx,hxe,hxe',hsk,hes1,hstep⟩ | ⟨hcl,x,hx,hxe,hstep⟩
  .
   have hbefore:∀ i,i<k->listed.getD i false=true:=by
    intro i hi
    rcases P1 i _ (A4 oM) hi with h1 | ⟨h1,_⟩
    .exact h1
    exact absurd hhard (QN h1).2.1
   have hafter:∀ i,k<i->i<all.length->¬ listed.getD i false=true:=by
    intro i hi hil hli;exact absurd hhard (QN (P2 i _ (A4 hil) hi hli).1).1
   have hE:Inv bs n M O (es k) a w:=h.sub fun t y hy=>.inl (Dp hm oM hbefore (fun i hi hil hl=>by
    rcases E0 k i with h1 | h1
    .exact hafter i h1 hil hl
    have:i=k:=by omega
    subst this;simp only[hkf]at hl
    cases hl) hy)
   refine hsem bs M O a w hE _ Q fun a' w' M' O' h'=>ih _ a' w' M' O' (es (k+1)) hsz' hc' ⟨fun t j hj h1 h2 y hy=>?_,fun j hj h1 h2=>?_⟩ hu' h'
   .have hkj:k<j:=by
     refine C7 fun hle=>?_
     exact h2 k hle ⟨ok,hok',.inl hhard⟩ ((hset k).2 (.inl rfl))
    have hst:=stable hes (t:=t) (i:=k+1) j hkj hj (fun i hi1 hi2 hw=>by
     rcases (hset i).1 (h1 i hi2 hw) with e | e
     .omega
     exact hafter i oM oM e)
    rw[hst]at hy;exact hy
   have hkj:k<j:=by
    refine C7 fun hle=>?_
    exact h2 k hle ⟨ok,hok',hhard.1⟩ ((hset k).2 (.inl rfl))
   exact (stableE hes (i:=k+1) j hkj hj (fun i hi1 hi2 hw=>by
    rcases (hset i).1 (h1 i hi2 hw) with e | e
    .omega
    exact hafter i oM oM e)).2
  
  have heff:=qdM hst
  have hmf:memFree ok.op=false:=by
   cases hv:memFree ok.op with
   | false=>rfl
   | true=>rw[UA hv]at heff;cases heff
  have hea:=hEA hmf;have hxE:look E s=some x:=hea s x hxe hx
  have hkw:∀ t,¬ Wr all k t:=by
   rintro t ⟨o',ho',hw'⟩
   rw[hok']at ho';cases ho'
   rcases hw' with hw' | hw'
   .rw[hst]at hw';cases hw'.2
   rw[hdn]at hw';cases hw'
  refine hstep E hNA hxE bs M O a w h _ Q fun a' w' M' O' h'=>ih _ a' w' M' O' _ hsz' hc' ⟨fun t j hj h1 h2 y hy=>?_,fun j hj h1 h2=>?_⟩ hu' h'
  .rw[qan hxE hsk];refine hm.s t j hj (fun i hi hw=>?_) (fun i hi hw hl=>h2 i hi hw ((hset i).2 (.inr hl))) y hy
   rcases (hset i).1 (h1 i hi hw) with e | e
   .subst e;exact absurd hw (hkw t)
   exact e
  have hkj:k<j:=by
   refine C7 fun hle=>?_
   exact h2 k hle ⟨ok,hok',heff⟩ ((hset k).2 (.inl rfl))
  have hst2:=(stableE hes (i:=k+1) j hkj hj (fun i hi1 hi2 hw=>by
   rcases (hset i).1 (h1 i hi2 hw) with e | e
   .omega
   obtain⟨oi,hoi,hwi⟩:=hw
   exact (QN (P2 i oi hoi oM e).1).2.2.1 ⟨heff,hwi⟩)).2
  refine hst2.trans ?_;rw[hes1];intro t y hy hl;rw[jy]at hl ⊢;split
  .rename_i e;rw[if_pos e]at hl;exact hl
  rename_i e;rw[if_neg e]at hl;exact hea t y hy hl
  
  obtain⟨hes1,hdn,hdent⟩:=QK hx
  have hnoth:¬ (isEff ok.op=true/\isStore ok.op=false):=by
   rintro⟨e1,e2⟩
   rcases hcl with e | e
   .rw[e]at e1;cases e1
   rw[e]at e2;cases e2
  have hmem:memFree ok.op=true\/EA (es k) E:=by
   cases hv:memFree ok.op with
   | true=>exact .inl rfl
   | false=>exact .inr (hEA hv)
  refine hstep E hNA hmem bs M O a w h _ Q fun a' w' M' O' h'=>ih _ a' w' M' O' _ hsz' hc' ⟨fun t j hj h1 h2 y hy=>?_,fun j hj h1 h2=>?_⟩ hu' h'
  .by_cases hdt:ok.dst=some t
   .have hkw:Wr all k t:=⟨ok,hok',.inr hdt⟩
    have hkj:k<j:=by
     refine C7 fun hle=>?_
     exact h2 k hle hkw ((hset k).2 (.inl rfl))
    have hst:=stable hes (t:=t) (i:=k+1) j hkj hj (fun i hi1 hi2 hw=>by
     rcases (hset i).1 (h1 i hi2 hw) with e | e
     .omega
     obtain⟨oi,hoi,hwi⟩:=hw;obtain⟨g1,g2,_⟩:=P2 i oi hoi oM e
     rcases hwi with hwi | hwi
     .exact (QN g1).2.1 hwi
     exact g2 t hdt (qjo hwi))
    rw[hst,hes1,hdt]at hy;unfold lookS at hy ⊢;rw[hdt];simp only[insO]at hy ⊢;rw[jy,if_pos rfl]at hy ⊢;exact hy
   unfold lookS;rw[VK hdt]
   have hkw:¬ Wr all k t:=by
    rintro⟨o',ho',hw'⟩
    rw[hok']at ho';cases ho'
    rcases hw' with hw' | hw'
    .exact hnoth hw'
    exact hdt hw'
   refine hm.s t j hj (fun i hi hw=>?_) (fun i hi hw hl=>h2 i hi hw ((hset i).2 (.inr hl))) y hy
   rcases (hset i).1 (h1 i hi hw) with e | e
   .subst e;exact absurd hw hkw
   exact e
  
  have out:∀ {F:Env},EA F E->(∀ d,ok.dst=some d->∀ y,look F d=some y->y.ent=false)->EA F (insO ok.dst x E):=by
   intro F hF hno t y hy hl;by_cases hdt:ok.dst=some t
   .rw[hno t hdt y hl]at hy;cases hy
   rw[VK hdt];exact hF t y hy hl
  by_cases hke:isEff ok.op=true
  .have hmf:memFree ok.op=false:=by
    cases hv:memFree ok.op with
    | false=>rfl
    | true=>rw[UA hv]at hke;cases hke
   have hkj:k<j:=by
    refine C7 fun hle=>?_
    exact h2 k hle ⟨ok,hok',hke⟩ ((hset k).2 (.inl rfl))
   have hst2:=(stableE hes (i:=k+1) j hkj hj (fun i hi1 hi2 hw=>by
    rcases (hset i).1 (h1 i hi2 hw) with e | e
    .omega
    obtain⟨oi,hoi,hwi⟩:=hw
    exact (QN (P2 i oi hoi oM e).1).2.2.1 ⟨hke,hwi⟩)).2
   exact (hst2.trans (qiC hxe hx).2).trans (out (hEA hmf) hdent)
  have hkw:¬ WrE all k:=by
   rintro⟨o',ho',hw'⟩
   rw[hok']at ho';cases ho';exact hke hw'
  have hej:EA (es j) E:=hm.e j hj (fun i hi hw=>by
   rcases (hset i).1 (h1 i hi hw) with e | e
   .subst e;exact absurd hw hkw
   exact e) (fun i hi hw hl=>h2 i hi hw ((hset i).2 (.inr hl)))
  refine out hej fun d hd y hy=>?_
  rcases E0 k j with hkj | hkj
  .
   have key:∀ i,k+1<=i->i<=j->∀ y,look (es i) d=some y->y.ent=false:=by
    intro i
    induction i with
    | zero=>intro h;omega
    | succ i ihi =>
     intro hi1 hi2 y hy;by_cases hik:k=i
     .subst hik;rw[hes1,hd]at hy;simp only[insO]at hy;rw[jy,if_pos rfl]at hy;cases hy;exact hxe
     have hil:i<all.length:=by omega
     have hoi:all[i]? = some all[i]:=A4 hil
     rcases (hes i _ hoi).2 rfl with ⟨he,_⟩ | ⟨_,_,s',z,z',hz,hze,hze',_,e1,_⟩ | ⟨_,z,hz,hze,_⟩
     .exfalso
      rcases (hset i).1 (h1 i oM ⟨_,hoi,he.1⟩) with e | e
      .omega
      exact absurd he (QN (P2 i _ hoi oM e).1).2.1
     .rw[e1,jy]at hy;split at hy
      .rename_i e;subst e;have:=ihi oM oM z hz;rw[hze]at this;cases this
      exact ihi oM oM y hy
     obtain⟨e1,_,_⟩:=QK hz;rw[e1]at hy;by_cases hdi:all[i].dst=some d
     .rw[hdi]at hy;simp only[insO]at hy;rw[jy,if_pos rfl]at hy;cases hy;exact hze
     rw[VK hdi]at hy;exact ihi oM oM y hy
   exact key j oM (D9 _) y hy
  
  cases hye:y.ent with
  | false=>rfl
  | true =>
   exfalso
   have key:∀ i,j<=i->i<=k->∃ z,look (es i) d=some z/\z.ent=true:=by
    intro i
    induction i with
    | zero =>
     intro hi1 _
     have:j=0:=by omega
     subst this;exact⟨y,hy,hye⟩
    | succ i ihi =>
     intro hi1 hi2;by_cases hij:j=i+1
     .subst hij;exact⟨y,hy,hye⟩
     have hil:i<all.length:=by omega
     have hoi:all[i]? = some all[i]:=A4 hil;obtain⟨z0,hz0,hze0⟩:=ihi oM oM
     rcases (hes i _ hoi).2 rfl with ⟨he,_⟩ | ⟨_,_,s',z,z',hz,hze,hze',_,e1,_⟩ | ⟨_,z,hz,hze,_⟩
     .exfalso;refine h2 i oM ⟨_,hoi,he.1⟩ ((hset i).2 (.inr ?_))
      rcases P1 i _ hoi oM with e | ⟨e,_⟩
      .exact e
      exact absurd he (QN e).1
     .rw[e1,jy];split
      .exact⟨z',rfl,hze'⟩
      exact⟨z0,hz0,hze0⟩
     obtain⟨e1,_,e3⟩:=QK hz;rw[e1];by_cases hdi:all[i].dst=some d
     .have:=e3 d hdi z0 hz0;rw[hze0]at this;cases this
     rw[VK hdi];exact⟨z0,hz0,hze0⟩
   obtain⟨z,hz,hze⟩:=key k hkj (D9 _);have:=hdent d hd z hz;rw[hze]at this;cases this
theorem qfS {M:Mem} {O:Gh} {a:Act} {w:World} {id:Nat} {ops:Lj} {e e':Env} (hmix:P.follows .mixedOrders=true) (hord:orderOk ops=true) (hback:jO ops=true)
  (hc:Chain P n true ops.toList ops.toList e e') (h:Inv bs n M O e a w) {Q:Exit->Act->World->Prop} (hQ:∀ a' w' M' O',Inv bs n M' O' e' a' w'->Q .normal a' w'):(Code.region id ops true).wp P Q a w:=by
 obtain⟨es,h1,h2,h3⟩:=qhR hc rfl;have ea:ops.toList.toArray=ops:=Array.toArray_toList;refine wp_region_any hmix ?_;have hdr:Inv bs n M O e a { w with drawn:=w.drawn+1 }:=h.grown (row:=none) (fun g e=>by cases e) ⟨rfl,rfl,rfl,D9 _,fun _ _ _=>rfl⟩ (Sub.refl M) (fun b o u hu=>h.cons b o u hu) (fun _ _ _ _=>rfl);have:=qjK (P:=P) (n:=n) (all:=ops.toList) (es:=es) (bs:=bs) (Q:=Q) h3 (by rw[ea];exact hord) (by rw[ea];exact hback) (fun a' w' M' O' h'=>hQ a' w' M' O' (by rw[<- h2];exact h')) ops.size (Array.replicate ops.size false) a { w with drawn:=w.drawn+1 } M O e (by simp)
  (fun j o ho hj=>by simp[Array.getElem?_replicate]at hj;split at hj <;> simp at hj)
  (by
   rw[<- h1]
   exact qge h3 (fun i hi hS=>by
    have:i<ops.size:=by simpa using hi
    simp[this]at hS))
  (by
   unfold jU;have:=List.countP_le_length (p:=fun i=>!(Array.replicate ops.size false).getD i true) (l:=List.range ops.toList.length)
   simpa using this) hdr
 rw[ea]at this;exact this
end
end Go.AM
