/- s -/
import Derived.Test.YtdghpfejmlpjhaaASimC
set_option linter.unusedVariables false
set_option linter.unusedSimpArgs false
namespace Go.AM
open Go.RowKit Go.WideShapes
section
variable {P:Program} {M:Mem} {w:World}
theorem Hl {k:IntKind} {n:Int} (h:wfI k n=true):(Lit.int k n).wf=true:=h
theorem qae (k:IntKind):kbeq k k=true:=by cases k <;> rfl
theorem Ya {k:IntKind} {n:Int} {x:Value} (h:(AV.int k n).keyV=some x):x=.int k n∧wfI k n=true:=by
 simp only[AV.keyV]at h
 split at h
 ·rename_i hw;cases h;exact⟨rfl,hw⟩
 ·cases h
theorem JD {k:IntKind} {n:Int} {r:List AV} {l:List Value} (h:keyVs (.int k n::r)=some l):∃ l',l=.int k n::l'∧keyVs r=some l'∧wfI k n=true:=by
 simp only[keyVs]at h
 split at h
 ·rename_i l' hw hl;cases h;exact⟨l',rfl,hl,hw⟩
 ·cases h
theorem Xf {cs:List AV} {x:Value} (h:(AV.agg cs).keyV=some x):∃ l,x=.agg l.toArray∧keyVs cs=some l:=by
 simp only[AV.keyV]at h
 split at h
 ·rename_i l hl;cases h;exact⟨l,rfl,hl⟩
 ·cases h
theorem ZD {kt:TypeId} {k:AV} {x:Value} (hk:keyFits P kt k=true) (hx:k.keyV=some x):Maps.Keyed P kt∧∃ l,keyOf P kt x=some l:=by
 unfold keyFits at hk
 split at hk
 ·rename_i q q' n hu;have:=JT hk;subst this;obtain⟨rfl,hw⟩:=Ya hx;exact⟨Maps.int_keyed hu,_,Maps.keyOf_int_mk hu hw⟩
 ·rename_i n e q a q' b hu;simp only[Bool.and_eq_true]at hk;obtain⟨hn,hq,hA⟩:=hk;have:=Nat.eq_of_beq_eq_true hn;subst this;have:=JT hq;subst this;unfold arrKey at hA;simp only[Bool.and_eq_true]at hA;obtain⟨h0,h1,h2,h3,h4⟩:=hA;have A:WideMaps.ArrKey P kt e 2:=⟨hu,h1,Nat.eq_of_beq_eq_true h2,Nat.eq_of_beq_eq_true h3⟩;obtain⟨l,rfl,hl⟩:=Xf hx;obtain⟨l1,rfl,hl1,w1⟩:=JD hl;obtain⟨l2,rfl,hl2,w2⟩:=JD hl1;cases hl2;refine⟨Maps.Keyed.of_law A.law,?_⟩;have hsz:∃ m,P.types.size=m+1:=⟨P.types.size - 1,by have:=Nat.le_of_ble_eq_true h0;omega⟩;obtain⟨m,hm⟩:=hsz
  have hue:P.underlying e=some (.int q'):=by
   split at h4
   ·rename_i q'' hqq;have:=JT h4;subst this;exact hqq
   ·cases h4
  have hkt:=A.keyType ⟨m,hm⟩;have one:=A.one;have two:=A.size;unfold keyOf;rw[hu]
  simp only
  have hf:Value.formed P kt (.agg #[.int q' a,.int q' b])=true:=by
   simp only[Value.formed,hu,two];rfl
  rw[if_pos (by rw[hkt,hf];rfl),hm]
  have hl:P.keyLits (m+1+1) kt [.int q' a,.int q' b]=some [.int q' a,.int q' b]:=by
   unfold Program.keyLits;rw[hu]
   simp only
   rw[if_pos (by rw[two];rfl),one]
   have e0:P.keyLits (m+1) e [.int q' a]=some [.int q' a]:=by
    unfold Program.keyLits;rw[hue];simp only;simp[Hl w1]
   have e1:P.keyLits (m+1) e [.int q' b]=some [.int q' b]:=by
    unfold Program.keyLits;rw[hue];simp only;simp[Hl w2]
   simp[List.range,List.range.loop,e0,e1]
  exact⟨_,by simp only[Value.cells];rw[hl];rfl⟩
 ·rename_i fs q a q' b q'' c hu;simp only[Bool.and_eq_true]at hk;obtain⟨hq,hq2,hA⟩:=hk;have:=JT hq;subst this;have:=JT hq2;subst this;unfold DN at hA;rw[hu]at hA;simp only[Bool.and_eq_true]at hA;obtain⟨h0,h1,h2,h3,h4,h5⟩:=hA;have three:=Nat.eq_of_beq_eq_true h4;obtain⟨l,rfl,hl⟩:=Xf hx;obtain⟨l1,rfl,hl1,w1⟩:=JD hl;obtain⟨l2,rfl,hl2,w2⟩:=JD hl1;obtain⟨l3,rfl,hl3,w3⟩:=JD hl2;cases hl3;refine⟨Maps.Keyed.of_law (deep_law (m:=2) (by omega) h2 h3 (by rw[hu])),?_⟩;obtain⟨m,hm⟩:∃ m,P.types.size=m+1:=⟨P.types.size - 1,by have:=Nat.le_of_ble_eq_true h0;omega⟩;unfold keyOf;rw[hu]
  simp only
  have hf:Value.formed P kt (.agg #[.int q'' a,.int q'' b,.int q'' c])=true:=by
   simp only[Value.formed,hu,three];rfl
  rw[if_pos (by rw[h1,hf];rfl),hm]
  have hlits:∃ ls,P.keyLits (m+1+1) kt [.int q'' a,.int q'' b,.int q'' c]=some ls:=by
   unfold qar at h5
   split at h5
   case h_2=>cases h5
   rename_i f0 f1 f2 hfs;unfold UM at h5;simp only[Bool.and_eq_true]at h5;obtain⟨n0,n1,n2,o0,o1,o2,⟨i0,c0⟩,⟨i1,c1⟩,⟨i2,c2⟩⟩:=h5;have o0:=Nat.eq_of_beq_eq_true o0;have o1:=Nat.eq_of_beq_eq_true o1;have o2:=Nat.eq_of_beq_eq_true o2;have c0:=Nat.eq_of_beq_eq_true c0;have c1:=Nat.eq_of_beq_eq_true c1;have c2:=Nat.eq_of_beq_eq_true c2
   have ty:∀ t,(match P.underlying t with | some (.int q')=>kbeq q' q'' | _=>false)=true→P.underlying t=some (.int q''):=fun t ht=>by
    split at ht
    ·rename_i q' hqq;have:=JT ht;subst this;exact hqq
    ·cases ht
   have k0:P.keyLits (m+1) f0.type [.int q'' a]=some [.int q'' a]:=by
    unfold Program.keyLits;rw[ty _ i0];simp only;simp[Hl w1]
   have k1:P.keyLits (m+1) f1.type [.int q'' b]=some [.int q'' b]:=by
    unfold Program.keyLits;rw[ty _ i1];simp only;simp[Hl w2]
   have k2:P.keyLits (m+1) f2.type [.int q'' c]=some [.int q'' c]:=by
    unfold Program.keyLits;rw[ty _ i2];simp only;simp[Hl w3]
   unfold Program.keyLits;rw[hu]
   simp only
   have hall : fs.all (·.name != "_") = true := by
    rw[← Array.all_toList,hfs]
    simp[n0,n1,n2]
   rw[if_pos ⟨by rw[three];rfl,hall⟩,hfs]
   simp[o0,o1,o2,c0,c1,c2,k0,k1,k2]
  obtain⟨ls,hls⟩:=hlits;exact⟨_,by simp only[Value.cells];rw[hls];rfl⟩
 ·cases hk
theorem HM:∀ {xs ys:List AV},ieqL xs ys=true→keyVs xs=keyVs ys
 | [],[],_=>rfl
 | .int k a::r,y::r',h=>by
  cases y <;> simp only[ieqL]at h <;> try cases h
  rename_i k' b;simp only[Bool.and_eq_true,beq_iff_eq]at h;obtain⟨⟨h1,h2⟩,h3⟩:=h;have:=JT h1;subst this;subst h2;simp only[keyVs,HM h3]
 | .int _ _::_,[],h=>by cases h
theorem HJ:∀ {xs ys:List AV} {l:List Value},keyVs xs=some l→keyVs ys=some l→ieqL xs ys=true
 | [],ys,l,h1,h2=>by
  cases h1
  cases ys with
  | nil=>rfl
  | cons y r =>
   cases y <;> simp only[keyVs]at h2 <;> try cases h2
   rename_i k n
   split at h2 <;> cases h2
 | x::r,ys,l,h1,h2=>by
  cases x <;> try (simp only[keyVs]at h1;cases h1;done)
  rename_i k n;obtain⟨l',rfl,e1,_⟩:=JD h1
  cases ys with
  | nil=>cases h2
  | cons y r' =>
   cases y <;> try (simp only[keyVs]at h2;cases h2;done)
   rename_i k' n';obtain⟨l2,e2,e3,_⟩:=JD h2;cases e2;simp only[ieqL,HJ e1 e3,qae,beq_self_eq_true,Bool.and_self]
theorem Zs {a b:AV} {x y:Value} (ha:a.keyV=some x) (hb:b.keyV=some y):akeq a b=true↔x=y:=by
 constructor
 ·intro h;unfold akeq at h
  split at h
  ·simp only[Bool.and_eq_true,beq_iff_eq]at h;have:=JT h.1;rw[(Ya ha).1,(Ya hb).1,this,h.2]
  ·obtain⟨l,rfl,e1⟩:=Xf ha;obtain⟨l',rfl,e2⟩:=Xf hb;rw[HM h,e2]at e1;cases e1;rfl
  ·cases h
 ·rintro rfl
  cases a <;> try (simp only[AV.keyV]at ha;cases ha;done)
  ·rename_i k n;obtain⟨rfl,_⟩:=Ya ha
   cases b <;> try (simp only[AV.keyV]at hb;cases hb;done)
   ·rename_i k' n';obtain⟨e,_⟩:=Ya hb;cases e;simp only[akeq,qae,beq_self_eq_true,Bool.and_self]
   ·obtain⟨l,e,_⟩:=Xf hb;cases e
  ·obtain⟨l,rfl,e1⟩:=Xf ha
   cases b <;> try (simp only[AV.keyV]at hb;cases hb;done)
   ·obtain⟨e,_⟩:=Ya hb;cases e
   ·obtain⟨l',e,e2⟩:=Xf hb
    have e3:l=l':=by simpa using congrArg (fun v=>match v with | Value.agg c=>c.toList | _=>[]) e
    rw[← e3]at e2;exact HJ e1 e2
theorem ZF {k:AV}:∀ {ks:List AV},findA k ks=none→∀ y,y∈ks→akeq y k=false
 | [],_,y,hy=>by cases hy
 | x::r,h,y,hy=>by
  simp only[findA]at h
  split at h
  ·cases h
  ·rename_i hx
   split at h
   ·cases h
   ·rename_i hr
    rcases List.mem_cons.1 hy with rfl | hy
    ·exact hx
    ·exact ZF hr y hy
theorem XP {k:AV}:∀ {ks:List AV} {j:Nat},findA k ks=some j→∃ y,ks[j]? = some y∧akeq y k=true
 | [],j,h=>by cases h
 | x::r,j,h=>by
  simp only[findA]at h
  split at h
  ·rename_i hx;cases h;exact⟨x,rfl,hx⟩
  ·split at h
   ·rename_i i hr;cases h;obtain⟨y,h1,h2⟩:=XP hr;exact⟨y,by simpa using h1,h2⟩
   ·cases h
theorem qej:∀ {cs:List AV} {l:List Value},keyVs cs=some l→cs.length=l.length∧∀ (j:Nat) c v,cs[j]? = some c→l[j]? = some v→R M c v
 | [],l,h=>by cases h;exact⟨rfl,fun j c v hc=>by cases hc⟩
 | c::r,l,h=>by
  cases c <;> try (simp only[keyVs]at h;cases h;done)
  rename_i k n;obtain⟨l',rfl,h1,_⟩:=JD h;obtain⟨h2,h3⟩:=qej h1;refine⟨by simp[h2],fun j c v hc hv=>?_⟩
  cases j with
  | zero=>cases hc;cases hv;exact .int _ _
  | succ j=>exact h3 j c v (by simpa using hc) (by simpa using hv)
theorem qhj {k:AV} {x:Value} (h:k.keyV=some x):R M k x:=by
 cases k <;> try (simp only[AV.keyV]at h;cases h;done)
 ·rw[(Ya h).1];exact .int _ _
 ·obtain⟨l,rfl,h1⟩:=Xf h;obtain⟨h2,h3⟩:=qej (M:=M) h1;exact .agg h2 h3
theorem qgK {cs:List AV}:∀ {l:List Value} {us:List Value},keyVs cs=some l→cs.length=us.length→(∀ (j:Nat) c v,cs[j]? = some c→us[j]? = some v→R M c v)→us=l:=by
 induction cs with
 | nil=>intro l us h h1 _;cases h;cases us with | nil=>rfl | cons u us=>simp at h1
 | cons c r ih =>
  intro l us h h1 h2
  cases c <;> try (simp only[keyVs]at h;cases h;done)
  rename_i k n;obtain⟨l',rfl,h3,_⟩:=JD h
  cases us with
  | nil=>simp at h1
  | cons u us =>
   have h4:=h2 0 _ u rfl rfl;cases h4
   have e1:=ih h3 (by simpa using h1) fun j c v hc hv=>h2 (j+1) c v (by simpa using hc) (by simpa using hv)
   rw[e1]
theorem qad {O:Gh} {k:AV} {v x:Value} (h:ValOk O M w k v) (hx:k.keyV=some x):v=x:=by
 cases k <;> try (simp only[AV.keyV]at hx;cases hx;done)
 ·rw[(Ya hx).1];have:=h.1;cases this;rfl
 ·obtain⟨l,rfl,h1⟩:=Xf hx;have:=h.1
  cases this with
  | agg h2 h3=>rw[qgK h1 h2 h3]
theorem YB {kt:TypeId} {k:AV} {x:Value} {ks vs:List AV} {es:Array MapEntry} {clock:Nat} (hk:keyFits P kt k=true) (hx:k.keyV=some x) (hall:ks.all (keyFits P kt)=true) (E:EntOk M es clock ks vs) :
  (∀ em,(Instr.checkKey em 10000 kt x).run P w=.ok () w)∧((Instr.keyThatStays x x).run P w=.ok x w) ∧
   ((findA k ks=none∧(Instr.findKey kt x es.toList).run P w=.ok none w∧∀ e∈es.toList,e.key≠x) ∨
    ∃ j e,findA k ks=some j∧(Instr.findKey kt x es.toList).run P w=.ok (some (j,e.val)) w∧es.toList[j]? = some e∧e.key=x):=by
 obtain⟨K,l,hl⟩:=ZD hk hx;obtain⟨hst,hsz,hkl,hvl,hke,hve⟩:=E;refine⟨fun em=>K.check w em hl,K.stays w hl,?_⟩
 have hks:∀ e,e∈es.toList→∃ l,keyOf P kt e.key=some l:=by
  intro e he;obtain⟨j,hj⟩:=List.mem_iff_getElem?.1 he
  have hjl:j<ks.length:=by
   have:=(List.getElem?_eq_some_iff.1 hj).1
   simp at this;omega
  have h1:=hke j _ e (List.getElem?_eq_getElem hjl) (by simpa using hj);exact (ZD (List.all_eq_true.1 hall _ (List.getElem_mem hjl)) h1).2
 rcases K.find w hl es.toList hks with ⟨h1,h2⟩ | ⟨j,e,h1,h2,h3⟩
 ·refine .inl ⟨?_,h1,h2⟩
  cases hf:findA k ks with
  | none=>rfl
  | some j =>
   obtain⟨y,k1,k2⟩:=XP hf;have hjl:=(List.getElem?_eq_some_iff.1 k1).1;have hje:es[j]? = some es[j]:=Array.getElem?_eq_getElem (by omega);have h4:=hke j y _ k1 hje;exact absurd ((Zs h4 hx).1 k2) (h2 _ (by simp))
 ·refine .inr ⟨j,e,?_,h1,h2,h3⟩
  have hje:es[j]? = some e:=by simpa using h2
  have hjl:j<ks.length:=by
   have:=(Array.getElem?_eq_some_iff.1 hje).1;omega
  have h4:=hke j _ e (List.getElem?_eq_getElem hjl) hje
  cases hf:findA k ks with
  | none =>
   have:=ZF hf _ (List.getElem_mem hjl);rw[(Zs h4 hx).2 h3]at this;cases this
  | some i =>
   obtain⟨y,k1,k2⟩:=XP hf;have hil:=(List.getElem?_eq_some_iff.1 k1).1;have hie:es[i]? = some es[i]:=Array.getElem?_eq_getElem (by omega);have h5:=hke i y _ k1 hie;have h6:=(Zs h5 hx).1 k2;have hpw:=((MapKept.stamped_iff es clock).1 hst).2.2
   congr 1
   refine Classical.byContradiction fun hne=>?_
   have hes:∀ a b:Nat,a<b→∀ p q,es.toList[a]? = some p→es.toList[b]? = some q→p.key≠q.key:=by
    intro a b hab p q hp hq;obtain⟨ha',rfl⟩:=List.getElem?_eq_some_iff.1 hp;obtain⟨hb',rfl⟩:=List.getElem?_eq_some_iff.1 hq;exact List.pairwise_iff_getElem.1 hpw a b ha' hb' hab
   rcases Nat.lt_or_gt_of_ne hne with hlt | hlt
   ·exact hes i j hlt _ e (by rw[Array.getElem?_toList];exact hie) h2 (h6.trans h3.symm)
   ·exact hes j i hlt e _ h2 (by rw[Array.getElem?_toList];exact hie) (h3.trans h6.symm)
theorem PermKV.keys {ks vs ks' vs':List AV} (h:PermKV ks vs ks' vs'):ks.Perm ks':=by
 obtain⟨h1,h2,h3⟩:=h;have:=h3.map Prod.fst
 rwa [List.map_fst_zip (by omega),List.map_fst_zip (by omega)]at this
theorem qap {kk:AV} {x:Value} {ks vs ks' vs':List AV} {es:Array MapEntry} {clock:Nat} (hx:kk.keyV=some x) (hp:PermKV ks vs ks' vs') (E:EntOk M es clock ks' vs') :
  (findA kk ks'=none→findA kk ks=none)∧∀ j,findA kk ks'=some j→∃ i,findA kk ks=some i∧vs[i]? = vs'[j]?:=by
 have hk:=hp.keys;obtain⟨hst,hsz,hkl,hvl,hke,hve⟩:=E;refine⟨fun hn=>?_,fun j hj=>?_⟩
 ·cases hf:findA kk ks with
  | none=>rfl
  | some i =>
   obtain⟨y,k1,k2⟩:=XP hf;have:=ZF hn y (hk.mem_iff.1 (List.mem_of_getElem? k1));rw[k2]at this;cases this
 ·obtain⟨y',k1,k2⟩:=XP hj
  cases hf:findA kk ks with
  | none =>
   have:=ZF hf y' (hk.mem_iff.2 (List.mem_of_getElem? k1));rw[k2]at this;cases this
  | some i =>
   obtain⟨y,q1,q2⟩:=XP hf;refine⟨i,rfl,?_⟩;have hil:=(List.getElem?_eq_some_iff.1 q1).1
   have hiv:i<vs.length:=by rw[← hp.1];exact hil
   have hz:(ks.zip vs)[i]? = some (y,vs[i]):=by
    rw[List.getElem?_zip_eq_some];exact⟨q1,List.getElem?_eq_getElem hiv⟩
   obtain⟨j',hj'⟩:=List.mem_iff_getElem?.1 (hp.2.2.mem_iff.1 (List.mem_of_getElem? hz));rw[List.getElem?_zip_eq_some]at hj';obtain⟨r1,r2⟩:=hj';have hjl:=(List.getElem?_eq_some_iff.1 k1).1;have hjl':=(List.getElem?_eq_some_iff.1 r1).1;have e1:=hke j y' _ k1 (Array.getElem?_eq_getElem (by omega));have e2:=hke j' y _ r1 (Array.getElem?_eq_getElem (by omega));have f1:=(Zs e1 hx).1 k2;have f2:=(Zs e2 hx).1 q2;have hpw:=((MapKept.stamped_iff es clock).1 hst).2.2
   have hjj:j=j':=by
    refine Classical.byContradiction fun hne=>?_
    rcases Nat.lt_or_gt_of_ne hne with hlt | hlt
    ·have:=List.pairwise_iff_getElem.1 hpw j j' (by simp;omega) (by simp;omega) hlt;simp only[Array.getElem_toList]at this;exact this (f1.trans f2.symm)
    ·have:=List.pairwise_iff_getElem.1 hpw j' j (by simp;omega) (by simp;omega) hlt;simp only[Array.getElem_toList]at this;exact this (f2.trans f1.symm)
   subst hjj;rw[r2];exact List.getElem?_eq_getElem hiv
theorem PermKV.take {ks vs ks' vs':List AV} (hp:PermKV ks vs ks' vs') {j:Nat} (hj:j<ks'.length) :
  ∃ i,i<ks.length∧ks[i]? = ks'[j]?∧vs[i]? = vs'[j]?∧PermKV (ks.eraseIdx i) (vs.eraseIdx i) (ks'.eraseIdx j) (vs'.eraseIdx j):=by
 obtain⟨h1,h2,h3⟩:=hp
 have hjv:j<vs'.length:=by omega
 have hz:(ks'.zip vs')[j]? = some (ks'[j],vs'[j]):=by
  rw[List.getElem?_zip_eq_some];exact⟨List.getElem?_eq_getElem hj,List.getElem?_eq_getElem hjv⟩
 obtain⟨i,hi⟩:=List.mem_iff_getElem?.1 (h3.mem_iff.2 (List.mem_of_getElem? hz));have hi':=hi;rw[List.getElem?_zip_eq_some]at hi';obtain⟨r1,r2⟩:=hi';have hik:=(List.getElem?_eq_some_iff.1 r1).1
 have hiv:i<vs.length:=by omega
 have zer:∀ (a b:List AV) (n:Nat),(a.eraseIdx n).zip (b.eraseIdx n)=(a.zip b).eraseIdx n:=by
  intro a
  induction a with
  | nil=>intro b n;simp
  | cons x a ih =>
   intro b n
   cases b with
   | nil=>simp
   | cons y b=>cases n with
    | zero=>simp
    | succ n=>simp[ih]
 have per:∀ {α:Type} (l:List α) (n:Nat) (x:α),l[n]? = some x→l.Perm (x::l.eraseIdx n):=by
  intro α l
  induction l with
  | nil=>intro n x hx;simp at hx
  | cons a l ih =>
   intro n x hx
   cases n with
   | zero=>simp at hx;subst hx;simp
   | succ n =>
    have:=ih n x (by simpa using hx);simp only[List.eraseIdx_cons_succ];exact (this.cons a).trans (List.Perm.swap _ _ _)
 refine⟨i,hik,by rw[r1,List.getElem?_eq_getElem hj],by rw[r2,List.getElem?_eq_getElem hjv],?_,?_,?_⟩
 ·rw[List.length_eraseIdx,List.length_eraseIdx,if_pos hik,if_pos hiv,h1]
 ·rw[List.length_eraseIdx,List.length_eraseIdx,if_pos hj,if_pos hjv,h2]
 ·rw[zer,zer];exact ((per _ _ _ hi).symm.trans (h3.trans (per _ _ _ hz))).cons_inv
end
end Go.AM
