import Derived.Test.YtoiejpkfpjingaaASimC
import Derived.Laws.BytesArg
set_option linter.all false
open Go.Sem renaming run_bind→A0, run_pure→A1
open Go.Result renaming andThen_ok→A2, andThen→C7
open Nat renaming eq_of_beq_eq_true→A3, add_assoc→B7, le_of_ble_eq_true→C4
open List renaming getElem?_eq_getElem→A4, mem_of_getElem?→A6, getElem?_map→A8, getElem?_zip_eq_some→B5, length_eraseIdx→B6, map_cons→B9, map_toArray→C8, map_nil→D0
open Bool renaming and_eq_true→A5
open Array renaming ext'→A7, getElem?_eq_getElem→A9, getElem?_toList→D1, getElem_toList→D2, eq_empty_of_size_eq_zero→D3
open Go.MapKept renaming stamped_iff→C5, run_getObj_map→D4
open Option renaming map_some→C6
namespace Go.AM
open Go.RowKit Go.WideShapes
section
variable {P:Program} {M:Mem} {w:World}
theorem Do {k:IntKind} {n:Int} (h:wfI k n=true):(Lit.int k n).wf=true:=h
theorem qbl (k:IntKind):kbeq k k=true:=by cases k <;> rfl
theorem YT {k:IntKind} {n:Int} {x:Value} (h:(AV.int k n).keyV=some x):x=.int k n∧wfI k n=true:=by
 simp only[AV.keyV]at h;split at h
 ·rename_i hw;cases h;exact⟨rfl,hw⟩
 ·cases h
theorem Xl {k:IntKind} {n:Int} {r:List AV} {l:List Value} (h:keyVs (.int k n::r)=some l):∃ l',l=.int k n::l'∧keyVs r=some l'∧wfI k n=true:=by
 simp only[keyVs]at h;split at h
 ·rename_i l' hw hl;cases h;exact⟨l',rfl,hl,hw⟩
 ·cases h
theorem Yo {cs:List AV} {x:Value} (h:(AV.agg cs).keyV=some x):∃ l,x=.agg l.toArray∧keyVs cs=some l:=by
 simp only[AV.keyV]at h;split at h
 ·rename_i l hl;cases h;exact⟨l,rfl,hl⟩
 ·cases h
theorem UQ {kt:TypeId} {k:AV} {x:Value} (hk:keyFits P kt k=true) (hx:k.keyV=some x):Maps.Keyed P kt∧∃ l,keyOf P kt x=some l:=by
 unfold keyFits at hk;split at hk
 ·rename_i q q' n hu;have:=QJ hk;subst this;obtain⟨rfl,hw⟩:=YT hx;exact⟨Maps.int_keyed hu,_,Maps.keyOf_int_mk hu hw⟩
 ·rename_i n e q a q' b hu;simp only[A5]at hk;obtain⟨hn,hq,hA⟩:=hk;have:=A3 hn;subst this;have:=QJ hq;subst this;unfold arrKey at hA;simp only[A5]at hA;obtain⟨h0,h1,h2,h3,h4⟩:=hA;have A:WideMaps.ArrKey P kt e 2:=⟨hu,h1,A3 h2,A3 h3⟩;obtain⟨l,rfl,hl⟩:=Yo hx;obtain⟨l1,rfl,hl1,w1⟩:=Xl hl;obtain⟨l2,rfl,hl2,w2⟩:=Xl hl1;cases hl2;refine⟨Maps.Keyed.of_law A.law,?_⟩;have hsz:∃ m,P.types.size=m+1:=⟨P.types.size - 1,by have:=C4 h0;omega⟩;obtain⟨m,hm⟩:=hsz
  have hue:P.underlying e=some (.int q'):=by
   split at h4
   ·rename_i q'' hqq;have:=QJ h4;subst this;exact hqq
   ·cases h4
  have hkt:=A.keyType ⟨m,hm⟩;have one:=A.one;have two:=A.size;unfold keyOf;rw[hu];simp only
  have hf:Value.formed P kt (.agg #[.int q' a,.int q' b])=true:=by
   simp only[Value.formed,hu,two];rfl
  rw[if_pos (by rw[hkt,hf];rfl),hm]
  have hl:P.keyLits (m+1+1) kt [.int q' a,.int q' b]=some [.int q' a,.int q' b]:=by
   unfold Program.keyLits;rw[hu];simp only;rw[if_pos (by rw[two];rfl),one]
   have e0:P.keyLits (m+1) e [.int q' a]=some [.int q' a]:=by
    unfold Program.keyLits;rw[hue];simp only;simp[Do w1]
   have e1:P.keyLits (m+1) e [.int q' b]=some [.int q' b]:=by
    unfold Program.keyLits;rw[hue];simp only;simp[Do w2]
   simp[List.range,List.range.loop,e0,e1]
  exact⟨_,by simp only[Value.cells];rw[hl];rfl⟩
 ·rename_i fs q a q' b q'' c hu;simp only[A5]at hk;obtain⟨hq,hq2,hA⟩:=hk;have:=QJ hq;subst this;have:=QJ hq2;subst this;unfold qaN at hA;rw[hu]at hA;simp only[A5]at hA;obtain⟨h0,h1,h2,h3,h4,h5⟩:=hA;have three:=A3 h4;obtain⟨l,rfl,hl⟩:=Yo hx;obtain⟨l1,rfl,hl1,w1⟩:=Xl hl;obtain⟨l2,rfl,hl2,w2⟩:=Xl hl1;obtain⟨l3,rfl,hl3,w3⟩:=Xl hl2;cases hl3;refine⟨Maps.Keyed.of_law (deep_law (m:=2) (by omega) h2 h3 (by rw[hu])),?_⟩;obtain⟨m,hm⟩:∃ m,P.types.size=m+1:=⟨P.types.size - 1,by have:=C4 h0;omega⟩;unfold keyOf;rw[hu];simp only
  have hf:Value.formed P kt (.agg #[.int q'' a,.int q'' b,.int q'' c])=true:=by
   simp only[Value.formed,hu,three];rfl
  rw[if_pos (by rw[h1,hf];rfl),hm]
  have hlits:∃ ls,P.keyLits (m+1+1) kt [.int q'' a,.int q'' b,.int q'' c]=some ls:=by
   unfold qbv at h5;split at h5
   case h_2=>cases h5
   rename_i f0 f1 f2 hfs;unfold Ns at h5;simp only[A5]at h5;obtain⟨n0,n1,n2,o0,o1,o2,⟨i0,c0⟩,⟨i1,c1⟩,⟨i2,c2⟩⟩:=h5;have o0:=A3 o0;have o1:=A3 o1;have o2:=A3 o2;have c0:=A3 c0;have c1:=A3 c1;have c2:=A3 c2
   have ty:∀ t,(match P.underlying t with | some (.int q')=>kbeq q' q'' | _=>false)=true→P.underlying t=some (.int q''):=fun t ht=>by
    split at ht
    ·rename_i q' hqq;have:=QJ ht;subst this;exact hqq
    ·cases ht
   have k0:P.keyLits (m+1) f0.type [.int q'' a]=some [.int q'' a]:=by
    unfold Program.keyLits;rw[ty _ i0];simp only;simp[Do w1]
   have k1:P.keyLits (m+1) f1.type [.int q'' b]=some [.int q'' b]:=by
    unfold Program.keyLits;rw[ty _ i1];simp only;simp[Do w2]
   have k2:P.keyLits (m+1) f2.type [.int q'' c]=some [.int q'' c]:=by
    unfold Program.keyLits;rw[ty _ i2];simp only;simp[Do w3]
   unfold Program.keyLits;rw[hu];simp only
   have hall : fs.all (·.name != "_") = true := by
    rw[← Array.all_toList,hfs];simp[n0,n1,n2]
   rw[if_pos ⟨by rw[three];rfl,hall⟩,hfs];simp[o0,o1,o2,c0,c1,c2,k0,k1,k2]
  obtain⟨ls,hls⟩:=hlits;exact⟨_,by simp only[Value.cells];rw[hls];rfl⟩
 ·cases hk
theorem DR:∀ {xs ys:List AV},ieqL xs ys=true→keyVs xs=keyVs ys
 | [],[],_=>rfl
 | .int k a::r,y::r',h=>by
  cases y <;> simp only[ieqL]at h <;> try cases h
  rename_i k' b;simp only[A5,beq_iff_eq]at h;obtain⟨⟨h1,h2⟩,h3⟩:=h;have:=QJ h1;subst this;subst h2;simp only[keyVs,DR h3]
 | .int _ _::_,[],h=>by cases h
theorem DO:∀ {xs ys:List AV} {l:List Value},keyVs xs=some l→keyVs ys=some l→ieqL xs ys=true
 | [],ys,l,h1,h2=>by
  cases h1
  cases ys with
  | nil=>rfl
  | cons y r =>
   cases y <;> simp only[keyVs]at h2 <;> try cases h2
   rename_i k n;split at h2 <;> cases h2
 | x::r,ys,l,h1,h2=>by
  cases x <;> try (simp only[keyVs]at h1;cases h1;done)
  rename_i k n;obtain⟨l',rfl,e1,_⟩:=Xl h1
  cases ys with
  | nil=>cases h2
  | cons y r' =>
   cases y <;> try (simp only[keyVs]at h2;cases h2;done)
   rename_i k' n';obtain⟨l2,e2,e3,_⟩:=Xl h2;cases e2;simp only[ieqL,DO e1 e3,qbl,beq_self_eq_true,Bool.and_self]
theorem Vg {a b:AV} {x y:Value} (ha:a.keyV=some x) (hb:b.keyV=some y):akeq a b=true↔x=y:=by
 constructor
 ·intro h;unfold akeq at h;split at h
  ·simp only[A5,beq_iff_eq]at h;have:=QJ h.1;rw[(YT ha).1,(YT hb).1,this,h.2]
  ·obtain⟨l,rfl,e1⟩:=Yo ha;obtain⟨l',rfl,e2⟩:=Yo hb;rw[DR h,e2]at e1;cases e1;rfl
  ·cases h
 ·rintro rfl
  cases a <;> try (simp only[AV.keyV]at ha;cases ha;done)
  ·rename_i k n;obtain⟨rfl,_⟩:=YT ha
   cases b <;> try (simp only[AV.keyV]at hb;cases hb;done)
   ·rename_i k' n';obtain⟨e,_⟩:=YT hb;cases e;simp only[akeq,qbl,beq_self_eq_true,Bool.and_self]
   ·obtain⟨l,e,_⟩:=Yo hb;cases e
  ·obtain⟨l,rfl,e1⟩:=Yo ha
   cases b <;> try (simp only[AV.keyV]at hb;cases hb;done)
   ·obtain⟨e,_⟩:=YT hb;cases e
   ·obtain⟨l',e,e2⟩:=Yo hb
    have e3:l=l':=by simpa using congrArg (fun v=>match v with | Value.agg c=>c.toList | _=>[]) e
    rw[← e3]at e2;exact DO e1 e2
theorem Vy {k:AV}:∀ {ks:List AV},findA k ks=none→∀ y,y∈ks→akeq y k=false
 | [],_,y,hy=>by cases hy
 | x::r,h,y,hy=>by
  simp only[findA]at h;split at h
  ·cases h
  ·rename_i hx;split at h
   ·cases h
   ·rename_i hr
    rcases List.mem_cons.1 hy with rfl | hy
    ·exact hx
    ·exact Vy hr y hy
theorem YE {k:AV}:∀ {ks:List AV} {j:Nat},findA k ks=some j→∃ y,ks[j]? = some y∧akeq y k=true
 | [],j,h=>by cases h
 | x::r,j,h=>by
  simp only[findA]at h;split at h
  ·rename_i hx;cases h;exact⟨x,rfl,hx⟩
  ·split at h
   ·rename_i i hr;cases h;obtain⟨y,h1,h2⟩:=YE hr;exact⟨y,by simpa using h1,h2⟩
   ·cases h
theorem qfe:∀ {cs:List AV} {l:List Value},keyVs cs=some l→cs.length=l.length∧∀ (j:Nat) c v,cs[j]? = some c→l[j]? = some v→R M c v
 | [],l,h=>by cases h;exact⟨rfl,fun j c v hc=>by cases hc⟩
 | c::r,l,h=>by
  cases c <;> try (simp only[keyVs]at h;cases h;done)
  rename_i k n;obtain⟨l',rfl,h1,_⟩:=Xl h;obtain⟨h2,h3⟩:=qfe h1;refine⟨by simp[h2],fun j c v hc hv=>?_⟩
  cases j with
  | zero=>cases hc;cases hv;exact .int _ _
  | succ j=>exact h3 j c v (by simpa using hc) (by simpa using hv)
theorem qid {k:AV} {x:Value} (h:k.keyV=some x):R M k x:=by
 cases k <;> try (simp only[AV.keyV]at h;cases h;done)
 ·rw[(YT h).1];exact .int _ _
 ·obtain⟨l,rfl,h1⟩:=Yo h;obtain⟨h2,h3⟩:=qfe (M:=M) h1;exact .agg h2 h3
theorem qhK {cs:List AV}:∀ {l:List Value} {us:List Value},keyVs cs=some l→cs.length=us.length→(∀ (j:Nat) c v,cs[j]? = some c→us[j]? = some v→R M c v)→us=l:=by
 induction cs with
 | nil=>intro l us h h1 _;cases h;cases us with | nil=>rfl | cons u us=>simp at h1
 | cons c r ih =>
  intro l us h h1 h2
  cases c <;> try (simp only[keyVs]at h;cases h;done)
  rename_i k n;obtain⟨l',rfl,h3,_⟩:=Xl h
  cases us with
  | nil=>simp at h1
  | cons u us =>
   have h4:=h2 0 _ u rfl rfl;cases h4
   have e1:=ih h3 (by simpa using h1) fun j c v hc hv=>h2 (j+1) c v (by simpa using hc) (by simpa using hv)
   rw[e1]
theorem qbk {O:Gh} {k:AV} {v x:Value} (h:ValOk O M w k v) (hx:k.keyV=some x):v=x:=by
 cases k <;> try (simp only[AV.keyV]at hx;cases hx;done)
 ·rw[(YT hx).1];have:=h.1;cases this;rfl
 ·obtain⟨l,rfl,h1⟩:=Yo hx;have:=h.1
  cases this with
  | agg h2 h3=>rw[qhK h1 h2 h3]
theorem Xm {kt:TypeId} {k:AV} {x:Value} {ks vs:List AV} {es:Array MapEntry} {clock:Nat} (hk:keyFits P kt k=true) (hx:k.keyV=some x) (hall:ks.all (keyFits P kt)=true) (E:EntOk M es clock ks vs) :
  (∀ em,(Instr.checkKey em 10000 kt x).run P w=.ok () w)∧((Instr.keyThatStays x x).run P w=.ok x w) ∧
   ((findA k ks=none∧(Instr.findKey kt x es.toList).run P w=.ok none w∧∀ e∈es.toList,e.key≠x) ∨
    ∃ j e,findA k ks=some j∧(Instr.findKey kt x es.toList).run P w=.ok (some (j,e.val)) w∧es.toList[j]? = some e∧e.key=x):=by
 obtain⟨K,l,hl⟩:=UQ hk hx;obtain⟨hst,hsz,hkl,hvl,hke,hve⟩:=E;refine⟨fun em=>K.check w em hl,K.stays w hl,?_⟩
 have hks:∀ e,e∈es.toList→∃ l,keyOf P kt e.key=some l:=by
  intro e he;obtain⟨j,hj⟩:=List.mem_iff_getElem?.1 he
  have hjl:j<ks.length:=by
   have:=(List.getElem?_eq_some_iff.1 hj).1;simp at this;omega
  have h1:=hke j _ e (A4 hjl) (by simpa using hj);exact (UQ (List.all_eq_true.1 hall _ (List.getElem_mem hjl)) h1).2
 rcases K.find w hl es.toList hks with ⟨h1,h2⟩ | ⟨j,e,h1,h2,h3⟩
 ·refine .inl ⟨?_,h1,h2⟩
  cases hf:findA k ks with
  | none=>rfl
  | some j =>
   obtain⟨y,k1,k2⟩:=YE hf;have hjl:=(List.getElem?_eq_some_iff.1 k1).1;have hje:es[j]? = some es[j]:=A9 (by omega);have h4:=hke j y _ k1 hje;exact absurd ((Vg h4 hx).1 k2) (h2 _ (by simp))
 ·refine .inr ⟨j,e,?_,h1,h2,h3⟩
  have hje:es[j]? = some e:=by simpa using h2
  have hjl:j<ks.length:=by
   have:=(Array.getElem?_eq_some_iff.1 hje).1;omega
  have h4:=hke j _ e (A4 hjl) hje
  cases hf:findA k ks with
  | none =>
   have:=Vy hf _ (List.getElem_mem hjl);rw[(Vg h4 hx).2 h3]at this;cases this
  | some i =>
   obtain⟨y,k1,k2⟩:=YE hf;have hil:=(List.getElem?_eq_some_iff.1 k1).1;have hie:es[i]? = some es[i]:=A9 (by omega);have h5:=hke i y _ k1 hie;have h6:=(Vg h5 hx).1 k2;have hpw:=((C5 es clock).1 hst).2.2
   congr 1
   refine Classical.byContradiction fun hne=>?_
   have hes:∀ a b:Nat,a<b→∀ p q,es.toList[a]? = some p→es.toList[b]? = some q→p.key≠q.key:=by
    intro a b hab p q hp hq;obtain⟨ha',rfl⟩:=List.getElem?_eq_some_iff.1 hp;obtain⟨hb',rfl⟩:=List.getElem?_eq_some_iff.1 hq;exact List.pairwise_iff_getElem.1 hpw a b ha' hb' hab
   rcases Nat.lt_or_gt_of_ne hne with hlt | hlt
   ·exact hes i j hlt _ e (by rw[D1];exact hie) h2 (h6.trans h3.symm)
   ·exact hes j i hlt e _ h2 (by rw[D1];exact hie) (h3.trans h6.symm)
theorem PermKV.keys {ks vs ks' vs':List AV} (h:PermKV ks vs ks' vs'):ks.Perm ks':=by
 obtain⟨h1,h2,h3⟩:=h;have:=h3.map Prod.fst
 rwa [List.map_fst_zip (by omega),List.map_fst_zip (by omega)]at this
theorem qgd {kk:AV} {x:Value} {ks vs ks' vs':List AV} {es:Array MapEntry} {clock:Nat} (hx:kk.keyV=some x) (hp:PermKV ks vs ks' vs') (E:EntOk M es clock ks' vs') :
  (findA kk ks'=none→findA kk ks=none)∧∀ j,findA kk ks'=some j→∃ i,findA kk ks=some i∧vs[i]? = vs'[j]?:=by
 have hk:=hp.keys;obtain⟨hst,hsz,hkl,hvl,hke,hve⟩:=E;refine⟨fun hn=>?_,fun j hj=>?_⟩
 ·cases hf:findA kk ks with
  | none=>rfl
  | some i =>
   obtain⟨y,k1,k2⟩:=YE hf;have:=Vy hn y (hk.mem_iff.1 (A6 k1));rw[k2]at this;cases this
 ·obtain⟨y',k1,k2⟩:=YE hj
  cases hf:findA kk ks with
  | none =>
   have:=Vy hf y' (hk.mem_iff.2 (A6 k1));rw[k2]at this;cases this
  | some i =>
   obtain⟨y,q1,q2⟩:=YE hf;refine⟨i,rfl,?_⟩;have hil:=(List.getElem?_eq_some_iff.1 q1).1
   have hiv:i<vs.length:=by rw[← hp.1];exact hil
   have hz:(ks.zip vs)[i]? = some (y,vs[i]):=by
    rw[B5];exact⟨q1,A4 hiv⟩
   obtain⟨j',hj'⟩:=List.mem_iff_getElem?.1 (hp.2.2.mem_iff.1 (A6 hz));rw[B5]at hj';obtain⟨r1,r2⟩:=hj';have hjl:=(List.getElem?_eq_some_iff.1 k1).1;have hjl':=(List.getElem?_eq_some_iff.1 r1).1;have e1:=hke j y' _ k1 (A9 (by omega));have e2:=hke j' y _ r1 (A9 (by omega));have f1:=(Vg e1 hx).1 k2;have f2:=(Vg e2 hx).1 q2;have hpw:=((C5 es clock).1 hst).2.2
   have hjj:j=j':=by
    refine Classical.byContradiction fun hne=>?_
    rcases Nat.lt_or_gt_of_ne hne with hlt | hlt
    ·have:=List.pairwise_iff_getElem.1 hpw j j' (by simp;omega) (by simp;omega) hlt;simp only[D2]at this;exact this (f1.trans f2.symm)
    ·have:=List.pairwise_iff_getElem.1 hpw j' j (by simp;omega) (by simp;omega) hlt;simp only[D2]at this;exact this (f2.trans f1.symm)
   subst hjj;rw[r2];exact A4 hiv
theorem PermKV.take {ks vs ks' vs':List AV} (hp:PermKV ks vs ks' vs') {j:Nat} (hj:j<ks'.length) :
  ∃ i,i<ks.length∧ks[i]? = ks'[j]?∧vs[i]? = vs'[j]?∧PermKV (ks.eraseIdx i) (vs.eraseIdx i) (ks'.eraseIdx j) (vs'.eraseIdx j):=by
 obtain⟨h1,h2,h3⟩:=hp
 have hjv:j<vs'.length:=by omega
 have hz:(ks'.zip vs')[j]? = some (ks'[j],vs'[j]):=by
  rw[B5];exact⟨A4 hj,A4 hjv⟩
 obtain⟨i,hi⟩:=List.mem_iff_getElem?.1 (h3.mem_iff.2 (A6 hz));have hi':=hi;rw[B5]at hi';obtain⟨r1,r2⟩:=hi';have hik:=(List.getElem?_eq_some_iff.1 r1).1
 have hiv:i<vs.length:=by omega
 have zer:∀ (a b:List AV) (n:Nat),(a.eraseIdx n).zip (b.eraseIdx n)=(a.zip b).eraseIdx n:=by
  intro a
  induction a with
  | nil=>intro b n;simp
  | cons x a ih =>
   intro b n
   cases b with
   | nil=>simp
   | cons y b=>cases n with
    | zero=>simp
    | succ n=>simp[ih]
 have per:∀ {α:Type} (l:List α) (n:Nat) (x:α),l[n]? = some x→l.Perm (x::l.eraseIdx n):=by
  intro α l
  induction l with
  | nil=>intro n x hx;simp at hx
  | cons a l ih =>
   intro n x hx
   cases n with
   | zero=>simp at hx;subst hx;simp
   | succ n =>
    have:=ih n x (by simpa using hx);simp only[List.eraseIdx_cons_succ];exact (this.cons a).trans (List.Perm.swap _ _ _)
 refine⟨i,hik,by rw[r1,A4 hj],by rw[r2,A4 hjv],?_,?_,?_⟩
 ·rw[B6,B6,if_pos hik,if_pos hiv,h1]
 ·rw[B6,B6,if_pos hj,if_pos hjv,h2]
 ·rw[zer,zer];exact ((per _ _ _ hi).symm.trans (h3.trans (per _ _ _ hz))).cons_inv
end
end Go.AM
namespace Go.AM
open Go.RowKit
section
variable {bs:Base} {n:Nat} {M:Mem} {O:Gh} {env:Env} {a:Act} {w:World} {P:Program}
theorem VA {t:TypeId} {f o ft sz:Nat} (h:fieldPl P t f=some (o,ft,sz)):∃ fs fd,P.underlying t=some (.struct fs)∧fs[f]? = some fd∧fd.offset=o∧fd.type=ft∧tSize P ft=some sz:=by
 unfold fieldPl at h;split at h
 case h_2=>cases h
 rename_i fs hu;split at h
 case h_2=>cases h
 rename_i fd hf;split at h
 case h_2=>cases h
 rename_i s hs;cases h;exact⟨fs,fd,hu,hf,rfl,rfl,hs⟩
theorem VR {t:TypeId} {f o ft sz:Nat} (h:fieldPl P t f=some (o,ft,sz)) (h0:Nat.blt 0 sz=true) (b off:Nat):(Instr.fieldAt t (.pointer (some ⟨b,off,none⟩)) f).run P w=.ok (.pointer (some ⟨b,off+o,none⟩)) w:=by
 obtain⟨fs,fd,hu,hf,e1,e2,hs⟩:=VA h;have h0':0<sz:=C4 h0;unfold Instr.fieldAt;rw[A0,run_underlying hu];simp only[A2,hf,Instr.sureAddr];rw[A0];simp only[A1,A2];unfold fieldPlace;rw[A0,A0,JD (by rw[e2];exact hs)];simp only[A2];rw[if_neg (by omega)];simp only[A1,A2,QN,e1]
theorem NS (h:Inv bs n M O env a w) {o:Oper} {t:TypeId} {x:Operand} {f:Nat} (ho:o.op=.fieldAddr t x f) {p r:AV} (hp:aop env x=some p) (hr:UY P t f p=some r):Simple P O M a w o r:=by
 have hx:=qD h hp
 have he:execOp a.eval o=vS (Instr.fieldAt t (a.eval x) f):=by unfold execOp;rw[ho];rfl
 unfold UY at hr;split at hr
 ·rename_i s off;split at hr
  case h_2=>cases hr
  rename_i q o' ft sz hf;split at hr
  case h_2=>cases hr
  rename_i h0;cases hr;obtain⟨g,h1,h2⟩:=hx;exact⟨_,by rw[he,h1];exact VD (VR hf h0 g off),g,rfl,h2⟩
 ·rename_i y;split at hr
  case h_2=>cases hr
  rename_i o' ft sz hf;split at hr
  case h_2=>cases hr
  rename_i h0
  cases hc:cut P ft y.cells o' with
  | none=>rw[hc]at hr;cases hr
  | some z =>
   rw[hc]at hr;cases hr;obtain⟨b,off,us,h1,h2,h3,h4⟩:=hx.1.ptr_inv;refine⟨_,by rw[he,h1];exact VD (VR hf h0 b off),?_,trivial⟩;refine R.ptr (fun j=>us (o'+j)) ?_ ?_ ?_
   ·intro j c hcj;obtain⟨q,hq,_⟩:=Zo hc j c hcj;rw[B7];exact h2 _ _ hq
   ·intro j c hcj;obtain⟨q,hq,e⟩:=Zo hc j c hcj
    rcases e with e | e <;> rw[e]
    ·exact h3 _ _ hq
    ·exact (h3 _ _ hq).strip
   ·intro j c hcj;obtain⟨q,hq,e⟩:=Zo hc j c hcj;exact h4 _ _ hq
 ·rename_i id k j oo;split at hr
  case h_2=>cases hr
  rename_i q o' ft sz hf;split at hr
  case h_2=>cases hr
  rename_i h0;cases hr;obtain⟨g,h1,h2⟩:=hx;exact⟨_,by rw[he,h1];exact VD (VR hf h0 g _),g,by rw[B7],h2⟩
 ·cases hr
theorem qbz {t:TypeId} {cs:List AV} {off:Nat} {r:AV} (hc:cut P t cs off=some r):(P.underlying t).isSome=true:=by
 unfold cut at hc;split at hc
 ·cases hc
 ·split at hc
  ·cases hc
  ·rename_i hb;simp only[A5]at hb;exact hb.2
theorem Vq {t:TypeId} {cs:List AV} {vs:List Value} {off:Nat} {r:AV} (hc:cut P t cs off=some r) (hl:cs.length=vs.length) (hR:∀ (j:Nat) c v,cs[j]? = some c→vs[j]? = some v→R M c v∧OwnV O M w c v) :
  ∃ v,(part t vs.toArray off).run P w=.ok v w∧ValOk O M w r v:=by
 have hR':∀ (j:Nat) c,cs[j]? = some c→R M c (vs.getD j undef)∧OwnV O M w c (vs.getD j undef):=by
  intro j c hj
  have hjl:j<vs.length:=by rw[← hl];exact (List.getElem?_eq_some_iff.1 hj).1
  refine hR j c _ hj ?_;simp[hjl]
 rcases qby (O:=O) (w:=w) (M:=M) hc (fun j=>vs.getD j undef) hR' with ⟨hag,sz,hsz,hle,hv⟩ | ⟨hag,hlt,hv,_⟩
 ·refine⟨_,?_,hv⟩;unfold part;rw[A0,Uk (qbz hc),hag];simp only[A2,if_true];rw[A0,JD hsz];simp only[A2,A1]
  congr 2
  apply A7;rw[hl]at hle;apply List.ext_getElem?;intro j;rw[Qa];simp only[Array.toList_extract,List.extract_eq_take_drop,List.getElem?_take,List.getElem?_drop];by_cases hj:j<sz
  ·have h2:off+j<vs.length:=by omega
   rw[if_pos hj,if_pos (by omega)];simp[h2]
  ·rw[if_neg hj,if_neg (by omega)]
 ·refine⟨_,Zh hag (fun e=>by have:=qbz hc;rw[e]at this;cases this) ?_,hv⟩;rw[hl]at hlt;simp[hlt]
theorem qbS (h:Inv bs n M O env a w) {o:Oper} {t:TypeId} {x:Operand} {f:Nat} (ho:o.op=.field t x f) {cs:List AV} {o' ft sz:Nat} {r:AV} (hp:aop env x=some (.agg cs)) (hf:fieldPl P t f=some (o',ft,sz)) (hr:cut P ft (cs.map AV.strip) o'=some r):Simple P O M a w o r:=by
 have hx:=qD h hp
 have he:execOp a.eval o=vS (Instr.field t (a.eval x) f):=by unfold execOp;rw[ho];rfl
 obtain⟨fs,fd,hu,hfd,e1,e2,hs⟩:=VA hf;obtain⟨vs,e,l,c⟩:=hx.1.agg_inv
 obtain⟨v,h1,h2⟩:=Vq (O:=O) (w:=w) (M:=M) hr (vs:=vs) (by simpa using l) (by
  intro j c' v hj hv;rw[A8]at hj
  cases hz:cs[j]? with
  | none=>rw[hz]at hj;cases hj
  | some z' =>
   rw[hz]at hj;cases hj
   exact⟨(c j z' v hz hv).strip,XY _ _⟩)
 refine⟨v,?_,h2⟩;rw[he,e];refine VD ?_;unfold Instr.field;rw[A0,run_underlying hu];simp only[A2,hfd,asAgg];rw[A0];simp only[A1,A2,e1,e2];exact h1
theorem qat (h:Inv bs n M O env a w) {o:Oper} {t:TypeId} {x:Operand} {f:Nat} (ho:o.op=.field t x f) {cs:List AV} {o' ft sz:Nat} {r:AV} (hp:aop env x=some (.agr cs)) (hf:fieldPl P t f=some (o',ft,sz)) (hr:cutG P ft cs o'=some r):Simple P O M a w o r:=by
 obtain⟨vs,e,l,c⟩:=qD h hp
 have he:execOp a.eval o=vS (Instr.field t (a.eval x) f):=by unfold execOp;rw[ho];rfl
 obtain⟨fs,fd,hu,hfd,e1,e2,hs⟩:=VA hf
 have fin:∀ v,(part ft vs.toArray o').run P w=.ok v w→ValOk O M w r v→Simple P O M a w o r:=by
  intro v h1 h2;refine⟨v,?_,h2⟩;rw[he,e];refine VD ?_;unfold Instr.field;rw[A0,run_underlying hu];simp only[A2,hfd,asAgg];rw[A0];simp only[A1,A2,e1,e2];exact h1
 unfold cutG at hr;split at hr
 ·rename_i v0 hcut;cases hr
  obtain⟨v,h1,h2⟩:=Vq (O:=O) (w:=w) (M:=M) hcut (vs:=vs) (by simpa using l) (by
   intro j c' v hj hv;rw[A8]at hj
   cases hz:cs[j]? with
   | none=>rw[hz]at hj;cases hj
   | some z' =>
    rw[hz]at hj;cases hj
    exact (c j z' v hz hv).1.san)
  exact fin v h1 h2
 split at hr
 ·cases hr
 rename_i sz' hsz'
 have raw:∀ z,cs[o']? = some z→(Nat.beq sz' 1 && !tAgg P ft && (P.underlying ft).isSome)=true→∃ u,vs[o']? = some u∧(part ft vs.toArray o').run P w=.ok u w∧CellR O M 0 z u:=by
  intro z hz hcond;simp only[A5,Bool.not_eq_true']at hcond
  have hlt:o'<vs.length:=by rw[← l];exact (List.getElem?_eq_some_iff.1 hz).1
  refine⟨vs[o'],A4 hlt,Zh hcond.1.2 (fun e=>by rw[e]at hcond;cases hcond.2) (by simp[hlt]),(c o' z _ hz (A4 hlt)).1⟩
 split at hr
 ·rename_i id e' k o2 m hcond hc;cases hr;obtain⟨u,_,h1,h2⟩:=raw _ hc hcond;exact fin u h1 h2
 ·rename_i id hcond hc;cases hr;obtain⟨u,_,h1,h2⟩:=raw _ hc hcond;exact fin u h1 h2.2
 ·cases hr
theorem R.lst_inv {e k l xs v} (h:R M (.lst e k l xs) v):(xs=[]∧(v=.slice none 0 0∨∃ ad cap,v=.slice (some ad) 0 cap))∨∃ (b off cap:Nat) (us:Nat→Value),v=.slice (some ⟨b,off,none⟩) xs.length cap∧xs.length≤cap∧(∀ x,x∈xs→x.cells.length=k)∧(∀ (j:Nat) c,(flat xs)[j]? = some c→M b (off+j)=some (us j))∧(∀ (j:Nat) c,(flat xs)[j]? = some c→R M c (us j))∧(∀ x,x∈xs→x.cells.all AV.one=true):=by
 cases h with
 | lstn=>exact .inl ⟨rfl,.inl rfl⟩
 | lste=>exact .inl ⟨rfl,.inr ⟨_,_,rfl⟩⟩
 | lst us h1 h2 h5 h3 h4=>exact .inr ⟨_,_,_,us,rfl,h1,h2,h3,h4,h5⟩
theorem JK {t e k:Nat} (h:JB P t=some (e,k)):P.underlying t=some (.slice e)∧tSize P e=some k:=by
 unfold JB at h;split at h
 case h_2=>cases h
 rename_i e'' hu;split at h
 case h_2=>cases h
 rename_i s hs;cases h;exact⟨hu,hs⟩
theorem NR (h:Inv bs n M O env a w) {o:Oper} {t:TypeId} {x i:Operand} (ho:o.op=.indexAddr t x i) {p q r:AV} (hp:aop env x=some p) (hq:aop env i=some q) (hr:UX P t p q=some r):Simple P O M a w o r:=by
 have hx:=qD h hp;have hi:=qD h hq
 have he:execOp a.eval o=vS (Instr.indexAt t (a.eval x) (a.eval i)):=by unfold execOp;rw[ho];rfl
 unfold UX at hr;split at hr
 case h_5=>cases hr
 case h_4 =>
  rename_i y kk q;split at hr
  case h_2=>cases hr
  rename_i m el hu;split at hr
  case h_2=>cases hr
  rename_i sz hs;split at hr
  case isFalse=>cases hr
  rename_i hb
  cases hc:cut P el y.cells (q.toNat * sz) with
  | none=>rw[hc]at hr;cases hr
  | some z =>
   rw[hc]at hr;cases hr;have hiv:=hi.1.int_inv;obtain⟨b,off,us,h1,h2,h3,h4⟩:=hx.1.ptr_inv;refine⟨.pointer (some ⟨b,off+q.toNat * sz,none⟩),?_,?_,trivial⟩
   ·rw[he,h1,hiv];refine VD ?_;unfold Instr.indexAt;simp only[asIntOf];simp only[A0,run_underlying hu,A2,A1,Instr.sureAddr];rw[if_pos ⟨hb.1,hb.2.1⟩];simp only[A0,JD hs,A2,A1,QN]
   refine R.ptr (fun j=>us (q.toNat * sz+j)) ?_ ?_ ?_
   ·intro j c hcj;obtain⟨q',hq',_⟩:=Zo hc j c hcj;rw[B7];exact h2 _ _ hq'
   ·intro j c hcj;obtain⟨q',hq',e⟩:=Zo hc j c hcj
    rcases e with e | e <;> rw[e]
    ·exact h3 _ _ hq'
    ·exact (h3 _ _ hq').strip
   ·intro j c hcj;obtain⟨q',hq',_⟩:=Zo hc j c hcj;exact h4 _ _ hq'
 case h_3 =>
  rename_i s off kk q;split at hr
  case h_2=>cases hr
  rename_i m el hu;split at hr
  case h_2=>cases hr
  rename_i sz hs;split at hr
  case isFalse=>cases hr
  rename_i hb;cases hr;have hiv:=hi.1.int_inv;obtain⟨g,hv,h1⟩:=hx;refine⟨.pointer (some ⟨g,off+q.toNat * sz,none⟩),?_,g,rfl,h1⟩;rw[he,hv,hiv];refine VD ?_;unfold Instr.indexAt;simp only[asIntOf];simp only[A0,run_underlying hu,A2,A1,Instr.sureAddr];rw[if_pos ⟨hb.1,hb.2.1⟩];simp only[A0,JD hs,A2,A1,QN]
 case h_2 =>
  rename_i id e k off m kk q;split at hr
  case h_2=>cases hr
  rename_i e' k' hse;split at hr
  case h_2=>cases hr
  rename_i hk;have hk:=A3 hk;subst hk;split at hr
  case isFalse=>cases hr
  rename_i hb;cases hr;obtain⟨hu,hs⟩:=JK hse;have hiv:=hi.1.int_inv;obtain⟨hlen,hx⟩:=hx
  rcases hx with ⟨h0,_⟩ | ⟨g,cap,hv,h1,h2,h3,h4⟩
  ·omega
  refine⟨.pointer (some ⟨g,off * k+q.toNat * k,none⟩),?_,g,by rw[Nat.add_mul,Nat.add_zero],h1⟩;rw[he,hv,hiv];refine VD ?_;unfold Instr.indexAt;simp only[asIntOf];simp only[A0,run_underlying hu,A2,A1];rw[if_pos hb];simp only[A0,JD hs,A2,A1,QN]
 rename_i e k lab xs kk m;split at hr
 case h_2=>cases hr
 rename_i e' k' hse;split at hr
 case h_2=>cases hr
 rename_i hk;have hk:=A3 hk;subst hk;by_cases h0:0≤m
 case neg=>rw[if_neg h0]at hr;cases hr
 rw[if_pos h0]at hr
 cases hxi:xs[m.toNat]? with
 | none=>rw[hxi]at hr;cases hr
 | some y =>
  rw[hxi]at hr;cases hr;have hlt:=(List.getElem?_eq_some_iff.1 hxi).1;unfold JB at hse;split at hse
  case h_2=>cases hse
  rename_i e'' hu;split at hse
  case h_2=>cases hse
  rename_i s hs;cases hse
  rcases hx.1.lst_inv with ⟨rfl,_⟩ | ⟨b,off,cap,us,hv,h1,h2,h3,h4,h5⟩
  ·simp at hxi
  have hiv:=hi.1.int_inv;refine⟨.pointer (some ⟨b,off+m.toNat * k,none⟩),?_,?_,trivial⟩
  ·rw[he,hv,hiv];refine VD ?_;unfold Instr.indexAt;simp only[asIntOf];simp only[A0,run_underlying hu,A2,A1];rw[if_pos ⟨h0,by omega⟩];simp only[A0,JD hs,A2,A1,QN]
  ·refine R.ptr (fun j=>us (m.toNat * k+j)) ?_ ?_ ?_
   ·intro j c hc
    have hj:j<k:=by rw[← h2 y (A6 hxi)];exact (List.getElem?_eq_some_iff.1 hc).1
    rw[← Yq h2 hxi j hj]at hc;rw[B7];exact h3 _ _ hc
   ·intro j c hc
    have hj:j<k:=by rw[← h2 y (A6 hxi)];exact (List.getElem?_eq_some_iff.1 hc).1
    rw[← Yq h2 hxi j hj]at hc;exact h4 _ _ hc
   ·intro j c hc
    have hj:j<k:=by rw[← h2 y (A6 hxi)];exact (List.getElem?_eq_some_iff.1 hc).1
    have hone:c.one=true:=List.all_eq_true.1 (h5 y (A6 hxi)) c (A6 hc);rw[← Yq h2 hxi j hj]at hc;exact XJ ((h4 _ _ hc).one hone)
theorem qbR (h:Inv bs n M O env a w) {o:Oper} {t:TypeId} {x i:Operand} (ho:o.op=.index t x i) {p q r:AV} (hp:aop env x=some p) (hq:aop env i=some q) (hr:aindex P t p q=some r):Simple P O M a w o r:=by
 have hx:=qD h hp;have hi:=qD h hq
 have he:execOp a.eval o=vS (Instr.index t (a.eval x) (a.eval i)):=by unfold execOp;rw[ho];rfl
 unfold aindex at hr;split at hr
 ·rename_i s kk m;split at hr
  case h_2=>cases hr
  rename_i hu;by_cases h0:0≤m
  case neg=>rw[if_neg h0]at hr;cases hr
  rw[if_pos h0]at hr
  cases hb:s[m.toNat]? with
  | none=>rw[hb]at hr;cases hr
  | some b =>
   rw[hb]at hr;cases hr;have e1:=hx.1.str_inv;have e2:=hi.1.int_inv;refine⟨.int .u8 b.toNat,?_,.int _ _,trivial⟩;rw[he,e1,e2];refine VD ?_;unfold Instr.index;simp only[asIntOf,A0,run_underlying hu,A2,A1,h0,if_true,hb]
 ·rename_i cs kk m;split at hr
  case h_2=>cases hr
  rename_i len e hu;split at hr
  case h_2=>cases hr
  rename_i sz hz;by_cases h0:0≤m∧m<(len:Int)
  case neg=>rw[if_neg h0]at hr;cases hr
  rw[if_pos h0]at hr;have e2:=hi.1.int_inv;obtain⟨vs,e1,l,c⟩:=hx.1.agg_inv
  obtain⟨v,h1,h2⟩:=Vq (O:=O) (w:=w) (M:=M) hr (vs:=vs) (by simpa using l) (by
   intro j c' v hj hv;rw[A8]at hj
   cases hz:cs[j]? with
   | none=>rw[hz]at hj;cases hj
   | some z' =>
    rw[hz]at hj;cases hj
    exact⟨(c j z' v hz hv).strip,XY _ _⟩)
  obtain⟨ti,hti,hsz⟩:∃ ti,P.info? e=some ti∧ti.size=sz:=by
   unfold tSize at hz
   cases hie:P.info? e with
   | none=>rw[hie]at hz;cases hz
   | some i=>rw[hie]at hz;exact⟨i,rfl,Option.some.inj hz⟩
  have hco:P.cellsOf e=sz:=by unfold Program.cellsOf;rw[hti];exact hsz
  refine⟨v,?_,h2⟩;rw[he,e1,e2];refine VD ?_;unfold Instr.index;simp only[asIntOf,A0,run_underlying hu,A2,A1,h0,and_self,if_true,run_sizeOf w hti,hco];exact h1
 ·cases hr
theorem Dy (h:Inv bs n M O env a w) {o:Oper} {x:Operand} {i:Nat} (ho:o.op=.extract x i) {vs:List AV} {r:AV} (hp:aop env x=some (.tup vs)) (hr:(vs[i]?).map AV.strip=some r):Simple P O M a w o r:=by
 have hx:=qD h hp
 have he:execOp a.eval o=vS (Instr.extract (a.eval x) i):=by unfold execOp;rw[ho];rfl
 have htup:∃ us:List Value,a.eval x=.tuple us.toArray∧vs.length=us.length∧∀ (j:Nat) c u,vs[j]? = some c→us[j]? = some u→R M c u:=by
  have:=hx.1;generalize a.eval x=y at this
  cases this with
  | tup h1 h2=>exact⟨_,rfl,h1,h2⟩
 obtain⟨us,e,l,c⟩:=htup
 cases hz:vs[i]? with
 | none=>rw[hz]at hr;cases hr
 | some z =>
  rw[hz]at hr;cases hr
  have hil:i<us.length:=by rw[← l];exact (List.getElem?_eq_some_iff.1 hz).1
  refine⟨us[i],?_,JI (c i z _ hz (A4 hil)).strip (by cases z <;> rfl)⟩;rw[he,e];refine VD ?_;unfold Instr.extract;simp[hil]
theorem VF (h:Inv bs n M O env a w) {o:Oper} {x:Operand} (ho:o.op=.nilCheck x) {r:AV} (hp:aop env x=some r) (hr:(∃ y,r=.ptr y)∨∃ s m,r=.pb s m):Simple P O M a w o r:=by
 have hx:=qD h hp
 have hv:∃ ad,a.eval x=.pointer (some ad):=by
  rcases hr with ⟨y,rfl⟩ | ⟨s,m,rfl⟩
  ·obtain⟨b,off,us,h1,_⟩:=hx.1.ptr_inv;exact⟨_,h1⟩
  ·obtain⟨g,h1,_⟩:=hx;exact⟨_,h1⟩
 obtain⟨ad,hv⟩:=hv;refine⟨_,?_,hx⟩;unfold execOp;rw[ho];simp only[hv,A1]
theorem NP (h:Inv bs n M O env a w) {o:Oper} {x:Operand} (ho:o.op=.nilCheck x) {y:AV} (hp:aop env x=some (.optr false y)):Simple P O M a w o (.ptr y):=by
 have hx:=qD h hp
 have h1:R M (.ptr y) (a.eval x):=by
  have:=hx.1;generalize a.eval x=v at this
  cases this with
  | opts h=>exact h
 obtain⟨ad,hv⟩:=R.ptr_some h1;refine⟨_,?_,h1,trivial⟩;unfold execOp;rw[ho];simp only[hv,A1]
theorem UV (h:Inv bs n M O env a w) {xs:List Operand} {l:List AV} (hl:optAll (xs.map (aop env))=some l):l.length=(xs.map a.eval).length∧∀ (j:Nat) c v,l[j]? = some c→(xs.map a.eval)[j]? = some v→ValOk O M w c v:=by
 have hs:=Jk hl
 have hlen:xs.length=l.length:=by simpa using congrArg List.length hs
 refine⟨by simp[hlen],fun j c v hc hv=>?_⟩;have hj:=congrArg (fun q=>q[j]?) hs;simp only[A8]at hj hv
 cases hx:xs[j]? with
 | none=>rw[hx]at hv;cases hv
 | some x =>
  rw[hx]at hv hj;rw[hc]at hj;simp only[C6,Option.some.injEq]at hj hv;rw[← hv];exact qD h hj
theorem HY (h:Inv bs n M O env a w) {o:Oper} {f:Nat} {first caps:Array Operand} (ho:o.op=.makeFunc (.func f) first caps) (hf:first.size=0) {l:List AV} (hl:optAll (caps.toList.map (aop env))=some l) (hp:l.all (fun x=>match x with | .ptr _=>true | _=>false)=true):Simple P O M a w o (.clo f l):=by
 obtain⟨h1,h2⟩:=UV h hl;refine⟨.func (.func f) #[] (caps.toList.map a.eval).toArray,?_,R.clo h1 fun j c v hc hv=>?_,trivial⟩
 ·have he:execOp a.eval o=vS (Instr.makeFunc (.func f) (first.map a.eval) (caps.map a.eval)):=by unfold execOp;rw[ho];rfl
  rw[he];refine VD ?_
  have:first=#[]:=D3 hf
  subst this;unfold Instr.makeFunc;simp only[A1,Array.map_empty]
  congr 2
  apply A7;simp
 ·have:=h2 j c v hc hv;simp only[List.all_eq_true]at hp;have hpj:=hp c (A6 hc)
  refine this.r (fun s=>?_) (fun _ _ e=>by subst e;cases hpj) fun _ e=>by subst e;cases hpj
  cases c <;> first | rfl | cases hpj
theorem NQ (h:Inv bs n M O env a w) {o:Oper} {f:Nat} {first caps:Array Operand} (ho:o.op=.makeFunc (.func f) first caps) (hf:first.size=0) {l:List AV} (hl:optAll (caps.toList.map (aop env))=some l) (hp:l.all (fun x=>match x with | .ptr _=>true | .pb _ 0=>true | _=>false)=true):Simple P O M a w o (.clb f l):=by
 obtain⟨h1,h2⟩:=UV h hl;refine⟨.func (.func f) #[] (caps.toList.map a.eval).toArray,?_,_,rfl,h1,fun j c v hc hv=>?_⟩
 ·have he:execOp a.eval o=vS (Instr.makeFunc (.func f) (first.map a.eval) (caps.map a.eval)):=by unfold execOp;rw[ho];rfl
  rw[he];refine VD ?_
  have:first=#[]:=D3 hf
  subst this;unfold Instr.makeFunc;simp only[A1,Array.map_empty]
  congr 2
  apply A7;simp
 ·have:=h2 j c v hc hv;simp only[List.all_eq_true]at hp;have hpj:=hp c (A6 hc);unfold CapOk
  cases c with
  | pb s off=>exact this
  | ptr y=>exact this.1
  | _=>cases hpj
theorem qaB (h:Inv bs n M O env a w) {m:AV} {v:Value} (hm:ValOk O M w m v) {ks vs:List AV} (he:ZB env m=some (ks,vs)) :
  (v=.map none∧ks=[]∧vs=[])∨∃ b es clock ks' vs',v=.map (some b)∧w.heap[b]? = some (.map es clock)∧PermKV ks vs ks' vs'∧EntOk M es clock ks' vs':=by
 unfold ZB at he;split at he
 ·rename_i ks' vs';cases he
  rcases qeZ hm.1 with ⟨e1,e2,e3⟩ | ⟨ks',vs',b,es,clock,hp,e,h1,h2,h3,h4,h5,h6,h7⟩
  ·exact .inl ⟨e1,e2,e3⟩
  ·exact .inr ⟨b,es,clock,ks',vs',e,qch (h.cons _ _ _ h1),hp,h2,h3,h4,h5,h6,h7⟩
 ·rename_i id;split at he
  case h_2=>cases he
  rename_i ks' vs' hl;cases he;obtain⟨g,h1,h2⟩:=hm;obtain⟨g',k1,k2,es,clock,k3,k4⟩:=h.slots id _ hl
  have:g'=g:=by rw[k1]at h1;exact Option.some.inj h1
  subst this;exact .inr ⟨g',es,clock,_,_,h2,k3,PermKV.refl (k4.2.2.1.trans k4.2.2.2.1.symm),k4⟩
 ·cases he
theorem Qy {t k e:TypeId} (h:Xe P t=some (k,e)):P.underlying t=some (.map k e):=by
 unfold Xe at h;split at h
 ·rename_i k' e' hu;cases h;exact hu
 ·cases h
theorem qgR {e:TypeId} {x:AV} {v:Value} (h:R M x v):R M (nilE P e x) v:=by
 cases x with
 | nils =>
  simp only[nilE];split
  ·cases h;exact .lstn _ _ _
  ·exact h
 | _=>exact h
theorem qhY {e:TypeId} {x:AV} {v:Value} (h:R M x v):R M (nilZ P e x) v:=by
 unfold nilZ;split
 ·cases h with
  | agg hl hc =>
   rename_i fs cs _ us
   refine .agg (by rw[List.length_mapIdx];exact hl) fun j c u hj hu=>?_
   rw[List.getElem?_mapIdx]at hj
   cases hcj:cs[j]? with
   | none=>rw[hcj]at hj;cases hj
   | some c0 =>
    rw[hcj]at hj;simp only[C6,Option.some.injEq]at hj;subst hj;have h0:=hc j c0 u hcj hu;split
    ·exact qgR h0
    ·exact h0
 ·exact qgR h
theorem qhx {O:Gh} {w:World} {v:Value} {x:AV} (h:aconst v=some x):R M x v:=by
 unfold aconst at h;split at h
 ·rename_i cs;split at h
  ·rename_i l hl;cases h;have hs:=Jk hl
   have hlen:cs.toList.length=l.length:=by simpa using congrArg List.length hs
   have:R M (.agg l) (.agg cs.toList.toArray):=.agg hlen.symm fun j c v hc hv=>by
    have hj:=congrArg (fun q=>q[j]?) hs;simp only[A8,hc,hv,C6]at hj;exact (Xy (O:=O) (w:=w) (Option.some.inj hj)).1
   simpa using this
  ·cases h
 ·cases h;exact .top _
 ·exact (Xy (M:=M) (O:=O) (w:=w) h).1
theorem Vi {O:Gh} {w:World} {e:TypeId} {z:AV} (h:zeroA1 P e=some z):∃ v,(zeroValue e).run P w=.ok v w∧R M z v:=by
 unfold zeroA1 at h;split at h
 case h_2=>cases h
 rename_i v hv;rw[Option.map_eq_some_iff]at h;obtain⟨x,hx,rfl⟩:=h;have h1:=qhx (M:=M) (O:=O) (w:=w) hx;refine⟨v,?_,qhY h1⟩
 cases hi:P.info? e with
 | none=>rw[hi]at hv;cases hv
 | some i =>
  rw[hi]at hv;have hzz:i.zero=some v:=hv;simp[zeroValue,typeInfo,hi,hzz]
theorem qas (h:Inv bs n M O env a w) {o:Oper} {t:TypeId} {x k:Operand} (ho:o.op=.lookup t x k false) {m kk r:AV} (hm:aop env x=some m) (hk:aop env k=some kk) (hr:alookup P t env m kk=some r):Simple P O M a w o r.strip:=by
 have hx:=qD h hm;have hkx:=qD h hk
 have he:execOp a.eval o=vS (Instr.lookup t (a.eval x) (a.eval k) false):=by unfold execOp;rw[ho];rfl
 unfold alookup at hr;split at hr
 case h_2=>cases hr
 rename_i kt e ks vs ht hen;split at hr
 case h_2=>cases hr
 rename_i hc;simp only[A5]at hc;obtain⟨⟨hfit,hks⟩,hall⟩:=hc;have ht:=Qy ht;obtain⟨kv,hkv⟩:=Option.isSome_iff_exists.1 hks;have hkev:a.eval k=kv:=qbk hkx hkv
 have fin:∀ v,(Instr.lookup t (a.eval x) (a.eval k) false).run P w=.ok v w→R M r v→Simple P O M a w o r.strip:=by
  intro v h1 h2;refine⟨v,by rw[he];exact VD h1,JI h2.strip ?_⟩;cases r <;> rfl
 obtain⟨K,l,hl⟩:=UQ hfit hkv
 rcases qaB h hx hen with ⟨hv,rfl,rfl⟩ | ⟨b,es,clock,ks',vs',hv,hb,hp,E⟩
 ·simp only[findA]at hr;obtain⟨z,hz,hz2⟩:=Vi (M:=M) (O:=O) (w:=w) hr;refine fin z ?_ hz2;rw[hv,hkev]
  have hfind:(Instr.findKey kt kv (#[]:Array MapEntry).toList).run P w=.ok none w:=by
   rcases K.find w hl [] (by simp) with ⟨h1,_⟩ | ⟨j,e,_,h2,_⟩
   ·exact h1
   ·simp at h2
  simp[Instr.lookup,run_underlying ht,K.check w true hl,hfind,hz,C7]
 ·have hall':ks'.all (keyFits P kt)=true:=List.all_eq_true.2 fun y hy=>List.all_eq_true.1 hall y (hp.keys.mem_iff.2 hy)
  obtain⟨hck,hst,hfd⟩:=Xm (w:=w) hfit hkv hall' E;obtain⟨fp1,fp2⟩:=qgd hkv hp E;obtain⟨_,_,hkl,hvl,_,hve⟩:=E
  rcases hfd with ⟨h1,h2,h3⟩ | ⟨j,e0,h1,h2,h3,h4⟩
  ·rw[fp1 h1]at hr;obtain⟨z,hz,hz2⟩:=Vi (M:=M) (O:=O) (w:=w) hr;refine fin z ?_ hz2;rw[hv,hkev];simp[Instr.lookup,run_underlying ht,D4 hb,hck,h2,hz,C7]
  ·obtain⟨i,g1,g2⟩:=fp2 j h1;rw[g1]at hr;simp only[g2]at hr;refine fin e0.val ?_ (hve j r e0 hr (by simpa using h3));rw[hv,hkev];simp[Instr.lookup,run_underlying ht,D4 hb,hck,h2,C7]
theorem qbT (h:Inv bs n M O env a w) {o:Oper} {x:Operand} (ho:o.op=.entry x) {id:Nat} (hp:aop env x=some (.mb 1 id)) {k v:AV} {ks vs:List AV} (hl:look env id=some (.hob 2 (k::ks) (v::vs))):Simple P O M a w o (.tup [k,v]):=by
 obtain⟨g,h1,h2⟩:=qD h hp;obtain⟨g',k1,k2,b,es,clock,seen,e,k',v',ks',vs',q1,q2,q3,q4,q5,q6,q7,q8,_⟩:=h.slots id _ hl
 have:g'=g:=by rw[k1]at h1;exact Option.some.inj h1
 subst this;cases q1;cases q2;have hb:=qch (h.cons _ _ _ q4);have hn:=((C5 es clock).1 q5).2.1
 have he:execOp a.eval o=vS (Instr.entry (a.eval x)):=by unfold execOp;rw[ho];rfl
 refine⟨.tuple #[e.key,e.val],?_,?_,trivial⟩
 ·rw[he,h2];exact VD (run_entry_at w g' b clock seen es clock e q3 hb q6 hn)
 ·refine R.tup (vs:=[e.key,e.val]) rfl fun j c u hc hu=>?_
  match j with
  | 0=>cases hc;cases hu;exact qid q7
  | 1=>cases hc;cases hu;exact q8
  | j+2=>cases hc
theorem qdW (h:Inv bs n M O env a w) {o:Oper} {x:Operand} {t:TypeId} {args:Array Operand} {ats:Array TypeId} (ho:o.op=.call { callee:=.builtin .len,args:=args,argTypes:=ats }) (ha:args.toList=[x]) (ht:ats.toList=[t]) {p r:AV} (hp:aop env x=some p) (hr:alen P t p=some r):Simple P O M a w o r:=by
 have hx:=qD h hp
 have ea:args=#[x]:=by apply A7;simpa using ha
 have et:ats=#[t]:=by apply A7;simpa using ht
 subst ea;subst et
 have key:∀ v,(Builtin.len_ #[t] o.type #[a.eval x]).run P w=.ok v w→R M r v→r.lab? = none→Simple P O M a w o r:=by
  intro v h1 h2 h3;refine⟨v,?_,JI h2 h3⟩;unfold execOp;rw[ho];simp only[resolve,invoke,builtin,A0,A1,A2,C8,B9,D0,h1]
 unfold alen at hr;split at hr
 ·rename_i e k lab xs;split at hr
  case h_2=>cases hr
  rename_i e' hu;cases hr
  rcases hx.1.lst_inv with ⟨rfl,hv | ⟨ad,cap,hv⟩⟩ | ⟨b,off,cap,us,hv,_⟩
  all_goals
   rw[hv]at key;refine key _ ?_ (.int _ _) rfl;unfold Builtin.len_;simp[A0,run_underlying hu,goInt]
 ·rename_i id e1 k off m;split at hr
  case h_2=>cases hr
  rename_i e' hu;cases hr;obtain⟨_,hx⟩:=hx
  rcases hx with ⟨rfl,ad,hv⟩ | ⟨g,cap,hv,_⟩
  all_goals
   rw[hv]at key;refine key _ ?_ (.int _ _) rfl;unfold Builtin.len_;simp[A0,run_underlying hu,goInt]
 ·split at hr
  case h_2=>cases hr
  rename_i e' hu;cases hr
  have hv:a.eval x=.slice none 0 0:=by
   have:=hx.1;generalize a.eval x=y at this;cases this;rfl
  rw[hv]at key;refine key _ ?_ (.int _ _) rfl;unfold Builtin.len_;simp[A0,run_underlying hu,goInt]
 ·split at hr
  case h_2=>cases hr
  rename_i s hu;cases hr;have hv:=hx.1.str_inv;rw[hv]at key;refine key _ ?_ (.int _ _) rfl;unfold Builtin.len_;simp[A0,run_underlying hu,goInt]
 ·cases hr
theorem Da (h:Inv bs n M O env a w) {o:Oper} {x:Operand} {i:Nat} (ho:o.op=.extract x i) {id e k off m:Nat} {rest:List AV} {r:AV} (hp:aop env x=some (.tpr id e k off m rest)) (hr:tprAt id e k off m rest i=some r):Simple P O M a w o r:=by
 have hx:=qD h hp
 have he:execOp a.eval o=vS (Instr.extract (a.eval x) i):=by unfold execOp;rw[ho];rfl
 obtain⟨u,us,e1,e2,e3,e4⟩:=hx
 cases i with
 | zero =>
  cases hr;refine⟨u,?_,e2⟩;rw[he,e1];refine VD ?_;simp[Instr.extract,A1]
 | succ j =>
  simp only[tprAt]at hr
  cases hz:rest[j]? with
  | none=>rw[hz]at hr;cases hr
  | some z =>
   rw[hz]at hr;cases hr
   have hjl:j<us.length:=by rw[← e3];exact (List.getElem?_eq_some_iff.1 hz).1
   refine⟨us[j],?_,JI (e4 j z _ hz (A4 hjl)).strip (by cases z <;> rfl)⟩;rw[he,e1];refine VD ?_;simp[Instr.extract,A1,hjl]
theorem qdU (h:Inv bs n M O env a w) {o:Oper} {x y:Operand} {args:Array Operand} {ats:Array TypeId} (ho:o.op=.call { callee:=.builtin .min,args:=args,argTypes:=ats }) (ha:args.toList=[x,y]) {k k':IntKind} {p q:Int} (hp:aop env x=some (.int k p)) (hq:aop env y=some (.int k' q)):Simple P O M a w o (.int k (if q<p then q else p)):=by
 have hx:=(qD h hp).1.int_inv;have hy:=(qD h hq).1.int_inv
 have ea:args=#[x,y]:=by apply A7;simpa using ha
 subst ea;refine⟨.int k (if q<p then q else p),?_,.int _ _,trivial⟩;unfold execOp;rw[ho];simp only[resolve,invoke,builtin,A0,A1,A2,C8,B9,D0,hx,hy,Builtin.min_,List.foldlM_cons,List.foldlM_nil,Builtin.min2]
theorem qdV (h:Inv bs n M O env a w) {o:Oper} {x y:Operand} {args:Array Operand} {ats:Array TypeId} (ho:o.op=.call { callee:=.builtin .max,args:=args,argTypes:=ats }) (ha:args.toList=[x,y]) {k k':IntKind} {p q:Int} (hp:aop env x=some (.int k p)) (hq:aop env y=some (.int k' q)):Simple P O M a w o (.int k (if q > p then q else p)):=by
 have hx:=(qD h hp).1.int_inv;have hy:=(qD h hq).1.int_inv
 have ea:args=#[x,y]:=by apply A7;simpa using ha
 subst ea;refine⟨.int k (if q > p then q else p),?_,.int _ _,trivial⟩;unfold execOp;rw[ho];simp only[resolve,invoke,builtin,A0,A1,A2,C8,B9,D0,hx,hy,Builtin.max_,List.foldlM_cons,List.foldlM_nil,Builtin.max2]
theorem VX {e:Nat} (h:isByte P e=true):P.underlying e=some (.int .u8):=by
 unfold isByte at h;split at h
 ·assumption
 ·cases h
theorem qhr {xs:List AV} {ns:List Int} (h:optAll (xs.map byteOf)=some ns):xs=ns.map (AV.int .u8):=by
 have hs:=Jk h;clear h
 induction xs generalizing ns with
 | nil=>cases ns with
  | nil=>rfl
  | cons _ _=>cases hs
 | cons x xs ih =>
  cases ns with
  | nil=>cases hs
  | cons n ns =>
   simp only[B9,List.cons.injEq]at hs ⊢;refine⟨?_,ih hs.2⟩;have:=hs.1;unfold byteOf at this;split at this
   ·cases this;rfl
   ·cases this
theorem Dz (h:Inv bs n M O env a w) {o:Oper} {x:Operand} {s d:TypeId} (ho:o.op=.convert s d x) {p r:AV} (hns:∀ q,p≠.str q) (hp:aop env x=some p) (hr:ZD P s d p=some r):Simple P O M a w o r:=by
 have hx:=qD h hp
 have he:execOp a.eval o=vS (convert s d (a.eval x)):=by unfold execOp;rw[ho];rfl
 cases p with
 | int k m =>
  simp only[ZD]at hr;have e1:=hx.1.int_inv;split at hr
  ·rename_i k' hu hs;cases hr;refine⟨.int k' (k'.wrap m),?_,.int _ _,trivial⟩;rw[he,e1];refine VD ?_;unfold convert
   cases hd:P.underlying s with
   | none=>rw[hd]at hs;cases hs
   | some ds =>
    simp only[A0,run_underlying hu,run_underlying hd,A2,Conv.intToInt,A1]
  ·rename_i hu hs;split at hr
   case isFalse=>cases hr
   rename_i hm;cases hr;refine⟨.string ⟨#[UInt8.ofNat m.toNat]⟩,?_,.str _,trivial⟩;rw[he,e1];refine VD ?_;unfold convert
   cases hd:P.underlying s with
   | none=>rw[hd]at hs;cases hs
   | some ds =>
    have hen:Utf8.encode m=⟨#[UInt8.ofNat m.toNat]⟩:=by
     have hv:Utf8.valid m=true:=by
      unfold Utf8.valid;simp;exact .inl ⟨hm.1,by omega⟩
     unfold Utf8.encode;simp only[hv,if_true];rw[if_pos (by omega)]
    simp only[A0,run_underlying hu,run_underlying hd,A2,Conv.intToString,A1,hen]
  ·cases hr
 | str q=>exact absurd rfl (hns q)
 | lst e k l xs =>
  simp only[ZD]at hr;split at hr
  case h_2=>cases hr
  rename_i e' hs hd;split at hr
  case h_2=>cases hr
  rename_i ns hb hns';cases hr;simp only[A5]at hb;have hk:=A3 hb.2;have he':=VX hb.1;have hxs:=qhr hns'
  have hfl:flat xs=ns.map (AV.int .u8):=by
   rw[hxs];unfold flat;rw[List.flatMap_map];simp only[AV.cells];exact List.map_eq_flatMap.symm
  refine⟨.string (strOfNums ns),?_,.str _,trivial⟩;rw[he];refine VD ?_;have hR:=hx.1;generalize a.eval x=vx at hR ⊢
  cases hR with
  | lstn =>
   have:ns=[]:=by simpa using hxs.symm
   subst this;exact run_convert_bytes_nil w s e' hs he' 0 0 d hd
  | lste e k l ad cap =>
   have:ns=[]:=by simpa using hxs.symm
   subst this
   have e2:(Conv.bytesToString (.slice (some ad) 0 cap)).run P w=.ok (.string ByteArray.empty) w:=by simp[Conv.bytesToString,loadCells,loadCellsFrom]
   exact (run_convert_bytes_string w s d e' (some ad) 0 cap hs he' hd).trans e2
  | lst us h1 h2 h5 h3 h4 =>
   rename_i b off cap;refine run_convert_bytes_arg w s e' hs he' b off xs.length cap ns (by rw[hxs];simp) (fun i hi=>?_) d hd;rw[hxs]at hi;simp at hi
   have hi':(flat xs)[i]? = some (AV.int .u8 (ns[i]'hi)):=by rw[hfl];simp[hi]
   have h7:=(h4 i _ hi').int_inv;have h6:=YL (h.cons _ _ _ (h3 i _ hi')) (by rw[h7];rfl);rw[h7]at h6
   simpa[List.getD,A4 hi] using h6
 | nils =>
  simp only[ZD]at hr;split at hr
  case h_2=>cases hr
  rename_i e' hs hd;split at hr
  case h_2=>cases hr
  rename_i hb;cases hr;have e1:=hx.1.nils_inv;refine⟨.string ByteArray.empty,?_,.str _,trivial⟩;rw[he,e1];refine VD ?_;exact run_convert_bytes_nil w s e' hs (VX hb) 0 0 d hd
 | _=>cases hr
end
end Go.AM
