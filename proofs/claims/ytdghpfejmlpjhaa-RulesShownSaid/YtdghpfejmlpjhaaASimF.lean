import Derived.Test.YtdghpfejmlpjhaaASimC
import Derived.Laws.BytesArg
import Derived.Great.BuildSlice
import Derived.Lib.ConvBytes
set_option linter.all false
open Go.Sem renaming run_bind→A0, run_pure→A1
open Go.Result renaming andThen_ok→A2, andThen→G1
open Nat renaming eq_of_beq_eq_true→A3, le_of_ble_eq_true→A9, add_assoc→B1, add_mul→C0, le_refl→D6, add_zero→F9
open Bool renaming and_eq_true→A4
open List renaming mem_of_getElem?→A5, getElem?_eq_getElem→A6, getElem?_map→A8, getElem?_append_left→C7, append_assoc→D2, getElem?_append_right→D3, getElem?_drop→D4, all_eq_true→D5, getElem?_zip_eq_some→D7, length_eraseIdx→D8, length→D9, map_cons→E0, mem_of_mem_take→E8, mem_of_mem_drop→E9, length_map→F6, getElem?_take→F8, map_toArray→G2, map_nil→G3, flatMap_map→G4, eq_nil_of_length_eq_zero→G6, replicate→G7, mem_cons_of_mem→H8, take_append_drop→H9
open Option renaming map_some→A7, map_none→E7, isSome_none→G5, map_eq_some_iff→H5
open Array renaming ext'→D0, getElem?_eq_getElem→D1, eq_empty_of_size_eq_zero→G0, length_toList→G8, getD_eq_getD_getElem?→G9, getElem?_toList→H0, getElem_toList→H4
open Go.MapKept renaming stamped_iff→F7, run_getObj_map→H7
namespace Go.AM
open Go.RowKit Go.WideShapes
variable {k:AV} {n:Int} {x:Value} {cs ks ks' vs vs':LJ} {kt:TypeId} {es:LX} {clock:Nat}
section
variable {P:Program} {M:Mem} {w:World}
theorem qcp {k:IntKind} (h:wfI k n=true):(Lit.int k n).wf=true:=h
theorem qeB (k:IntKind):kbeq k k=true:=by cases k <;> rfl
theorem ZR {k:IntKind} (h:(AV.int k n).keyV=some x):x=.int k n/\wfI k n=true:=by
 simp only[AV.keyV]at h;split at h
 .rename_i hw;cases h;exact⟨rfl,hw⟩
 cases h
theorem Jf {k:IntKind} {r:LJ} {l:LT} (h:keyVs (.int k n::r)=some l):∃ l',l=.int k n::l'/\keyVs r=some l'/\wfI k n=true:=by
 simp only[keyVs]at h;split at h
 .rename_i l' hw hl;cases h;exact⟨l',rfl,hl,hw⟩
 cases h
theorem XO (h:(AV.agg cs).keyV=some x):∃ l,x=.agg l.toArray/\keyVs cs=some l:=by
 simp only[AV.keyV]at h;split at h
 .rename_i l hl;cases h;exact⟨l,rfl,hl⟩
 cases h
theorem VN (hk:keyFits P kt k=true) (hx:k.keyV=some x):Maps.Keyed P kt/\∃ l,keyOf P kt x=some l:=by
 unfold keyFits at hk;split at hk
 .rename_i q q' n hu;have:=QA hk;subst this;obtain⟨rfl,hw⟩:=ZR hx;exact⟨Maps.int_keyed hu,_,Maps.keyOf_int_mk hu hw⟩
 .rename_i n e q a q' b hu;simp only[A4]at hk;obtain⟨hn,hq,hA⟩:=hk;have:=A3 hn;subst this;have:=QA hq;subst this;unfold arrKey at hA;simp only[A4]at hA;obtain⟨h0,h1,h2,h3,h4⟩:=hA;have A:WideMaps.ArrKey P kt e 2:=⟨hu,h1,A3 h2,A3 h3⟩;obtain⟨l,rfl,hl⟩:=XO hx;obtain⟨l1,rfl,hl1,w1⟩:=Jf hl;obtain⟨l2,rfl,hl2,w2⟩:=Jf hl1;cases hl2;refine⟨Maps.Keyed.of_law A.law,?_⟩;have hsz:∃ m,P.types.size=m+1:=⟨P.types.size - 1,by have:=A9 h0;omega⟩;obtain⟨m,hm⟩:=hsz
  have hue:P.underlying e=some (.int q'):=by
   split at h4
   .rename_i q'' hqq;have:=QA h4;subst this;exact hqq
   cases h4
  have hkt:=A.keyType ⟨m,hm⟩;have one:=A.one;have two:=A.size;unfold keyOf;rw[hu];simp only
  have hf:Value.formed P kt (.agg #[.int q' a,.int q' b])=true:=by
   simp only[Value.formed,hu,two];rfl
  rw[if_pos (by rw[hkt,hf];rfl),hm]
  have hl:P.keyLits (m+1+1) kt [.int q' a,.int q' b]=some [.int q' a,.int q' b]:=by
   unfold Program.keyLits;rw[hu];simp only;rw[if_pos (by rw[two];rfl),one]
   have e0:P.keyLits (m+1) e [.int q' a]=some [.int q' a]:=by
    unfold Program.keyLits;rw[hue];simp only;simp[qcp w1]
   have e1:P.keyLits (m+1) e [.int q' b]=some [.int q' b]:=by
    unfold Program.keyLits;rw[hue];simp only;simp[qcp w2]
   simp[List.range,List.range.loop,e0,e1]
  exact⟨_,by simp only[Value.cells];rw[hl];rfl⟩
 .rename_i fs q a q' b q'' c hu;simp only[A4]at hk;obtain⟨hq,hq2,hA⟩:=hk;have:=QA hq;subst this;have:=QA hq2;subst this;unfold qec at hA;rw[hu]at hA;simp only[A4]at hA;obtain⟨h0,h1,h2,h3,h4,h5⟩:=hA;have three:=A3 h4;obtain⟨l,rfl,hl⟩:=XO hx;obtain⟨l1,rfl,hl1,w1⟩:=Jf hl;obtain⟨l2,rfl,hl2,w2⟩:=Jf hl1;obtain⟨l3,rfl,hl3,w3⟩:=Jf hl2;cases hl3;refine⟨Maps.Keyed.of_law (deep_law (m:=2) oM h2 h3 (by rw[hu])),?_⟩;obtain⟨m,hm⟩:∃ m,P.types.size=m+1:=⟨P.types.size - 1,by have:=A9 h0;omega⟩;unfold keyOf;rw[hu];simp only
  have hf:Value.formed P kt (.agg #[.int q'' a,.int q'' b,.int q'' c])=true:=by
   simp only[Value.formed,hu,three];rfl
  rw[if_pos (by rw[h1,hf];rfl),hm]
  have hlits:∃ ls,P.keyLits (m+1+1) kt [.int q'' a,.int q'' b,.int q'' c]=some ls:=by
   unfold qeO at h5;split at h5
   case h_2=>cases h5
   rename_i f0 f1 f2 hfs;unfold qaK at h5;simp only[A4]at h5;obtain⟨n0,n1,n2,o0,o1,o2,⟨i0,c0⟩,⟨i1,c1⟩,⟨i2,c2⟩⟩:=h5;have o0:=A3 o0;have o1:=A3 o1;have o2:=A3 o2;have c0:=A3 c0;have c1:=A3 c1;have c2:=A3 c2
   have ty:∀ t,(match P.underlying t with | some (.int q')=>kbeq q' q'' | _=>false)=true->P.underlying t=some (.int q''):=fun t ht=>by
    split at ht
    .rename_i q' hqq;have:=QA ht;subst this;exact hqq
    cases ht
   have k0:P.keyLits (m+1) f0.type [.int q'' a]=some [.int q'' a]:=by
    unfold Program.keyLits;rw[ty _ i0];simp only;simp[qcp w1]
   have k1:P.keyLits (m+1) f1.type [.int q'' b]=some [.int q'' b]:=by
    unfold Program.keyLits;rw[ty _ i1];simp only;simp[qcp w2]
   have k2:P.keyLits (m+1) f2.type [.int q'' c]=some [.int q'' c]:=by
    unfold Program.keyLits;rw[ty _ i2];simp only;simp[qcp w3]
   unfold Program.keyLits;rw[hu];simp only
   have hall : fs.all (·.name != "_") = true := by
    rw[<- Array.all_toList,hfs];simp[n0,n1,n2]
   rw[if_pos ⟨by rw[three];rfl,hall⟩,hfs];simp[o0,o1,o2,c0,c1,c2,k0,k1,k2]
  obtain⟨ls,hls⟩:=hlits;exact⟨_,by simp only[Value.cells];rw[hls];rfl⟩
 cases hk
theorem qcW:∀ {xs ys:LJ},ieqL xs ys=true->keyVs xs=keyVs ys
 | [],[],_=>rfl
 | .int k a::r,y::r',h=>by
  cases y <;> simp only[ieqL]at h <;> try cases h
  rename_i k' b;simp only[A4,beq_iff_eq]at h;obtain⟨⟨h1,h2⟩,h3⟩:=h;have:=QA h1;subst this;subst h2;simp only[keyVs,qcW h3]
 | .int _ _::_,[],h=>by cases h
theorem qcV:∀ {xs ys:LJ} {l:LT},keyVs xs=some l->keyVs ys=some l->ieqL xs ys=true
 | [],ys,l,h1,h2=>by
  cases h1
  cases ys with
  | nil=>rfl
  | cons y r =>
   cases y <;> simp only[keyVs]at h2 <;> try cases h2
   rename_i k n;split at h2 <;> cases h2
 | x::r,ys,l,h1,h2=>by
  cases x <;> try (simp only[keyVs]at h1;cases h1;done)
  rename_i k n;obtain⟨l',rfl,e1,_⟩:=Jf h1
  cases ys with
  | nil=>cases h2
  | cons y r' =>
   cases y <;> try (simp only[keyVs]at h2;cases h2;done)
   rename_i k' n';obtain⟨l2,e2,e3,_⟩:=Jf h2;cases e2;simp only[ieqL,qcV e1 e3,qeB,beq_self_eq_true,Bool.and_self]
theorem UX {a b:AV} {y:Value} (ha:a.keyV=some x) (hb:b.keyV=some y):akeq a b=true↔x=y:=by
 constructor
 .intro h;unfold akeq at h;split at h
  .simp only[A4,beq_iff_eq]at h;have:=QA h.1;rw[(ZR ha).1,(ZR hb).1,this,h.2]
  .obtain⟨l,rfl,e1⟩:=XO ha;obtain⟨l',rfl,e2⟩:=XO hb;rw[qcW h,e2]at e1;cases e1;rfl
  cases h
 rintro rfl
 cases a <;> try (simp only[AV.keyV]at ha;cases ha;done)
 .rename_i k n;obtain⟨rfl,_⟩:=ZR ha
  cases b <;> try (simp only[AV.keyV]at hb;cases hb;done)
  .rename_i k' n';obtain⟨e,_⟩:=ZR hb;cases e;simp only[akeq,qeB,beq_self_eq_true,Bool.and_self]
  obtain⟨l,e,_⟩:=XO hb;cases e
 obtain⟨l,rfl,e1⟩:=XO ha
 cases b <;> try (simp only[AV.keyV]at hb;cases hb;done)
 .obtain⟨e,_⟩:=ZR hb;cases e
 obtain⟨l',e,e2⟩:=XO hb
 have e3:l=l':=by simpa using congrArg (fun v=>match v with | Value.agg c=>c.toList | _=>[]) e
 rw[<- e3]at e2;exact qcV e1 e2
theorem NB {k:AV}:∀ {ks:LJ},findA k ks=none->∀ y,y∈ks->akeq y k=false
 | [],_,y,hy=>by cases hy
 | x::r,h,y,hy=>by
  simp only[findA]at h;split at h
  .cases h
  rename_i hx;split at h
  .cases h
  rename_i hr
  rcases List.mem_cons.1 hy with rfl | hy
  .exact hx
  exact NB hr y hy
theorem Zw {k:AV}:∀ {ks:LJ} {j:Nat},findA k ks=some j->∃ y,ks[j]? = some y/\akeq y k=true
 | [],j,h=>by cases h
 | x::r,j,h=>by
  simp only[findA]at h;split at h
  .rename_i hx;cases h;exact⟨x,rfl,hx⟩
  split at h
  .rename_i i hr;cases h;obtain⟨y,h1,h2⟩:=Zw hr;exact⟨y,by simpa using h1,h2⟩
  cases h
theorem qiX:∀ {cs:LJ} {l:LT},keyVs cs=some l->cs.length=l.length/\∀ (j:Nat) c v,cs[j]? = some c->l[j]? = some v->R M c v
 | [],l,h=>by cases h;exact⟨rfl,fun j c v hc=>by cases hc⟩
 | c::r,l,h=>by
  cases c <;> try (simp only[keyVs]at h;cases h;done)
  rename_i k n;obtain⟨l',rfl,h1,_⟩:=Jf h;obtain⟨h2,h3⟩:=qiX h1;refine⟨by simp[h2],fun j c v hc hv=>?_⟩
  cases j with
  | zero=>cases hc;cases hv;exact .int _ _
  | succ j=>exact h3 j c v (by simpa using hc) (by simpa using hv)
theorem qms (h:k.keyV=some x):R M k x:=by
 cases k <;> try (simp only[AV.keyV]at h;cases h;done)
 .rw[(ZR h).1];exact .int _ _
 obtain⟨l,rfl,h1⟩:=XO h;obtain⟨h2,h3⟩:=qiX (M:=M) h1;exact .agg h2 h3
theorem qlV:∀ {l:LT} {us:LT},keyVs cs=some l->cs.length=us.length->(∀ (j:Nat) c v,cs[j]? = some c->us[j]? = some v->R M c v)->us=l:=by
 induction cs with
 | nil=>intro l us h h1 _;cases h;cases us with | nil=>rfl | cons u us=>simp at h1
 | cons c r ih =>
  intro l us h h1 h2
  cases c <;> try (simp only[keyVs]at h;cases h;done)
  rename_i k n;obtain⟨l',rfl,h3,_⟩:=Jf h
  cases us with
  | nil=>simp at h1
  | cons u us =>
   have h4:=h2 0 _ u rfl rfl;cases h4
   have e1:=ih h3 (by simpa using h1) fun j c v hc hv=>h2 (j+1) c v (by simpa using hc) (by simpa using hv)
   rw[e1]
theorem qeA {O:Gh} {v:Value} (h:ValOk O M w k v) (hx:k.keyV=some x):v=x:=by
 cases k <;> try (simp only[AV.keyV]at hx;cases hx;done)
 .rw[(ZR hx).1];have:=h.1;cases this;rfl
 obtain⟨l,rfl,h1⟩:=XO hx;have:=h.1
 cases this with
 | agg h2 h3=>rw[qlV h1 h2 h3]
theorem YE (hk:keyFits P kt k=true) (hx:k.keyV=some x) (hall:ks.all (keyFits P kt)=true) (E:EntOk M es clock ks vs) :
  (∀ em,(Instr.checkKey em 10000 kt x).run P w=.ok () w)/\((Instr.keyThatStays x x).run P w=.ok x w) /\
   ((findA k ks=none/\(Instr.findKey kt x es.toList).run P w=.ok none w/\∀ e∈es.toList,e.key≠x) \/
    ∃ j e,findA k ks=some j/\(Instr.findKey kt x es.toList).run P w=.ok (some (j,e.val)) w/\es.toList[j]? = some e/\e.key=x):=by
 obtain⟨K,l,hl⟩:=VN hk hx;obtain⟨hst,hsz,hkl,hvl,hke,hve⟩:=E;refine⟨fun em=>K.check w em hl,K.stays w hl,?_⟩
 have hks:∀ e,e∈es.toList->∃ l,keyOf P kt e.key=some l:=by
  intro e he;obtain⟨j,hj⟩:=List.mem_iff_getElem?.1 he
  have hjl:j<ks.length:=by
   have:=(List.getElem?_eq_some_iff.1 hj).1;simp at this;omega
  have h1:=hke j _ e (A6 hjl) (by simpa using hj);exact (VN (List.all_eq_true.1 hall _ (List.getElem_mem hjl)) h1).2
 rcases K.find w hl es.toList hks with ⟨h1,h2⟩ | ⟨j,e,h1,h2,h3⟩
 .refine .inl ⟨?_,h1,h2⟩
  cases hf:findA k ks with
  | none=>rfl
  | some j =>
   obtain⟨y,k1,k2⟩:=Zw hf;have hjl:=(List.getElem?_eq_some_iff.1 k1).1;have hje:es[j]? = some es[j]:=D1 oM;have h4:=hke j y _ k1 hje;exact absurd ((UX h4 hx).1 k2) (h2 _ (by simp))
 refine .inr ⟨j,e,?_,h1,h2,h3⟩
 have hje:es[j]? = some e:=by simpa using h2
 have hjl:j<ks.length:=by
  have:=(Array.getElem?_eq_some_iff.1 hje).1;omega
 have h4:=hke j _ e (A6 hjl) hje
 cases hf:findA k ks with
 | none =>
  have:=NB hf _ (List.getElem_mem hjl);rw[(UX h4 hx).2 h3]at this;cases this
 | some i =>
  obtain⟨y,k1,k2⟩:=Zw hf;have hil:=(List.getElem?_eq_some_iff.1 k1).1;have hie:es[i]? = some es[i]:=D1 oM;have h5:=hke i y _ k1 hie;have h6:=(UX h5 hx).1 k2;have hpw:=((F7 es clock).1 hst).2.2
  congr 1
  refine Classical.byContradiction fun hne=>?_
  have hes:∀ a b:Nat,a<b->∀ p q,es.toList[a]? = some p->es.toList[b]? = some q->p.key≠q.key:=by
   intro a b hab p q hp hq;obtain⟨ha',rfl⟩:=List.getElem?_eq_some_iff.1 hp;obtain⟨hb',rfl⟩:=List.getElem?_eq_some_iff.1 hq;exact List.pairwise_iff_getElem.1 hpw a b ha' hb' hab
  rcases Nat.lt_or_gt_of_ne hne with hlt | hlt
  .exact hes i j hlt _ e (by rw[H0];exact hie) h2 (h6.trans h3.symm)
  exact hes j i hlt e _ h2 (by rw[H0];exact hie) (h3.trans h6.symm)
theorem PermKV.keys (h:PermKV ks vs ks' vs'):ks.Perm ks':=by
 obtain⟨h1,h2,h3⟩:=h;have:=h3.map Prod.fst
 rwa [List.map_fst_zip oM,List.map_fst_zip oM]at this
theorem qby {kk:AV} (hx:kk.keyV=some x) (hp:PermKV ks vs ks' vs') (E:EntOk M es clock ks' vs') :
  (findA kk ks'=none->findA kk ks=none)/\∀ j,findA kk ks'=some j->∃ i,findA kk ks=some i/\vs[i]? = vs'[j]?:=by
 have hk:=hp.keys;obtain⟨hst,hsz,hkl,hvl,hke,hve⟩:=E;refine⟨fun hn=>?_,fun j hj=>?_⟩
 .cases hf:findA kk ks with
  | none=>rfl
  | some i =>
   obtain⟨y,k1,k2⟩:=Zw hf;have:=NB hn y (hk.mem_iff.1 (A5 k1));rw[k2]at this;cases this
 obtain⟨y',k1,k2⟩:=Zw hj
 cases hf:findA kk ks with
 | none =>
  have:=NB hf y' (hk.mem_iff.2 (A5 k1));rw[k2]at this;cases this
 | some i =>
  obtain⟨y,q1,q2⟩:=Zw hf;refine⟨i,rfl,?_⟩;have hil:=(List.getElem?_eq_some_iff.1 q1).1
  have hiv:i<vs.length:=by rw[<- hp.1];exact hil
  have hz:(ks.zip vs)[i]? = some (y,vs[i]):=by
   rw[D7];exact⟨q1,A6 hiv⟩
  obtain⟨j',hj'⟩:=List.mem_iff_getElem?.1 (hp.2.2.mem_iff.1 (A5 hz));rw[D7]at hj';obtain⟨r1,r2⟩:=hj';have hjl:=(List.getElem?_eq_some_iff.1 k1).1;have hjl':=(List.getElem?_eq_some_iff.1 r1).1;have e1:=hke j y' _ k1 (D1 oM);have e2:=hke j' y _ r1 (D1 oM);have f1:=(UX e1 hx).1 k2;have f2:=(UX e2 hx).1 q2;have hpw:=((F7 es clock).1 hst).2.2
  have hjj:j=j':=by
   refine Classical.byContradiction fun hne=>?_
   rcases Nat.lt_or_gt_of_ne hne with hlt | hlt
   .have:=List.pairwise_iff_getElem.1 hpw j j' (by simp;omega) (by simp;omega) hlt;simp only[H4]at this;exact this (f1.trans f2.symm)
   have:=List.pairwise_iff_getElem.1 hpw j' j (by simp;omega) (by simp;omega) hlt;simp only[H4]at this;exact this (f2.trans f1.symm)
  subst hjj;rw[r2];exact A6 hiv
theorem PermKV.take (hp:PermKV ks vs ks' vs') {j:Nat} (hj:j<ks'.length) :
  ∃ i,i<ks.length/\ks[i]? = ks'[j]?/\vs[i]? = vs'[j]?/\PermKV (ks.eraseIdx i) (vs.eraseIdx i) (ks'.eraseIdx j) (vs'.eraseIdx j):=by
 obtain⟨h1,h2,h3⟩:=hp
 have hjv:j<vs'.length:=by omega
 have hz:(ks'.zip vs')[j]? = some (ks'[j],vs'[j]):=by
  rw[D7];exact⟨A6 hj,A6 hjv⟩
 obtain⟨i,hi⟩:=List.mem_iff_getElem?.1 (h3.mem_iff.2 (A5 hz));have hi':=hi;rw[D7]at hi';obtain⟨r1,r2⟩:=hi';have hik:=(List.getElem?_eq_some_iff.1 r1).1
 have hiv:i<vs.length:=by omega
 have zer:∀ (a b:LJ) (n:Nat),(a.eraseIdx n).zip (b.eraseIdx n)=(a.zip b).eraseIdx n:=by
  intro a
  induction a with
  | nil=>intro b n;simp
  | cons x a ih =>
   intro b n
   cases b with
   | nil=>simp
   | cons y b=>cases n with
    | zero=>simp
    | succ n=>simp[ih]
 have per:∀ {α:Type} (l:List α) (n:Nat) (x:α),l[n]? = some x->l.Perm (x::l.eraseIdx n):=by
  intro α l
  induction l with
  | nil=>intro n x hx;simp at hx
  | cons a l ih =>
   intro n x hx
   cases n with
   | zero=>simp at hx;subst hx;simp
   | succ n =>
    have:=ih n x (by simpa using hx);simp only[List.eraseIdx_cons_succ];exact (this.cons a).trans (List.Perm.swap _ _ _)
 refine⟨i,hik,by rw[r1,A6 hj],by rw[r2,A6 hjv],?_,?_,?_⟩
 .rw[D8,D8,if_pos hik,if_pos hiv,h1]
 .rw[D8,D8,if_pos hj,if_pos hjv,h2]
 rw[zer,zer];exact ((per _ _ _ hi).symm.trans (h3.trans (per _ _ _ hz))).cons_inv
end
end Go.AM
namespace Go.AM
open Go.RowKit
variable {e t:TypeId} {f ft id k o' off sz:Nat} {o:Oper} {i x y:Operand} {m p q:AV} {cs ks l vs:LJ} {args caps first:Array Operand} {v:Value} {ats:Array TypeId} {k':IntKind}
section
variable {bs:Base} {n:Nat} {M:Mem} {O:Gh} {env:Env} {a:Act} {w:World} {P:Program}
theorem ND {o:Nat} (h:fieldPl P t f=some (o,ft,sz)):∃ fs fd,P.underlying t=some (.struct fs)/\fs[f]? = some fd/\fd.offset=o/\fd.type=ft/\tSize P ft=some sz:=by
 unfold fieldPl at h;split at h
 case h_2=>cases h
 rename_i fs hu;split at h
 case h_2=>cases h
 rename_i fd hf;split at h
 case h_2=>cases h
 rename_i s hs;cases h;exact⟨fs,fd,hu,hf,rfl,rfl,hs⟩
theorem NV {o:Nat} (h:fieldPl P t f=some (o,ft,sz)) (h0:Nat.blt 0 sz=true) (b off:Nat):(Instr.fieldAt t (.pointer (some ⟨b,off,none⟩)) f).run P w=.ok (.pointer (some ⟨b,off+o,none⟩)) w:=by
 obtain⟨fs,fd,hu,hf,e1,e2,hs⟩:=ND h;have h0':0<sz:=A9 h0;unfold Instr.fieldAt;rw[A0,run_underlying hu];simp only[A2,hf,Instr.sureAddr];rw[A0];simp only[A1,A2];unfold fieldPlace;rw[A0,A0,Jl (by rw[e2];exact hs)];simp only[A2];rw[if_neg (by omega)];simp only[A1,A2,QC,e1]
theorem qbi (h:Inv bs n M O env a w) (ho:o.op=.fieldAddr t x f) {r:AV} (hp:aop env x=some p) (hr:qan P t f p=some r):Simple P O M a w o r:=by
 have hx:=qv h hp
 have he:execOp a.eval o=vS (Instr.fieldAt t (a.eval x) f):=by unfold execOp;rw[ho];rfl
 unfold qan at hr;split at hr
 .rename_i s off;split at hr
  case h_2=>cases hr
  rename_i q o' ft sz hf;split at hr
  case h_2=>cases hr
  rename_i h0;cases hr;obtain⟨g,h1,h2⟩:=hx;exact⟨_,by rw[he,h1];exact NI (NV hf h0 g off),g,rfl,h2⟩
 .rename_i y;split at hr
  case h_2=>cases hr
  rename_i o' ft sz hf;split at hr
  case h_2=>cases hr
  rename_i h0
  cases hc:cut P ft y.cells o' with
  | none=>rw[hc]at hr;cases hr
  | some z =>
   rw[hc]at hr;cases hr;obtain⟨b,off,us,h1,h2,h3,h4⟩:=hx.1.ptr_inv;refine⟨_,by rw[he,h1];exact NI (NV hf h0 b off),?_,trivial⟩;refine R.ptr (fun j=>us (o'+j)) ?_ ?_ ?_
   .intro j c hcj;obtain⟨q,hq,_⟩:=Vy hc j c hcj;rw[B1];exact h2 _ _ hq
   .intro j c hcj;obtain⟨q,hq,e⟩:=Vy hc j c hcj
    rcases e with e | e <;> rw[e]
    .exact h3 _ _ hq
    exact (h3 _ _ hq).strip
   intro j c hcj;obtain⟨q,hq,e⟩:=Vy hc j c hcj;exact h4 _ _ hq
 .rename_i id k j oo;split at hr
  case h_2=>cases hr
  rename_i q o' ft sz hf;split at hr
  case h_2=>cases hr
  rename_i h0;cases hr;obtain⟨g,h1,h2⟩:=hx;exact⟨_,by rw[he,h1];exact NI (NV hf h0 g _),g,by rw[B1],h2⟩
 cases hr
theorem qeT {r:AV} (hc:cut P t cs off=some r):(P.underlying t).isSome=true:=by
 unfold cut at hc;split at hc
 .cases hc
 split at hc
 .cases hc
 rename_i hb;simp only[A4]at hb;exact hb.2
theorem Ng {vs:LT} {r:AV} (hc:cut P t cs off=some r) (hl:cs.length=vs.length) (hR:∀ (j:Nat) c v,cs[j]? = some c->vs[j]? = some v->R M c v/\OwnV O M w c v) :
  ∃ v,(part t vs.toArray off).run P w=.ok v w/\ValOk O M w r v:=by
 have hR':∀ (j:Nat) c,cs[j]? = some c->R M c (vs.getD j undef)/\OwnV O M w c (vs.getD j undef):=by
  intro j c hj
  have hjl:j<vs.length:=by rw[<- hl];exact (List.getElem?_eq_some_iff.1 hj).1
  refine hR j c _ hj ?_;simp[hjl]
 rcases qeS (O:=O) (w:=w) (M:=M) hc (fun j=>vs.getD j undef) hR' with ⟨hag,sz,hsz,hle,hv⟩ | ⟨hag,hlt,hv,_⟩
 .refine⟨_,?_,hv⟩;unfold part;rw[A0,HY (qeT hc),hag];simp only[A2,if_true];rw[A0,Jl hsz];simp only[A2,A1]
  congr 2
  apply D0;rw[hl]at hle;apply List.ext_getElem?;intro j;rw[JL];simp only[Array.toList_extract,List.extract_eq_take_drop,F8,D4];by_cases hj:j<sz
  .have h2:off+j<vs.length:=by omega
   rw[if_pos hj,if_pos (by omega)];simp[h2]
  rw[if_neg hj,if_neg (by omega)]
 refine⟨_,Vq hag (fun e=>by have:=qeT hc;rw[e]at this;cases this) ?_,hv⟩;rw[hl]at hlt;simp[hlt]
theorem qfj (h:Inv bs n M O env a w) (ho:o.op=.field t x f) {r:AV} (hp:aop env x=some (.agg cs)) (hf:fieldPl P t f=some (o',ft,sz)) (hr:cut P ft (cs.map AV.strip) o'=some r):Simple P O M a w o r:=by
 have hx:=qv h hp
 have he:execOp a.eval o=vS (Instr.field t (a.eval x) f):=by unfold execOp;rw[ho];rfl
 obtain⟨fs,fd,hu,hfd,e1,e2,hs⟩:=ND hf;obtain⟨vs,e,l,c⟩:=hx.1.agg_inv
 obtain⟨v,h1,h2⟩:=Ng (O:=O) (w:=w) (M:=M) hr (vs:=vs) (by simpa using l) (by
  intro j c' v hj hv;rw[A8]at hj
  cases hz:cs[j]? with
  | none=>rw[hz]at hj;cases hj
  | some z' =>
   rw[hz]at hj;cases hj
   exact⟨(c j z' v hz hv).strip,YB _ _⟩)
 refine⟨v,?_,h2⟩;rw[he,e];refine NI ?_;unfold Instr.field;rw[A0,run_underlying hu];simp only[A2,hfd,asAgg];rw[A0];simp only[A1,A2,e1,e2];exact h1
theorem qdG (h:Inv bs n M O env a w) (ho:o.op=.field t x f) {r:AV} (hp:aop env x=some (.agr cs)) (hf:fieldPl P t f=some (o',ft,sz)) (hr:cutG P ft cs o'=some r):Simple P O M a w o r:=by
 obtain⟨vs,e,l,c⟩:=qv h hp
 have he:execOp a.eval o=vS (Instr.field t (a.eval x) f):=by unfold execOp;rw[ho];rfl
 obtain⟨fs,fd,hu,hfd,e1,e2,hs⟩:=ND hf
 have fin:∀ v,(part ft vs.toArray o').run P w=.ok v w->ValOk O M w r v->Simple P O M a w o r:=by
  intro v h1 h2;refine⟨v,?_,h2⟩;rw[he,e];refine NI ?_;unfold Instr.field;rw[A0,run_underlying hu];simp only[A2,hfd,asAgg];rw[A0];simp only[A1,A2,e1,e2];exact h1
 unfold cutG at hr;split at hr
 .rename_i v0 hcut;cases hr
  obtain⟨v,h1,h2⟩:=Ng (O:=O) (w:=w) (M:=M) hcut (vs:=vs) (by simpa using l) (by
   intro j c' v hj hv;rw[A8]at hj
   cases hz:cs[j]? with
   | none=>rw[hz]at hj;cases hj
   | some z' =>
    rw[hz]at hj;cases hj
    exact (c j z' v hz hv).1.san)
  exact fin v h1 h2
 split at hr
 .cases hr
 rename_i sz' hsz'
 have raw:∀ z,cs[o']? = some z->(Nat.beq sz' 1 && !tAgg P ft && (P.underlying ft).isSome)=true->∃ u,vs[o']? = some u/\(part ft vs.toArray o').run P w=.ok u w/\CellR O M 0 z u:=by
  intro z hz hcond;simp only[A4,Bool.not_eq_true']at hcond
  have hlt:o'<vs.length:=by rw[<- l];exact (List.getElem?_eq_some_iff.1 hz).1
  refine⟨vs[o'],A6 hlt,Vq hcond.1.2 (fun e=>by rw[e]at hcond;cases hcond.2) (by simp[hlt]),(c o' z _ hz (A6 hlt)).1⟩
 split at hr
 .rename_i id e' k o2 m hcond hc;cases hr;obtain⟨u,_,h1,h2⟩:=raw _ hc hcond;exact fin u h1 h2
 .rename_i id hcond hc;cases hr;obtain⟨u,_,h1,h2⟩:=raw _ hc hcond;exact fin u h1 h2.2
 cases hr
theorem R.lst_inv {e k l xs v} (h:R M (.lst e k l xs) v):(xs=[]/\(v=.slice none 0 0\/∃ ad cap,v=.slice (some ad) 0 cap))\/∃ (b off cap:Nat) (us:Nat->Value),v=.slice (some ⟨b,off,none⟩) xs.length cap/\xs.length<=cap/\(∀ x,x∈xs->x.cells.length=k)/\(∀ (j:Nat) c,(flat xs)[j]? = some c->M b (off+j)=some (us j))/\(∀ (j:Nat) c,(flat xs)[j]? = some c->R M c (us j))/\(∀ x,x∈xs->x.cells.all AV.one=true):=by
 cases h with
 | lstn=>exact .inl ⟨rfl,.inl rfl⟩
 | lste=>exact .inl ⟨rfl,.inr ⟨_,_,rfl⟩⟩
 | lst us h1 h2 h5 h3 h4=>exact .inr ⟨_,_,_,us,rfl,h1,h2,h3,h4,h5⟩
theorem Jp {t e:Nat} (h:jT P t=some (e,k)):P.underlying t=some (.slice e)/\tSize P e=some k:=by
 unfold jT at h;split at h
 case h_2=>cases h
 rename_i e'' hu;split at h
 case h_2=>cases h
 rename_i s hs;cases h;exact⟨hu,hs⟩
theorem qbh (h:Inv bs n M O env a w) (ho:o.op=.indexAddr t x i) {r:AV} (hp:aop env x=some p) (hq:aop env i=some q) (hr:qam P t p q=some r):Simple P O M a w o r:=by
 have hx:=qv h hp;have hi:=qv h hq
 have he:execOp a.eval o=vS (Instr.indexAt t (a.eval x) (a.eval i)):=by unfold execOp;rw[ho];rfl
 unfold qam at hr;split at hr
 case h_5=>cases hr
 case h_4 =>
  rename_i y kk q;split at hr
  case h_2=>cases hr
  rename_i m el hu;split at hr
  case h_2=>cases hr
  rename_i sz hs;split at hr
  case isFalse=>cases hr
  rename_i hb
  cases hc:cut P el y.cells (q.toNat * sz) with
  | none=>rw[hc]at hr;cases hr
  | some z =>
   rw[hc]at hr;cases hr;have hiv:=hi.1.int_inv;obtain⟨b,off,us,h1,h2,h3,h4⟩:=hx.1.ptr_inv;refine⟨.pointer (some ⟨b,off+q.toNat * sz,none⟩),?_,?_,trivial⟩
   .rw[he,h1,hiv];refine NI ?_;unfold Instr.indexAt;simp only[asIntOf];simp only[A0,run_underlying hu,A2,A1,Instr.sureAddr];rw[if_pos ⟨hb.1,hb.2.1⟩];simp only[A0,Jl hs,A2,A1,QC]
   refine R.ptr (fun j=>us (q.toNat * sz+j)) ?_ ?_ ?_
   .intro j c hcj;obtain⟨q',hq',_⟩:=Vy hc j c hcj;rw[B1];exact h2 _ _ hq'
   .intro j c hcj;obtain⟨q',hq',e⟩:=Vy hc j c hcj
    rcases e with e | e <;> rw[e]
    .exact h3 _ _ hq'
    exact (h3 _ _ hq').strip
   intro j c hcj;obtain⟨q',hq',_⟩:=Vy hc j c hcj;exact h4 _ _ hq'
 case h_3 =>
  rename_i s off kk q;split at hr
  case h_2=>cases hr
  rename_i m el hu;split at hr
  case h_2=>cases hr
  rename_i sz hs;split at hr
  case isFalse=>cases hr
  rename_i hb;cases hr;have hiv:=hi.1.int_inv;obtain⟨g,hv,h1⟩:=hx;refine⟨.pointer (some ⟨g,off+q.toNat * sz,none⟩),?_,g,rfl,h1⟩;rw[he,hv,hiv];refine NI ?_;unfold Instr.indexAt;simp only[asIntOf];simp only[A0,run_underlying hu,A2,A1,Instr.sureAddr];rw[if_pos ⟨hb.1,hb.2.1⟩];simp only[A0,Jl hs,A2,A1,QC]
 case h_2 =>
  rename_i id e k off m kk q;split at hr
  case h_2=>cases hr
  rename_i e' k' hse;split at hr
  case h_2=>cases hr
  rename_i hk;have hk:=A3 hk;subst hk;split at hr
  case isFalse=>cases hr
  rename_i hb;cases hr;obtain⟨hu,hs⟩:=Jp hse;have hiv:=hi.1.int_inv;obtain⟨hlen,hx⟩:=hx
  rcases hx with ⟨h0,_⟩ | ⟨g,cap,hv,h1,h2,h3,h4⟩
  .omega
  refine⟨.pointer (some ⟨g,off * k+q.toNat * k,none⟩),?_,g,by rw[C0,F9],h1⟩;rw[he,hv,hiv];refine NI ?_;unfold Instr.indexAt;simp only[asIntOf];simp only[A0,run_underlying hu,A2,A1];rw[if_pos hb];simp only[A0,Jl hs,A2,A1,QC]
 rename_i e k lab xs kk m;split at hr
 case h_2=>cases hr
 rename_i e' k' hse;split at hr
 case h_2=>cases hr
 rename_i hk;have hk:=A3 hk;subst hk;by_cases h0:0<=m
 case neg=>rw[if_neg h0]at hr;cases hr
 rw[if_pos h0]at hr
 cases hxi:xs[m.toNat]? with
 | none=>rw[hxi]at hr;cases hr
 | some y =>
  rw[hxi]at hr;cases hr;have hlt:=(List.getElem?_eq_some_iff.1 hxi).1;unfold jT at hse;split at hse
  case h_2=>cases hse
  rename_i e'' hu;split at hse
  case h_2=>cases hse
  rename_i s hs;cases hse
  rcases hx.1.lst_inv with ⟨rfl,_⟩ | ⟨b,off,cap,us,hv,h1,h2,h3,h4,h5⟩
  .simp at hxi
  have hiv:=hi.1.int_inv;refine⟨.pointer (some ⟨b,off+m.toNat * k,none⟩),?_,?_,trivial⟩
  .rw[he,hv,hiv];refine NI ?_;unfold Instr.indexAt;simp only[asIntOf];simp only[A0,run_underlying hu,A2,A1];rw[if_pos ⟨h0,by omega⟩];simp only[A0,Jl hs,A2,A1,QC]
  refine R.ptr (fun j=>us (m.toNat * k+j)) ?_ ?_ ?_
  .intro j c hc
   have hj:j<k:=by rw[<- h2 y (A5 hxi)];exact (List.getElem?_eq_some_iff.1 hc).1
   rw[<- Yu h2 hxi j hj]at hc;rw[B1];exact h3 _ _ hc
  .intro j c hc
   have hj:j<k:=by rw[<- h2 y (A5 hxi)];exact (List.getElem?_eq_some_iff.1 hc).1
   rw[<- Yu h2 hxi j hj]at hc;exact h4 _ _ hc
  intro j c hc
  have hj:j<k:=by rw[<- h2 y (A5 hxi)];exact (List.getElem?_eq_some_iff.1 hc).1
  have hone:c.one=true:=List.all_eq_true.1 (h5 y (A5 hxi)) c (A5 hc);rw[<- Yu h2 hxi j hj]at hc;exact Ye ((h4 _ _ hc).one hone)
theorem qfi (h:Inv bs n M O env a w) (ho:o.op=.index t x i) {r:AV} (hp:aop env x=some p) (hq:aop env i=some q) (hr:aindex P t p q=some r):Simple P O M a w o r:=by
 have hx:=qv h hp;have hi:=qv h hq
 have he:execOp a.eval o=vS (Instr.index t (a.eval x) (a.eval i)):=by unfold execOp;rw[ho];rfl
 unfold aindex at hr;split at hr
 .rename_i s kk m;split at hr
  case h_2=>cases hr
  rename_i hu;by_cases h0:0<=m
  case neg=>rw[if_neg h0]at hr;cases hr
  rw[if_pos h0]at hr
  cases hb:s[m.toNat]? with
  | none=>rw[hb]at hr;cases hr
  | some b =>
   rw[hb]at hr;cases hr;have e1:=hx.1.str_inv;have e2:=hi.1.int_inv;refine⟨.int .u8 b.toNat,?_,.int _ _,trivial⟩;rw[he,e1,e2];refine NI ?_;unfold Instr.index;simp only[asIntOf,A0,run_underlying hu,A2,A1,h0,if_true,hb]
 .rename_i cs kk m;split at hr
  case h_2=>cases hr
  rename_i len e hu;split at hr
  case h_2=>cases hr
  rename_i sz hz;by_cases h0:0<=m/\m<(len:Int)
  case neg=>rw[if_neg h0]at hr;cases hr
  rw[if_pos h0]at hr;have e2:=hi.1.int_inv;obtain⟨vs,e1,l,c⟩:=hx.1.agg_inv
  obtain⟨v,h1,h2⟩:=Ng (O:=O) (w:=w) (M:=M) hr (vs:=vs) (by simpa using l) (by
   intro j c' v hj hv;rw[A8]at hj
   cases hz:cs[j]? with
   | none=>rw[hz]at hj;cases hj
   | some z' =>
    rw[hz]at hj;cases hj
    exact⟨(c j z' v hz hv).strip,YB _ _⟩)
  obtain⟨ti,hti,hsz⟩:∃ ti,P.info? e=some ti/\ti.size=sz:=by
   unfold tSize at hz
   cases hie:P.info? e with
   | none=>rw[hie]at hz;cases hz
   | some i=>rw[hie]at hz;exact⟨i,rfl,Option.some.inj hz⟩
  have hco:P.cellsOf e=sz:=by unfold Program.cellsOf;rw[hti];exact hsz
  refine⟨v,?_,h2⟩;rw[he,e1,e2];refine NI ?_;unfold Instr.index;simp only[asIntOf,A0,run_underlying hu,A2,A1,h0,and_self,if_true,run_sizeOf w hti,hco];exact h1
 cases hr
theorem qcB (h:Inv bs n M O env a w) {i:Nat} (ho:o.op=.extract x i) {r:AV} (hp:aop env x=some (.tup vs)) (hr:(vs[i]?).map AV.strip=some r):Simple P O M a w o r:=by
 have hx:=qv h hp
 have he:execOp a.eval o=vS (Instr.extract (a.eval x) i):=by unfold execOp;rw[ho];rfl
 have htup:∃ us:LT,a.eval x=.tuple us.toArray/\vs.length=us.length/\∀ (j:Nat) c u,vs[j]? = some c->us[j]? = some u->R M c u:=by
  have:=hx.1;generalize a.eval x=y at this
  cases this with
  | tup h1 h2=>exact⟨_,rfl,h1,h2⟩
 obtain⟨us,e,l,c⟩:=htup
 cases hz:vs[i]? with
 | none=>rw[hz]at hr;cases hr
 | some z =>
  rw[hz]at hr;cases hr
  have hil:i<us.length:=by rw[<- l];exact (List.getElem?_eq_some_iff.1 hz).1
  refine⟨us[i],?_,jO (c i z _ hz (A6 hil)).strip (by cases z <;> rfl)⟩;rw[he,e];refine NI ?_;unfold Instr.extract;simp[hil]
theorem NK (h:Inv bs n M O env a w) (ho:o.op=.nilCheck x) {r:AV} (hp:aop env x=some r) (hr:(∃ y,r=.ptr y)\/∃ s m,r=.pb s m):Simple P O M a w o r:=by
 have hx:=qv h hp
 have hv:∃ ad,a.eval x=.pointer (some ad):=by
  rcases hr with ⟨y,rfl⟩ | ⟨s,m,rfl⟩
  .obtain⟨b,off,us,h1,_⟩:=hx.1.ptr_inv;exact⟨_,h1⟩
  obtain⟨g,h1,_⟩:=hx;exact⟨_,h1⟩
 obtain⟨ad,hv⟩:=hv;refine⟨_,?_,hx⟩;unfold execOp;rw[ho];simp only[hv,A1]
theorem qbf (h:Inv bs n M O env a w) (ho:o.op=.nilCheck x) {y:AV} (hp:aop env x=some (.optr false y)):Simple P O M a w o (.ptr y):=by
 have hx:=qv h hp
 have h1:R M (.ptr y) (a.eval x):=by
  have:=hx.1;generalize a.eval x=v at this
  cases this with
  | opts h=>exact h
 obtain⟨ad,hv⟩:=R.ptr_some h1;refine⟨_,?_,h1,trivial⟩;unfold execOp;rw[ho];simp only[hv,A1]
theorem qah (h:Inv bs n M O env a w) {xs:List Operand} (hl:optAll (xs.map (aop env))=some l):l.length=(xs.map a.eval).length/\∀ (j:Nat) c v,l[j]? = some c->(xs.map a.eval)[j]? = some v->ValOk O M w c v:=by
 have hs:=jE hl
 have hlen:xs.length=l.length:=by simpa using congrArg D9 hs
 refine⟨by simp[hlen],fun j c v hc hv=>?_⟩;have hj:=congrArg (fun q=>q[j]?) hs;simp only[A8]at hj hv
 cases hx:xs[j]? with
 | none=>rw[hx]at hv;cases hv
 | some x =>
  rw[hx]at hv hj;rw[hc]at hj;simp only[A7,Option.some.injEq]at hj hv;rw[<- hv];exact qv h hj
theorem qcd (h:Inv bs n M O env a w) (ho:o.op=.makeFunc (.func f) first caps) (hf:first.size=0) (hl:optAll (caps.toList.map (aop env))=some l) (hp:l.all (fun x=>match x with | .ptr _=>true | _=>false)=true):Simple P O M a w o (.clo f l):=by
 obtain⟨h1,h2⟩:=qah h hl;refine⟨.func (.func f) #[] (caps.toList.map a.eval).toArray,?_,R.clo h1 fun j c v hc hv=>?_,trivial⟩
 .have he:execOp a.eval o=vS (Instr.makeFunc (.func f) (first.map a.eval) (caps.map a.eval)):=by unfold execOp;rw[ho];rfl
  rw[he];refine NI ?_
  have:first=#[]:=G0 hf
  subst this;unfold Instr.makeFunc;simp only[A1,Array.map_empty]
  congr 2
  apply D0;simp
 have:=h2 j c v hc hv;simp only[D5]at hp;have hpj:=hp c (A5 hc)
 refine this.r (fun s=>?_) (fun _ _ e=>by subst e;cases hpj) fun _ e=>by subst e;cases hpj
 cases c <;> first | rfl | cases hpj
theorem qbg (h:Inv bs n M O env a w) (ho:o.op=.makeFunc (.func f) first caps) (hf:first.size=0) (hl:optAll (caps.toList.map (aop env))=some l) (hp:l.all (fun x=>match x with | .ptr _=>true | .pb _ 0=>true | _=>false)=true):Simple P O M a w o (.clb f l):=by
 obtain⟨h1,h2⟩:=qah h hl;refine⟨.func (.func f) #[] (caps.toList.map a.eval).toArray,?_,_,rfl,h1,fun j c v hc hv=>?_⟩
 .have he:execOp a.eval o=vS (Instr.makeFunc (.func f) (first.map a.eval) (caps.map a.eval)):=by unfold execOp;rw[ho];rfl
  rw[he];refine NI ?_
  have:first=#[]:=G0 hf
  subst this;unfold Instr.makeFunc;simp only[A1,Array.map_empty]
  congr 2
  apply D0;simp
 have:=h2 j c v hc hv;simp only[D5]at hp;have hpj:=hp c (A5 hc);unfold CapOk
 cases c with
 | pb s off=>exact this
 | ptr y=>exact this.1
 | _=>cases hpj
theorem qdO (h:Inv bs n M O env a w) (hm:ValOk O M w m v) (he:Zi env m=some (ks,vs)) :
  (v=.map none/\ks=[]/\vs=[])\/∃ b es clock ks' vs',v=.map (some b)/\w.heap[b]? = some (.map es clock)/\PermKV ks vs ks' vs'/\EntOk M es clock ks' vs':=by
 unfold Zi at he;split at he
 .rename_i ks' vs';cases he
  rcases Ug hm.1 with ⟨e1,e2,e3⟩ | ⟨ks',vs',b,es,clock,hp,e,h1,h2,h3,h4,h5,h6,h7⟩
  .exact .inl ⟨e1,e2,e3⟩
  exact .inr ⟨b,es,clock,ks',vs',e,ZW (h.cons _ _ _ h1),hp,h2,h3,h4,h5,h6,h7⟩
 .rename_i id;split at he
  case h_2=>cases he
  rename_i ks' vs' hl;cases he;obtain⟨g,h1,h2⟩:=hm;obtain⟨g',k1,k2,es,clock,k3,k4⟩:=h.slots id _ hl
  have:g'=g:=by rw[k1]at h1;exact Option.some.inj h1
  subst this;exact .inr ⟨g',es,clock,_,_,h2,k3,PermKV.refl (k4.2.2.1.trans k4.2.2.2.1.symm),k4⟩
 cases he
theorem Ql {k:TypeId} (h:QI P t=some (k,e)):P.underlying t=some (.map k e):=by
 unfold QI at h;split at h
 .rename_i k' e' hu;cases h;exact hu
 cases h
theorem qkU {x:AV} (h:R M x v):R M (nilE P e x) v:=by
 cases x with
 | nils =>
  simp only[nilE];split
  .cases h;exact .lstn _ _ _
  exact h
 | _=>exact h
theorem qmm {x:AV} (h:R M x v):R M (nilZ P e x) v:=by
 unfold nilZ;split
 .cases h with
  | agg hl hc =>
   rename_i fs cs _ us
   refine .agg (by rw[List.length_mapIdx];exact hl) fun j c u hj hu=>?_
   rw[List.getElem?_mapIdx]at hj
   cases hcj:cs[j]? with
   | none=>rw[hcj]at hj;cases hj
   | some c0 =>
    rw[hcj]at hj;simp only[A7,Option.some.injEq]at hj;subst hj;have h0:=hc j c0 u hcj hu;split
    .exact qkU h0
    exact h0
 exact qkU h
theorem qlC {O:Gh} {w:World} {x:AV} (h:aconst v=some x):R M x v:=by
 unfold aconst at h;split at h
 .rename_i cs;split at h
  .rename_i l hl;cases h;have hs:=jE hl
   have hlen:cs.toList.length=l.length:=by simpa using congrArg D9 hs
   have:R M (.agg l) (.agg cs.toList.toArray):=.agg hlen.symm fun j c v hc hv=>by
    have hj:=congrArg (fun q=>q[j]?) hs;simp only[A8,hc,hv,A7]at hj;exact (Xy (O:=O) (w:=w) (Option.some.inj hj)).1
   simpa using this
  cases h
 .cases h;exact .top _
 exact (Xy (M:=M) (O:=O) (w:=w) h).1
theorem UY {O:Gh} {w:World} {z:AV} (h:zeroA1 P e=some z):∃ v,(zeroValue e).run P w=.ok v w/\R M z v:=by
 unfold zeroA1 at h;split at h
 case h_2=>cases h
 rename_i v hv;rw[H5]at h;obtain⟨x,hx,rfl⟩:=h;have h1:=qlC (M:=M) (O:=O) (w:=w) hx;refine⟨v,?_,qmm h1⟩
 cases hi:P.info? e with
 | none=>rw[hi]at hv;cases hv
 | some i =>
  rw[hi]at hv;have hzz:i.zero=some v:=hv;simp[zeroValue,typeInfo,hi,hzz]
theorem qdF (h:Inv bs n M O env a w) {k:Operand} (ho:o.op=.lookup t x k false) {kk r:AV} (hm:aop env x=some m) (hk:aop env k=some kk) (hr:alookup P t env m kk=some r):Simple P O M a w o r.strip:=by
 have hx:=qv h hm;have hkx:=qv h hk
 have he:execOp a.eval o=vS (Instr.lookup t (a.eval x) (a.eval k) false):=by unfold execOp;rw[ho];rfl
 unfold alookup at hr;split at hr
 case h_2=>cases hr
 rename_i kt e ks vs ht hen;split at hr
 case h_2=>cases hr
 rename_i hc;simp only[A4]at hc;obtain⟨⟨hfit,hks⟩,hall⟩:=hc;have ht:=Ql ht;obtain⟨kv,hkv⟩:=Option.isSome_iff_exists.1 hks;have hkev:a.eval k=kv:=qeA hkx hkv
 have fin:∀ v,(Instr.lookup t (a.eval x) (a.eval k) false).run P w=.ok v w->R M r v->Simple P O M a w o r.strip:=by
  intro v h1 h2;refine⟨v,by rw[he];exact NI h1,jO h2.strip ?_⟩;cases r <;> rfl
 obtain⟨K,l,hl⟩:=VN hfit hkv
 rcases qdO h hx hen with ⟨hv,rfl,rfl⟩ | ⟨b,es,clock,ks',vs',hv,hb,hp,E⟩
 .simp only[findA]at hr;obtain⟨z,hz,hz2⟩:=UY (M:=M) (O:=O) (w:=w) hr;refine fin z ?_ hz2;rw[hv,hkev]
  have hfind:(Instr.findKey kt kv (#[]:LX).toList).run P w=.ok none w:=by
   rcases K.find w hl [] (by simp) with ⟨h1,_⟩ | ⟨j,e,_,h2,_⟩
   .exact h1
   simp at h2
  simp[Instr.lookup,run_underlying ht,K.check w true hl,hfind,hz,G1]
 have hall':ks'.all (keyFits P kt)=true:=List.all_eq_true.2 fun y hy=>List.all_eq_true.1 hall y (hp.keys.mem_iff.2 hy)
 obtain⟨hck,hst,hfd⟩:=YE (w:=w) hfit hkv hall' E;obtain⟨fp1,fp2⟩:=qby hkv hp E;obtain⟨_,_,hkl,hvl,_,hve⟩:=E
 rcases hfd with ⟨h1,h2,h3⟩ | ⟨j,e0,h1,h2,h3,h4⟩
 .rw[fp1 h1]at hr;obtain⟨z,hz,hz2⟩:=UY (M:=M) (O:=O) (w:=w) hr;refine fin z ?_ hz2;rw[hv,hkev];simp[Instr.lookup,run_underlying ht,H7 hb,hck,h2,hz,G1]
 obtain⟨i,g1,g2⟩:=fp2 j h1;rw[g1]at hr;simp only[g2]at hr;refine fin e0.val ?_ (hve j r e0 hr (by simpa using h3));rw[hv,hkev];simp[Instr.lookup,run_underlying ht,H7 hb,hck,h2,G1]
theorem qfk (h:Inv bs n M O env a w) (ho:o.op=.entry x) (hp:aop env x=some (.mb 1 id)) {k v:AV} (hl:look env id=some (.hob 2 (k::ks) (v::vs))):Simple P O M a w o (.tup [k,v]):=by
 obtain⟨g,h1,h2⟩:=qv h hp;obtain⟨g',k1,k2,b,es,clock,seen,e,k',v',ks',vs',q1,q2,q3,q4,q5,q6,q7,q8,_⟩:=h.slots id _ hl
 have:g'=g:=by rw[k1]at h1;exact Option.some.inj h1
 subst this;cases q1;cases q2;have hb:=ZW (h.cons _ _ _ q4);have hn:=((F7 es clock).1 q5).2.1
 have he:execOp a.eval o=vS (Instr.entry (a.eval x)):=by unfold execOp;rw[ho];rfl
 refine⟨.tuple #[e.key,e.val],?_,?_,trivial⟩
 .rw[he,h2];exact NI (run_entry_at w g' b clock seen es clock e q3 hb q6 hn)
 refine R.tup (vs:=[e.key,e.val]) rfl fun j c u hc hu=>?_
 match j with
 | 0=>cases hc;cases hu;exact qms q7
 | 1=>cases hc;cases hu;exact q8
 | j+2=>cases hc
theorem qhC (h:Inv bs n M O env a w) (ho:o.op=.call { callee:=.builtin .len,args:=args,argTypes:=ats }) (ha:args.toList=[x]) (ht:ats.toList=[t]) {r:AV} (hp:aop env x=some p) (hr:alen P t p=some r):Simple P O M a w o r:=by
 have hx:=qv h hp
 have ea:args=#[x]:=by apply D0;simpa using ha
 have et:ats=#[t]:=by apply D0;simpa using ht
 subst ea;subst et
 have key:∀ v,(Builtin.len_ #[t] o.type #[a.eval x]).run P w=.ok v w->R M r v->r.lab? = none->Simple P O M a w o r:=by
  intro v h1 h2 h3;refine⟨v,?_,jO h2 h3⟩;unfold execOp;rw[ho];simp only[resolve,invoke,builtin,A0,A1,A2,G2,E0,G3,h1]
 unfold alen at hr;split at hr
 .rename_i e k lab xs;split at hr
  case h_2=>cases hr
  rename_i e' hu;cases hr
  rcases hx.1.lst_inv with ⟨rfl,hv | ⟨ad,cap,hv⟩⟩ | ⟨b,off,cap,us,hv,_⟩
  all_goals
   rw[hv]at key;refine key _ ?_ (.int _ _) rfl;unfold Builtin.len_;simp[A0,run_underlying hu,goInt]
 .rename_i id e1 k off m;split at hr
  case h_2=>cases hr
  rename_i e' hu;cases hr;obtain⟨_,hx⟩:=hx
  rcases hx with ⟨rfl,ad,hv⟩ | ⟨g,cap,hv,_⟩
  all_goals
   rw[hv]at key;refine key _ ?_ (.int _ _) rfl;unfold Builtin.len_;simp[A0,run_underlying hu,goInt]
 .split at hr
  case h_2=>cases hr
  rename_i e' hu;cases hr
  have hv:a.eval x=.slice none 0 0:=by
   have:=hx.1;generalize a.eval x=y at this;cases this;rfl
  rw[hv]at key;refine key _ ?_ (.int _ _) rfl;unfold Builtin.len_;simp[A0,run_underlying hu,goInt]
 .split at hr
  case h_2=>cases hr
  rename_i s hu;cases hr;have hv:=hx.1.str_inv;rw[hv]at key;refine key _ ?_ (.int _ _) rfl;unfold Builtin.len_;simp[A0,run_underlying hu,goInt]
 cases hr
theorem qce (h:Inv bs n M O env a w) {i:Nat} (ho:o.op=.extract x i) {e m:Nat} {rest:LJ} {r:AV} (hp:aop env x=some (.tpr id e k off m rest)) (hr:tprAt id e k off m rest i=some r):Simple P O M a w o r:=by
 have hx:=qv h hp
 have he:execOp a.eval o=vS (Instr.extract (a.eval x) i):=by unfold execOp;rw[ho];rfl
 obtain⟨u,us,e1,e2,e3,e4⟩:=hx
 cases i with
 | zero =>
  cases hr;refine⟨u,?_,e2⟩;rw[he,e1];refine NI ?_;simp[Instr.extract,A1]
 | succ j =>
  simp only[tprAt]at hr
  cases hz:rest[j]? with
  | none=>rw[hz]at hr;cases hr
  | some z =>
   rw[hz]at hr;cases hr
   have hjl:j<us.length:=by rw[<- e3];exact (List.getElem?_eq_some_iff.1 hz).1
   refine⟨us[j],?_,jO (e4 j z _ hz (A6 hjl)).strip (by cases z <;> rfl)⟩;rw[he,e1];refine NI ?_;simp[Instr.extract,A1,hjl]
theorem qhA (h:Inv bs n M O env a w) (ho:o.op=.call { callee:=.builtin .min,args:=args,argTypes:=ats }) (ha:args.toList=[x,y]) {k:IntKind} {p q:Int} (hp:aop env x=some (.int k p)) (hq:aop env y=some (.int k' q)):Simple P O M a w o (.int k (if q<p then q else p)):=by
 have hx:=(qv h hp).1.int_inv;have hy:=(qv h hq).1.int_inv
 have ea:args=#[x,y]:=by apply D0;simpa using ha
 subst ea;refine⟨.int k (if q<p then q else p),?_,.int _ _,trivial⟩;unfold execOp;rw[ho];simp only[resolve,invoke,builtin,A0,A1,A2,G2,E0,G3,hx,hy,Builtin.min_,List.foldlM_cons,List.foldlM_nil,Builtin.min2]
theorem qhB (h:Inv bs n M O env a w) (ho:o.op=.call { callee:=.builtin .max,args:=args,argTypes:=ats }) (ha:args.toList=[x,y]) {k:IntKind} {p q:Int} (hp:aop env x=some (.int k p)) (hq:aop env y=some (.int k' q)):Simple P O M a w o (.int k (if q > p then q else p)):=by
 have hx:=(qv h hp).1.int_inv;have hy:=(qv h hq).1.int_inv
 have ea:args=#[x,y]:=by apply D0;simpa using ha
 subst ea;refine⟨.int k (if q > p then q else p),?_,.int _ _,trivial⟩;unfold execOp;rw[ho];simp only[resolve,invoke,builtin,A0,A1,A2,G2,E0,G3,hx,hy,Builtin.max_,List.foldlM_cons,List.foldlM_nil,Builtin.max2]
theorem Hn {e:Nat} (h:isByte P e=true):P.underlying e=some (.int .u8):=by
 unfold isByte at h;split at h
 .assumption
 cases h
theorem qlw {xs:LJ} {ns:LA} (h:optAll (xs.map byteOf)=some ns):xs=ns.map (AV.int .u8):=by
 have hs:=jE h;clear h
 induction xs generalizing ns with
 | nil=>cases ns with
  | nil=>rfl
  | cons _ _=>cases hs
 | cons x xs ih =>
  cases ns with
  | nil=>cases hs
  | cons n ns =>
   simp only[E0,List.cons.injEq]at hs ⊢;refine⟨?_,ih hs.2⟩;have:=hs.1;unfold byteOf at this;split at this
   .cases this;rfl
   cases this
theorem qcC (h:Inv bs n M O env a w) {s d:TypeId} (ho:o.op=.convert s d x) {r:AV} (hns:∀ q,p≠.str q) (hp:aop env x=some p) (hr:VY P s d p=some r):Simple P O M a w o r:=by
 have hx:=qv h hp
 have he:execOp a.eval o=vS (convert s d (a.eval x)):=by unfold execOp;rw[ho];rfl
 cases p with
 | int k m =>
  simp only[VY]at hr;have e1:=hx.1.int_inv;split at hr
  .rename_i k' hu hs;cases hr;refine⟨.int k' (k'.wrap m),?_,.int _ _,trivial⟩;rw[he,e1];refine NI ?_;unfold convert
   cases hd:P.underlying s with
   | none=>rw[hd]at hs;cases hs
   | some ds =>
    simp only[A0,run_underlying hu,run_underlying hd,A2,Conv.intToInt,A1]
  .rename_i hu hs;split at hr
   case isFalse=>cases hr
   rename_i hm;cases hr;refine⟨.string ⟨#[UInt8.ofNat m.toNat]⟩,?_,.str _,trivial⟩;rw[he,e1];refine NI ?_;unfold convert
   cases hd:P.underlying s with
   | none=>rw[hd]at hs;cases hs
   | some ds =>
    have hen:Utf8.encode m=⟨#[UInt8.ofNat m.toNat]⟩:=by
     have hv:Utf8.valid m=true:=by
      unfold Utf8.valid;simp;exact .inl ⟨hm.1,by omega⟩
     unfold Utf8.encode;simp only[hv,if_true];rw[if_pos (by omega)]
    simp only[A0,run_underlying hu,run_underlying hd,A2,Conv.intToString,A1,hen]
  cases hr
 | str q=>exact absurd rfl (hns q)
 | lst e k l xs =>
  simp only[VY]at hr;split at hr
  case h_2=>cases hr
  rename_i e' hs hd;split at hr
  case h_2=>cases hr
  rename_i ns hb hns';cases hr;simp only[A4]at hb;have hk:=A3 hb.2;have he':=Hn hb.1;have hxs:=qlw hns'
  have hfl:flat xs=ns.map (AV.int .u8):=by
   rw[hxs];unfold flat;rw[G4];simp only[AV.cells];exact List.map_eq_flatMap.symm
  refine⟨.string (strOfNums ns),?_,.str _,trivial⟩;rw[he];refine NI ?_;have hR:=hx.1;generalize a.eval x=vx at hR ⊢
  cases hR with
  | lstn =>
   have:ns=[]:=by simpa using hxs.symm
   subst this;exact run_convert_bytes_nil w s e' hs he' 0 0 d hd
  | lste e k l ad cap =>
   have:ns=[]:=by simpa using hxs.symm
   subst this
   have e2:(Conv.bytesToString (.slice (some ad) 0 cap)).run P w=.ok (.string ByteArray.empty) w:=by simp[Conv.bytesToString,loadCells,loadCellsFrom]
   exact (run_convert_bytes_string w s d e' (some ad) 0 cap hs he' hd).trans e2
  | lst us h1 h2 h5 h3 h4 =>
   rename_i b off cap;refine run_convert_bytes_arg w s e' hs he' b off xs.length cap ns (by rw[hxs];simp) (fun i hi=>?_) d hd;rw[hxs]at hi;simp at hi
   have hi':(flat xs)[i]? = some (AV.int .u8 (ns[i]'hi)):=by rw[hfl];simp[hi]
   have h7:=(h4 i _ hi').int_inv;have h6:=JS (h.cons _ _ _ (h3 i _ hi')) (by rw[h7];rfl);rw[h7]at h6
   simpa[List.getD,A6 hi] using h6
 | nils =>
  simp only[VY]at hr;split at hr
  case h_2=>cases hr
  rename_i e' hs hd;split at hr
  case h_2=>cases hr
  rename_i hb;cases hr;have e1:=hx.1.nils_inv;refine⟨.string ByteArray.empty,?_,.str _,trivial⟩;rw[he,e1];refine NI ?_;exact run_convert_bytes_nil w s e' hs (Hn hb) 0 0 d hd
 | _=>cases hr
end
end Go.AM
namespace Go.AM
open Go.RowKit
variable {mx x:Operand} {c l m:Int} {isSlice:Bool} {hi lo:Option Operand} {cap:Nat} {k1 k2:IntKind} {o:Oper} {t:TypeId} {ps:Array (Nat×Operand)} {u:Value}
section
variable {bs:Base} {n:Nat} {M:Mem} {O:Gh} {env:Env} {a:Act} {w:World} {P:Program}
theorem Vm (h:Inv bs n M O env a w) {d:Int} {x:Option Operand} (hm:aoptInt env d x=some m):(x=none/\m=d)\/∃ y k,x=some y/\a.eval y=.int k m:=by
 unfold aoptInt at hm;split at hm
 .cases hm;exact .inl ⟨rfl,rfl⟩
 rename_i y;split at hm
 .rename_i k m' hy;cases hm;exact .inr ⟨y,k,rfl,(qv h hy).1.int_inv⟩
 cases hm
theorem QR (k:IntKind) (m:Int) (y:Nat) (c:BoundsCode) (h0:0<=m) (h1:m<=y):(Instr.sliceBound (.int k m) y c).run P w=.ok m.toNat w:=by
 unfold Instr.sliceBound;simp only[asIntOf,A0,A1,A2,h0,h1,and_self,if_true]
theorem Yv (h:Inv bs n M O env a w) {len:Nat} (hl:aoptInt env 0 lo=some l) (hh:aoptInt env len hi=some m) (h0:0<=l) (h1:l<=m) (h2:m<=len) (hc:len<=cap) :
  (Instr.sliceBounds isSlice len cap (lo.map a.eval) (hi.map a.eval) none).run P w=.ok (l.toNat,m.toNat,cap) w:=by
 unfold Instr.sliceBounds
 rcases Vm h hh with ⟨rfl,e⟩ | ⟨y,k,rfl,e⟩
 .rcases Vm h hl with ⟨rfl,e'⟩ | ⟨y',k',rfl,e'⟩
  .simp[A0,e,e']
  subst e;simp only[E7,A7,e',A0,A1,A2,G5];rw[QR k' l len _ h0 h1];simp
 have hb:∀ c,(Instr.sliceBound (.int k m) cap c).run P w=.ok m.toNat w:=fun c=>QR k m cap c oM oM
 rcases Vm h hl with ⟨rfl,e'⟩ | ⟨y',k',rfl,e'⟩
 .simp only[E7,A7,e,A0,A1,A2,hb];simp[e']
 simp only[E7,A7,e,e',A0,A1,A2,hb,G5];rw[QR k' l m.toNat _ h0 (by omega)];rfl
theorem qbj (h:Inv bs n M O env a w) {hi:Operand} {len:Nat} (hl:aoptInt env 0 lo=some l) (hh:a.eval hi=.int k1 m) (hx:a.eval mx=.int k2 c) (h0:0<=l) (h1:l<=m) (h2:m<=c) (hc:c<=cap) :
  (Instr.sliceBounds isSlice len cap (lo.map a.eval) (some (a.eval hi)) (some (a.eval mx))).run P w=.ok (l.toNat,m.toNat,c.toNat) w:=by
 unfold Instr.sliceBounds
 have b1:∀ q,(Instr.sliceBound (.int k2 c) cap q).run P w=.ok c.toNat w:=fun q=>QR k2 c cap q oM hc
 have b2:∀ q,(Instr.sliceBound (.int k1 m) c.toNat q).run P w=.ok m.toNat w:=fun q=>QR k1 m c.toNat q oM oM
 rcases Vm h hl with ⟨rfl,e'⟩ | ⟨y',k',rfl,e'⟩
 .simp only[E7,hh,hx,A0,A1,A2,b1,b2];simp[e']
 simp only[A7,hh,hx,e',A0,A1,A2,b1,b2,Option.isSome_some];rw[QR k' l m.toNat _ h0 (by omega)];rfl
theorem Zu {k:Nat}:∀ {xs:LJ} (i:Nat),(∀ x,x∈xs->x.cells.length=k)->flat (xs.drop i)=(flat xs).drop (i * k)
 | xs,0,_=>by simp
 | [],i+1,_=>by simp[flat]
 | x::xs,i+1,h=>by
  have h1:=h x (List.mem_cons_self ..)
  have ih:=Zu (xs:=xs) i fun y hy=>h y (H8 _ hy)
  rw[List.drop_succ_cons,ih]
  have e:flat (x::xs)=x.cells++flat xs:=by simp[flat]
  have e2:(i+1) * k=x.cells.length+i * k:=by rw[h1,C0];omega
  rw[e,e2,List.drop_append];simp
theorem qfh (h:Inv bs n M O env a w) (ho:o.op=.slice t x lo hi none) {p r:AV} (hp:aop env x=some p) (hr:aslice P t p lo hi env=some r):Simple P O M a w o r:=by
 have hx:=qv h hp
 have he:execOp a.eval o=vS (Instr.sliceAt t (a.eval x) (lo.map a.eval) (hi.map a.eval) none):=by unfold execOp;rw[ho];rfl
 unfold aslice at hr;split at hr
 .rename_i e k lab xs;split at hr
  case h_2=>cases hr
  rename_i e' k' hse;split at hr
  case h_2=>cases hr
  rename_i hk;have hk:=A3 hk;subst hk;obtain⟨hu,hs⟩:=Jp hse;split at hr
  case h_2=>cases hr
  rename_i l m hl hm;by_cases hb:0<=l/\l<=m/\m<=xs.length
  case neg=>rw[if_neg hb]at hr;cases hr
  rw[if_pos hb]at hr;cases hr;obtain⟨b0,b1,b2⟩:=hb
  have hrun:∀ (ad:Option Addr) (cap:Nat),xs.length<=cap->a.eval x=.slice ad xs.length cap->(Instr.sliceAt t (a.eval x) (lo.map a.eval) (hi.map a.eval) none).run P w =
    .ok (.slice (if cap=l.toNat then ad else ad.map (·.add (l.toNat * k))) (m.toNat - l.toNat) (cap - l.toNat)) w:=by
   intro ad cap hc hv;rw[hv];unfold Instr.sliceAt Instr.slice;simp only[A0,run_underlying hu,A2,Yv h hl hm b0 b1 b2 hc,Jl hs,A1]
  rcases hx.1.lst_inv with ⟨rfl,hv | ⟨ad,cap,hv⟩⟩ | ⟨b,off,cap,us,hv,h1,h2,h3,h4,h5⟩
  .have l0:l=0:=by simp at b2;omega
   have m0:m=0:=by simp at b2;omega
   subst l0;subst m0;refine⟨_,by rw[he];exact NI (hrun none 0 (by simp) hv),?_,?_⟩
   .simp;exact R.lstn e k _
   simp
   cases hi <;> cases lab <;> first | trivial | exact .inl ⟨_,rfl⟩
  .have l0:l=0:=by simp at b2;omega
   have m0:m=0:=by simp at b2;omega
   subst l0;subst m0
   have how:OwnV O M w (.lst e k (keepLab hi lab) []) (.slice (some ad) 0 cap):=by
    cases hi with
    | some _=>trivial
    | none=>rw[<- hv];exact hx.2
   refine⟨_,by rw[he];exact NI (hrun (some ad) cap (by simp) hv),?_⟩
   have e0:(if cap=(0:Int).toNat then some ad else (some ad).map (·.add ((0:Int).toNat * k)))=some ad:=by
    split
    .rfl
    simp[Addr.add]
   rw[e0];refine⟨?_,by simpa using how⟩;simp;exact R.lste e k _ ad cap
  refine⟨_,by rw[he];exact NI (hrun _ cap h1 hv),?_⟩
  have hlen:((xs.take m.toNat).drop l.toNat).length=m.toNat - l.toNat:=by simp;omega
  have hty:∀ y,y∈xs.take m.toNat->y.cells.length=k:=fun y hy=>h2 y (E8 hy)
  have hflat:∀ (j:Nat) c,(flat ((xs.take m.toNat).drop l.toNat))[j]? = some c->(flat xs)[l.toNat * k+j]? = some c:=by
   intro j c hj;rw[Zu _ hty,D4]at hj
   have hsplit:flat xs=flat (xs.take m.toNat)++flat (xs.drop m.toNat):=by
    simp only[flat,<- List.flatMap_append,H9]
   rw[hsplit,C7 (List.getElem?_eq_some_iff.1 hj).1];exact hj
  by_cases hcl:cap=l.toNat
  .rw[if_pos hcl];have hz:(xs.take m.toNat).drop l.toNat=[]:=G6 (by rw[hlen];omega);rw[hz]
   have:m.toNat - l.toNat=([]:LJ).length:=by simp;omega
   rw[this];refine⟨R.lst us (by simp) (by simp) (by simp) (by simp[flat]) (by simp[flat]),?_⟩
   have hc0:cap - l.toNat=0:=by omega
   rw[hc0]
   cases hi <;> cases lab <;> first | trivial | exact .inl ⟨_,rfl⟩
  rw[if_neg hcl];simp only[A7,QC]
  have how:OwnV O M w (.lst e k (keepLab hi lab) ((xs.take m.toNat).drop l.toNat)) (.slice (some ⟨b,off+l.toNat * k,none⟩) (m.toNat - l.toNat) (cap - l.toNat)):=by
   cases hi with
   | some _=>trivial
   | none =>
    cases lab with
    | none=>trivial
    | some c =>
     have hm':m=xs.length:=by
      simp only[aoptInt]at hm;exact (Option.some.inj hm).symm
     have hxo:=hx.2;rw[hv]at hxo
     rcases hxo with ⟨ad,ha⟩ | ⟨g,off2,cap2,cur,r1,r2,r3,r4,r5,r6,r7⟩
     .have:=(Value.slice.inj ha).2.2;omega
     cases r1;refine .inr ⟨b,off+l.toNat * k,cap - l.toNat,cur,by rw[hlen],r2,r3,?_,by rw[hlen];omega,by omega,fun o ho=>r7 o ?_⟩
     .rw[r4,B1,<- C0]
      congr 2
      omega
     rw[hlen,B1,<- C0]at ho
     have e1:l.toNat+(m.toNat - l.toNat)=xs.length:=by omega
     rw[e1]at ho;exact ho
  refine⟨?_,how⟩;rw[<- hlen];exact R.lst (fun j=>us (l.toNat * k+j)) (by rw[hlen];omega) (fun y hy=>hty y (E9 hy)) (fun y hy=>h5 y (E8 (E9 hy))) (fun j c hj=>by rw[B1];exact h3 _ _ (hflat j c hj)) (fun j c hj=>h4 _ _ (hflat j c hj))
 .
  rename_i id e k off q;split at hr
  case h_2=>cases hr
  rename_i e' k' hse;split at hr
  case h_2=>cases hr
  rename_i hk;have hk:=A3 hk;subst hk;obtain⟨hu,hs⟩:=Jp hse;split at hr
  case h_2=>cases hr
  rename_i l m hl hm;by_cases hb:0<=l/\l<=m/\m<=q
  case neg=>rw[if_neg hb]at hr;cases hr
  rw[if_pos hb]at hr;cases hr;obtain⟨b0,b1,b2⟩:=hb
  have hrun:∀ (ad:Option Addr) (cap:Nat),q<=cap->a.eval x=.slice ad q cap->(Instr.sliceAt t (a.eval x) (lo.map a.eval) (hi.map a.eval) none).run P w =
    .ok (.slice (if cap=l.toNat then ad else ad.map (·.add (l.toNat * k))) (m.toNat - l.toNat) (cap - l.toNat)) w:=by
   intro ad cap hc hv;rw[hv];unfold Instr.sliceAt Instr.slice;simp only[A0,run_underlying hu,A2,Yv h hl hm b0 b1 b2 hc,Jl hs,A1]
  obtain⟨h1,h2⟩:=hx
  rcases h2 with ⟨rfl,ad,hv⟩ | ⟨g,cap,hv,h3,h4,h5,h6⟩
  .have l0:l=0:=by omega
   have m0:m=0:=by omega
   subst l0;subst m0;refine⟨_,by rw[he];exact NI (hrun ad 0 (by simp) hv),by simpa using h1,.inl ⟨by simp,ad,by simp⟩⟩
  refine⟨_,by rw[he];exact NI (hrun _ cap h5 hv),by omega,?_⟩;by_cases hcl:cap=l.toNat
  .rw[if_pos hcl]
   have e1:m.toNat - l.toNat=0:=by omega
   have e2:cap - l.toNat=0:=by omega
   rw[e1,e2];exact .inl ⟨rfl,_,rfl⟩
  rw[if_neg hcl];simp only[A7,QC];refine .inr ⟨g,cap - l.toNat,by rw[C0],h3,?_,by omega,by omega⟩;rw[h4]
  congr 1
  omega
 .
  rename_i st;split at hr
  case h_2=>cases hr
  rename_i hu;split at hr
  case h_2=>cases hr
  rename_i l m hl hm;by_cases hb:0<=l/\l<=m/\m<=st.size
  case neg=>rw[if_neg hb]at hr;cases hr
  rw[if_pos hb]at hr;cases hr;obtain⟨b0,b1,b2⟩:=hb;have hv:=hx.1.str_inv;refine⟨.string (st.extract l.toNat m.toNat),?_,.str _,trivial⟩;rw[he,hv];refine NI ?_;unfold Instr.sliceAt Instr.slice;simp only[A0,run_underlying hu,A2,G5,Bool.false_eq_true,if_false,A1,Yv (P:=P) (isSlice:=false) (cap:=st.size) h hl hm b0 b1 b2 (D6 _)]
 .split at hr
  case h_2=>cases hr
  rename_i q hse;obtain⟨e',k'⟩:=q;obtain⟨hu,hs⟩:=Jp hse;split at hr
  case h_2=>cases hr
  rename_i l m hl hm;by_cases hb:l=0/\m=0
  case neg=>rw[if_neg hb]at hr;cases hr
  rw[if_pos hb]at hr;cases hr;obtain⟨rfl,rfl⟩:=hb
  have hv:a.eval x=.slice none 0 0:=by
   have:=hx.1;generalize a.eval x=y at this;cases this;rfl
  refine⟨.slice none 0 0,?_,.nils,trivial⟩;rw[he,hv];refine NI ?_;unfold Instr.sliceAt Instr.slice;simp only[A0,run_underlying hu,A2,Yv (P:=P) (len:=0) (cap:=0) h hl hm (Int.le_refl 0) (Int.le_refl 0) (Int.le_refl 0) (D6 0),Jl hs,A1];simp
 cases hr
theorem qdE (h:Inv bs n M O env a w) {hi:Operand} (ho:o.op=.slice t x lo (some hi) (some mx)) {e k:Nat} {lab:LR} {xs:LJ} {e':Nat} (hp:aop env x=some (.lst e k lab xs)) (hse:jT P t=some (e',k))
  (hl:aoptInt env 0 lo=some l) (hh:aop env hi=some (.int k1 m)) (hm:aop env mx=some (.int k2 c)) (hb:0<=l/\l<=m/\m<=c/\c<=xs.length):Simple P O M a w o (.lst e k none ((xs.take m.toNat).drop l.toNat)):=by
 have hx:=qv h hp;have hhv:=(qv h hh).1.int_inv;have hmv:=(qv h hm).1.int_inv
 have he:execOp a.eval o=vS (Instr.sliceAt t (a.eval x) (lo.map a.eval) (some (a.eval hi)) (some (a.eval mx))):=by unfold execOp;rw[ho];rfl
 obtain⟨hu,hs⟩:=Jp hse;obtain⟨b0,b1,b2,b3⟩:=hb
 have hrun:∀ (ad:Option Addr) (cap:Nat),xs.length<=cap->a.eval x=.slice ad xs.length cap->(Instr.sliceAt t (a.eval x) (lo.map a.eval) (some (a.eval hi)) (some (a.eval mx))).run P w =
   .ok (.slice (if c.toNat=l.toNat then ad else ad.map (·.add (l.toNat * k))) (m.toNat - l.toNat) (c.toNat - l.toNat)) w:=by
  intro ad cap hc hv;rw[hv];unfold Instr.sliceAt Instr.slice;have hbnd:=qbj (P:=P) h (isSlice:=true) (len:=xs.length) (cap:=cap) hl hhv hmv b0 b1 b2 oM;simp only[A0,run_underlying hu,A2,hbnd,Jl hs,A1]
 rcases hx.1.lst_inv with ⟨rfl,hv | ⟨ad,cap,hv⟩⟩ | ⟨b,off,cap,us,hv,h1,h2,h3,h4,h5⟩
 .have c0:c=0:=by simp at b3;omega
  have m0:m=0:=by omega
  have l0:l=0:=by omega
  subst l0;subst m0;subst c0;exact⟨_,by rw[he];exact NI (hrun none 0 (by simp) hv),by simp;exact R.lstn e k _,trivial⟩
 .have c0:c=0:=by simp at b3;omega
  have m0:m=0:=by omega
  have l0:l=0:=by omega
  subst l0;subst m0;subst c0;exact⟨_,by rw[he];exact NI (hrun (some ad) cap (by simp) hv),by simp;exact R.lste e k _ ad 0,trivial⟩
 refine⟨_,by rw[he];exact NI (hrun _ cap h1 hv),?_,trivial⟩
 have hlen:((xs.take m.toNat).drop l.toNat).length=m.toNat - l.toNat:=by simp;omega
 have hty:∀ y,y∈xs.take m.toNat->y.cells.length=k:=fun y hy=>h2 y (E8 hy)
 have hflat:∀ (j:Nat) c,(flat ((xs.take m.toNat).drop l.toNat))[j]? = some c->(flat xs)[l.toNat * k+j]? = some c:=by
  intro j c hj;rw[Zu _ hty,D4]at hj
  have hsplit:flat xs=flat (xs.take m.toNat)++flat (xs.drop m.toNat):=by
   simp only[flat,<- List.flatMap_append,H9]
  rw[hsplit,C7 (List.getElem?_eq_some_iff.1 hj).1];exact hj
 by_cases hcl:c.toNat=l.toNat
 .rw[if_pos hcl];have hz:(xs.take m.toNat).drop l.toNat=[]:=G6 (by rw[hlen];omega);rw[hz]
  have:m.toNat - l.toNat=([]:LJ).length:=by simp;omega
  rw[this];exact R.lst us (by simp) (by simp) (by simp) (by simp[flat]) (by simp[flat])
 rw[if_neg hcl];simp only[A7,QC];rw[<- hlen];exact R.lst (fun j=>us (l.toNat * k+j)) (by rw[hlen];omega) (fun y hy=>hty y (E9 hy)) (fun y hy=>h5 y (E8 (E9 hy))) (fun j c hj=>by rw[B1];exact h3 _ _ (hflat j c hj)) (fun j c hj=>h4 _ _ (hflat j c hj))
theorem qdh (off:Nat):∀ (l:LT) (k:Nat) (cs:LO),((l.zipIdx k).foldl (fun cs p=>cs.setIfInBounds (off+p.2) p.1) cs).size=cs.size /\
  ∀ i:Nat,((l.zipIdx k).foldl (fun cs p=>cs.setIfInBounds (off+p.2) p.1) cs)[i]? = if off+k<=i/\i<off+k+l.length/\i<cs.size then l[i - (off+k)]? else cs[i]?
 | [],k,cs=>⟨rfl,fun i=>by rw[if_neg (by simp;omega)];rfl⟩
 | v::l,k,cs=>by
  obtain⟨h1,h2⟩:=qdh off l (k+1) (cs.setIfInBounds (off+k) v);simp only[List.zipIdx_cons,List.foldl_cons];refine⟨by rw[h1];simp,fun i=>?_⟩;rw[h2 i];simp only[List.length_cons,Array.size_setIfInBounds,Array.getElem?_setIfInBounds];by_cases c1:off+(k+1)<=i/\i<off+(k+1)+l.length/\i<cs.size
  .rw[if_pos c1,if_pos (by omega),show i - (off+k)=(i - (off+(k+1)))+1 by omega];simp
  rw[if_neg c1];by_cases c2:off+k=i
  .rw[if_pos c2];by_cases c3:off+k<cs.size
   .rw[if_pos c3,if_pos (by omega),show i - (off+k)=0 by omega];simp
   rw[if_neg c3,if_neg (by omega)];subst c2;simp;omega
  rw[if_neg c2,if_neg (by omega)]
def Rows (M:Mem) (cs:LJ) (us:LO):Prop :=
 cs.length=us.size/\∀ (j:Nat) c u,cs[j]? = some c->us[j]? = some u->R M c u
theorem qag {place place':Nat->Option (Nat×Nat)} (hp:∀ i q,place i=some q->place' i=some q):∀ (ps:Lg) (qs:List (Nat×Value)) (cs:LJ) (us:LO) (r:LJ),
  ps.length=qs.length->(∀ (j:Nat) p q,ps[j]? = some p->qs[j]? = some q->p.1=q.1/\R M p.2 q.2)->Rows M cs us->fillA place cs ps=some r ->
  ∃ us',Instr.fill place' us qs=some us'/\Rows M r us'
 | [],[],cs,us,r,_,_,hr,h=>by
  cases h;exact⟨us,rfl,hr⟩
 | [],_::_,_,_,_,hl,_,_,_=>by simp at hl
 | _::_,[],_,_,_,hl,_,_,_=>by simp at hl
 | (i,v)::ps,(i',u)::qs,cs,us,r,hl,hps,hr,h=>by
  obtain⟨e,hv⟩:=hps 0 (i,v) (i',u) rfl rfl;simp only at e hv;subst e;simp only[fillA]at h;split at h
  .cases h
  rename_i off size hpl;split at h
  case h_2=>cases h
  rename_i hb;simp only[A4]at hb;obtain⟨⟨b1,b2⟩,b3⟩:=hb;have b1:=A3 b1;have b2:=A9 b2;obtain⟨k1,k2,k3⟩:=hv.cells b3;obtain⟨l1,l2⟩:=hr
  have hsz:u.cells.toList.length=size:=by simp[k1,b1]
  obtain⟨f1,f2⟩:=qdh off u.cells.toList 0 us
  have hfold:(u.cells.zipIdx.foldl (fun cs p=>cs.setIfInBounds (off+p.2) p.1) us)=((u.cells.toList.zipIdx).foldl (fun cs p=>cs.setIfInBounds (off+p.2) p.1) us):=by
   rw[<- Array.foldl_toList];simp
  obtain⟨us',h1,h2⟩:=qag hp ps qs (cs.take off++v.cells.map AV.strip++cs.drop (off+size)) ((u.cells.toList.zipIdx).foldl (fun cs p=>cs.setIfInBounds (off+p.2) p.1) us) r
   (by simpa using hl) (fun j p q hp' hq=>hps (j+1) p q (by simpa using hp') (by simpa using hq)) ⟨by
    rw[f1,<- l1];simp;omega,by
    intro j c x hc hx;rw[f2 j]at hx;simp only[F9]at hx;by_cases hj:off<=j/\j<off+u.cells.toList.length/\j<us.size
    .rw[if_pos hj]at hx;rw[D2,D3 (by simp;omega),C7 (by simp;omega),A8]at hc
     have el:(List.take off cs).length=off:=by simp;omega
     rw[el]at hc
     cases hz:v.cells[j - off]? with
     | none=>rw[hz]at hc;cases hc
     | some z =>
      rw[hz]at hc;cases hc;exact (k2 (j - off) z x hz (by simpa using hx)).strip
    rw[if_neg hj]at hx;refine l2 j c x ?_ hx;have hxl:=(Array.getElem?_eq_some_iff.1 hx).1;by_cases hjo:j<off
    .rw[D2,C7 (by simp;omega),F8,if_pos hjo]at hc;exact hc
    rw[D3 (by simp;omega)]at hc;simp only[List.length_append,List.length_take,F6,D4]at hc;rw[show off+size+(j - (min off cs.length+v.cells.length))=j by omega]at hc
    exact hc⟩ h
  refine⟨us',?_,h2⟩;simp only[Instr.fill,hp _ _ hpl]
  rw[if_neg (by
   rw[k1,b1,<- l1];simp only[ne_eq,not_true_eq_false,decide_false,Bool.false_or,decide_eq_true_eq]
   omega)]
  rw[hfold];exact h1
theorem Xo {z:LJ} (h:Yy P t=some z):∃ it zv,P.info? t=some it/\it.zero=some zv/\Rows M z zv.cells/\(∀ c∈z,c.one=true/\c.lab? = none):=by
 unfold Yy at h
 cases hi:P.info? t with
 | none=>rw[hi]at h;cases h
 | some it =>
  rw[hi]at h;simp only[Option.bind_some]at h
  cases hz:it.zero with
  | none=>rw[hz]at h;cases h
  | some zv =>
   rw[hz]at h;simp only at h;have hs:=jE h
   have hlen:zv.cells.toList.length=z.length:=by simpa using congrArg D9 hs
   refine⟨it,zv,rfl,hz,⟨by simpa using hlen.symm,fun j c u hc hu=>?_⟩,fun c hc=>?_⟩
   .have hj:=congrArg (fun q=>q[j]?) hs;simp only[A8,hc,A7]at hj
    have hu':zv.cells.toList[j]? = some u:=by simpa using hu
    rw[hu']at hj;exact (Xy (O:=⟨fun _ _=>none,fun _=>0,fun _=>0⟩) (w:=default) (Option.some.inj hj)).1
   obtain⟨j,hj⟩:=List.mem_iff_getElem?.1 hc;have hjj:=congrArg (fun q=>q[j]?) hs;simp only[A8,hj,A7]at hjj
   cases hu:zv.cells.toList[j]? with
   | none=>rw[hu]at hjj;cases hjj
   | some u =>
    rw[hu]at hjj;have:=Xy (M:=fun _ _=>none) (O:=⟨fun _ _=>none,fun _=>0,fun _=>0⟩) (w:=default) (Option.some.inj hjj);exact⟨this.2.2.1,this.2.2.2.1⟩
theorem Hd (h:Inv bs n M O env a w) {l:Lg} (hl:parts? env ps=some l) :
  l.length=((ps.map fun (i,x)=>(i,a.eval x)).toList).length/\∀ (j:Nat) p q,l[j]? = some p->((ps.map fun (i,x)=>(i,a.eval x)).toList)[j]? = some q->p.1=q.1/\ValOk O M w p.2 q.2:=by
 unfold parts? at hl;have hs:=jE hl
 have hlen:ps.toList.length=l.length:=by simpa using congrArg D9 hs
 refine⟨by simp at hlen ⊢;omega,fun j p q hp hq=>?_⟩;have hj:=congrArg (fun q=>q[j]?) hs;simp only[A8,hp,A7]at hj;simp only[Array.toList_map,A8]at hq
 cases hx:ps.toList[j]? with
 | none=>rw[hx]at hq;cases hq
 | some x =>
  rw[hx]at hq hj;simp only[A7,Option.some.injEq]at hq hj;split at hj
  .rename_i v hv;cases hj;subst hq;exact⟨rfl,qv h hv⟩
  cases hj
theorem VJ {x:AV} {M:Mem} {v:Value} (h:ValOk O M w x v) (ho:x.cells.all AV.one=true):R M x v:=by
 refine h.r (fun s=>?_) (fun _ _ e=>by subst e;simp[AV.cells,AV.one]at ho) fun _ e=>by subst e;simp[AV.cells,AV.one]at ho
 cases x <;> first | rfl | (simp[AV.cells,AV.one]at ho)
theorem qeN {place:Nat->Option (Nat×Nat)}:∀ {ps:Lg} {cs r:LJ},fillA place cs ps=some r->∀ p∈ps,p.2.cells.all AV.one=true
 | [],_,_,_,p,hp=>by cases hp
 | (i,v)::ps,cs,r,h,p,hp=>by
  simp only[fillA]at h;split at h
  .cases h
  split at h
  case h_2=>cases h
  rename_i hb;simp only[A4]at hb
  cases hp with
  | head=>exact hb.2
  | tail _ hp=>exact qeN h p hp
theorem qfl (h:Inv bs n M O env a w) (ho:o.op=.build t ps) {l:Lg} (hl:parts? env ps=some l) {r:AV} (hr:abuild P t l=some r):Simple P O M a w o r:=by
 obtain⟨l1,l2⟩:=Hd h hl
 have he:execOp a.eval o=vS (Instr.build t (ps.map fun (i,x)=>(i,a.eval x))):=by unfold execOp;rw[ho];rfl
 have key:∀ (place place':Nat->Option (Nat×Nat)) z zv cs,(∀ i q,place i=some q->place' i=some q)->Rows M z zv->fillA place z l=some cs->∃ us',Instr.fill place' zv (ps.map fun (i,x)=>(i,a.eval x)).toList=some us'/\Rows M cs us':=by
  intro place place' z zv cs hp hz hf;refine qag hp l _ z zv cs l1 (fun j p q hp' hq=>?_) hz hf;obtain⟨e1,e2⟩:=l2 j p q hp' hq;exact⟨e1,VJ e2 (qeN hf p (A5 hp'))⟩
 have fin:∀ cs us,Rows M cs us->P.built t (ps.map fun (i,x)=>(i,a.eval x)).toList=some us->Simple P O M a w o (.agg cs):=by
  intro cs us hR hb;refine⟨.agg us,by rw[he];exact NI (run_build w t _ us hb),?_,trivial⟩
  have:=R.agg (M:=M) (cs:=cs) (vs:=us.toList) (by simpa using hR.1) fun j c v hc hv=>hR.2 j c v hc (by simpa using hv)
  simpa using this
 unfold abuild at hr;split at hr
 .rename_i fs z hu hz;obtain⟨it,zv,hi,hzz,hzr,_⟩:=Xo (M:=M) hz;split at hr
  case h_2=>cases hr
  rename_i places hpl
  cases hf:fillA (fun i=>places[i]?) z l with
  | none=>rw[hf]at hr;cases hr
  | some cs =>
   rw[hf]at hr;cases hr;obtain⟨us',h1,h2⟩:=key _ (fun i=>places.toArray[i]?) z zv.cells cs (fun i q hq=>by simpa using hq) hzr hf;refine fin cs us' h2 ?_;unfold Program.built;simp only[hi,hu,hzz,hpl];exact h1
 .rename_i k e z hu hz;obtain⟨it,zv,hi,hzz,hzr,_⟩:=Xo (M:=M) hz;split at hr
  case h_2=>cases hr
  rename_i ie hie
  cases hf:fillA (fun i=>some (i * ie.size,ie.size)) z l with
  | none=>rw[hf]at hr;cases hr
  | some cs =>
   rw[hf]at hr;cases hr;obtain⟨us',h1,h2⟩:=key _ (fun i=>some (i * ie.size,ie.size)) z zv.cells cs (fun i q hq=>hq) hzr hf;refine fin cs us' h2 ?_;unfold Program.built;simp only[hi,hu,hzz,hie];exact h1
 cases hr
def CellG (O:Gh) (M:Mem) (w:World) (c:AV) (u:Value):Prop:=CellR O M 0 c u/\OwnV O M w c u/\c≠.slf
def RowsG (O:Gh) (M:Mem) (w:World) (cs:LJ) (us:LO):Prop :=
 cs.length=us.size/\∀ (j:Nat) c u,cs[j]? = some c->us[j]? = some u->CellG O M w c u
theorem Dw {c:AV} (h1:c.one=true) (h2:R M c u) (h3:OwnV O M w c u):CellG O M w c u:=by
 refine⟨?_,h3,fun e=>by subst e;cases h1⟩
 cases c <;> first | exact⟨h1,h2⟩ | cases h1
theorem qfI (h:u.oneCell'=true):u.cells=#[u]:=by cases u <;> first | rfl | cases h
theorem partG {v:AV} (h:ValOk O M w v u) (hp:v.gcells.all AV.partOk=true):u.cells.size=v.gcells.length/\∀ (j:Nat) c x,v.gcells[j]? = some c->u.cells[j]? = some x->CellG O M w c x:=by
 have single:∀ {c:AV},CellG O M w c u->u.cells.size=[c].length/\∀ (j:Nat) c' x,[c][j]? = some c'->u.cells[j]? = some x->CellG O M w c' x:=by
  intro c hc;rw[qfI hc.1.one];refine⟨rfl,fun j c' x h1 h2=>?_⟩
  cases j with
  | succ j=>simp at h1
  | zero=>cases h1;cases h2;exact hc
 have plain:v.one=true->R M v u->OwnV O M w v u->v.gcells=[v]->u.cells.size=v.gcells.length/\∀ (j:Nat) c x,v.gcells[j]? = some c->u.cells[j]? = some x->CellG O M w c x:=by
  intro h1 h2 h3 h4;rw[h4];exact single (Dw h1 h2 h3)
 cases v with
 | sb id e k off m=>exact single ⟨h,trivial,fun e=>by cases e⟩
 | mb kd id =>
  cases kd with
  | succ kd=>simp[AV.gcells,AV.partOk,AV.one]at hp
  | zero =>
   obtain⟨g,q1,q2⟩:=h;exact single ⟨⟨rfl,g,q1,q2⟩,trivial,fun e=>by cases e⟩
 | agg cs =>
  have h1:R M (.agg cs) u:=h.1;clear h
  cases h1 with
  | agg hl hr =>
   rename_i vs;refine⟨by simp[Value.cells,AV.gcells,hl],fun j c x hc hx=>?_⟩;simp only[AV.gcells,A8]at hc
   have hx':vs[j]? = some x:=by simpa[Value.cells] using hx
   cases hz:cs[j]? with
   | none=>rw[hz]at hc;cases hc
   | some z =>
    rw[hz]at hc;cases hc;have hR:=hr j z x hz hx'
    have hz1:z.strip1.partOk=true:=by
     rw[D5]at hp;exact hp _ (List.mem_map.2 ⟨z,A5 hz,rfl⟩)
    cases z with
    | lst e k l xs=>exact Dw rfl hR.setLab trivial
    | _=>first | (cases hR;done) | exact Dw hz1 hR trivial
 | box cs=>exact h.elim
 | obj e k xs=>exact h.elim
 | hob kd ks vs=>exact h.elim
 | bxg cs=>exact h.elim
 | slf=>exact h.elim
 | pb s o=>simp[AV.gcells,AV.partOk,AV.one]at hp
 | pe s k j o=>simp[AV.gcells,AV.partOk,AV.one]at hp
 | tpr s e k off m rest=>simp[AV.gcells,AV.partOk,AV.one]at hp
 | clb f caps=>simp[AV.gcells,AV.partOk,AV.one]at hp
 | agr cs=>simp[AV.gcells,AV.partOk,AV.one]at hp
 | top=>simp[AV.gcells,AV.partOk,AV.one]at hp
 | und=>simp[AV.gcells,AV.partOk,AV.one]at hp
 | tup vs=>simp[AV.gcells,AV.partOk,AV.one]at hp
 | ub p=>simp[AV.gcells,AV.partOk,AV.one]at hp
 | _=>exact plain rfl h.1 h.2 rfl
theorem qbR {place place':Nat->Option (Nat×Nat)} (hp:∀ i q,place i=some q->place' i=some q):∀ (ps:Lg) (qs:List (Nat×Value)) (cs:LJ) (us:LO) (r:LJ),
  ps.length=qs.length->(∀ (j:Nat) p q,ps[j]? = some p->qs[j]? = some q->p.1=q.1/\ValOk O M w p.2 q.2)->RowsG O M w cs us->fillG place cs ps=some r ->
  ∃ us',Instr.fill place' us qs=some us'/\RowsG O M w r us'
 | [],[],cs,us,r,_,_,hr,h=>by
  cases h;exact⟨us,rfl,hr⟩
 | [],_::_,_,_,_,hl,_,_,_=>by simp at hl
 | _::_,[],_,_,_,hl,_,_,_=>by simp at hl
 | (i,v)::ps,(i',u)::qs,cs,us,r,hl,hps,hr,h=>by
  obtain⟨e,hv⟩:=hps 0 (i,v) (i',u) rfl rfl;simp only at e hv;subst e;simp only[fillG]at h;split at h
  .cases h
  rename_i off size hpl;split at h
  case h_2=>cases h
  rename_i hb;simp only[A4]at hb;obtain⟨⟨b1,b2⟩,b3⟩:=hb;have b1:=A3 b1;have b2:=A9 b2;obtain⟨k1,k2⟩:=partG hv b3;obtain⟨l1,l2⟩:=hr
  have hsz:u.cells.toList.length=size:=by simp[k1,b1]
  obtain⟨f1,f2⟩:=qdh off u.cells.toList 0 us
  have hfold:(u.cells.zipIdx.foldl (fun cs p=>cs.setIfInBounds (off+p.2) p.1) us)=((u.cells.toList.zipIdx).foldl (fun cs p=>cs.setIfInBounds (off+p.2) p.1) us):=by
   rw[<- Array.foldl_toList];simp
  obtain⟨us',h1,h2⟩:=qbR hp ps qs (cs.take off++v.gcells++cs.drop (off+size)) ((u.cells.toList.zipIdx).foldl (fun cs p=>cs.setIfInBounds (off+p.2) p.1) us) r
   (by simpa using hl) (fun j p q hp' hq=>hps (j+1) p q (by simpa using hp') (by simpa using hq)) ⟨by
    rw[f1,<- l1];simp;omega,by
    intro j c x hc hx;rw[f2 j]at hx;simp only[F9]at hx;by_cases hj:off<=j/\j<off+u.cells.toList.length/\j<us.size
    .rw[if_pos hj]at hx;rw[D2,D3 (by simp;omega),C7 (by simp;omega)]at hc
     have el:(List.take off cs).length=off:=by simp;omega
     rw[el]at hc;exact k2 (j - off) c x hc (by simpa using hx)
    rw[if_neg hj]at hx;refine l2 j c x ?_ hx;have hxl:=(Array.getElem?_eq_some_iff.1 hx).1;by_cases hjo:j<off
    .rw[D2,C7 (by simp;omega),F8,if_pos hjo]at hc;exact hc
    rw[D3 (by simp;omega)]at hc;simp only[List.length_append,List.length_take,D4]at hc;rw[show off+size+(j - (min off cs.length+v.gcells.length))=j by omega]at hc
    exact hc⟩ h
  refine⟨us',?_,h2⟩;simp only[Instr.fill,hp _ _ hpl]
  rw[if_neg (by
   rw[k1,b1,<- l1];simp only[ne_eq,not_true_eq_false,decide_false,Bool.false_or,decide_eq_true_eq]
   omega)]
  rw[hfold];exact h1
theorem DA (h:Inv bs n M O env a w) (ho:o.op=.build t ps) {l:Lg} (hl:parts? env ps=some l) {r:AV} (hr:abuildG P t l=some r):Simple P O M a w o r:=by
 obtain⟨l1,l2⟩:=Hd h hl
 have he:execOp a.eval o=vS (Instr.build t (ps.map fun (i,x)=>(i,a.eval x))):=by unfold execOp;rw[ho];rfl
 unfold abuildG at hr;split at hr
 case h_2=>cases hr
 rename_i fs z hu hz;obtain⟨it,zv,hi,hzz,hzr,hzl⟩:=Xo (M:=M) hz;split at hr
 case h_2=>cases hr
 rename_i places hpl hone
 cases hf:fillG (fun i=>places[i]?) z l with
 | none=>rw[hf]at hr;cases hr
 | some cs =>
  rw[hf]at hr;cases hr
  have hz0:RowsG O M w z zv.cells:=⟨hzr.1,fun j c u hc hu=>by
   have h1:=List.all_eq_true.1 hone c (A5 hc);refine Dw h1 (hzr.2 j c u hc hu) ?_;have:=(hzl c (A5 hc)).2
   cases c with
   | lst e k l xs=>cases l with
    | none=>trivial
    | some c=>cases this
   | _=>trivial⟩
  obtain⟨us',h1,h2⟩:=qbR (place':=fun i=>places.toArray[i]?) (fun i q hq=>by simpa using hq) l _ z zv.cells cs l1 (fun j p q hp' hq=>by
   obtain⟨e1,e2⟩:=l2 j p q hp' hq
   exact⟨e1,e2⟩) hz0 hf
  refine⟨.agg us',by
   rw[he];refine NI (run_build w t _ us' ?_);unfold Program.built;simp only[hi,hu,hzz,hpl]
   exact h1,us'.toList,by simp,by simpa using h2.1,fun j c u hc hu=>h2.2 j c u hc (by simpa using hu)⟩
def addRow (M:Mem) (g:Nat) (us:LO):Mem:=fun b o=>if b=g then cellsAt us o else M b o
theorem Xb {M:Mem} {w:World} (h:Cons M w) {g:Nat} (hg:w.heap.size<=g) (o:Nat):M g o=none:=by
 cases hm:M g o with
 | none=>rfl
 | some u =>
  have:=NJ (h g o u hm);omega
theorem VB {M:Mem} {w:World} (h:Cons M w) (us:LO):Sub M (addRow M w.heap.size us):=by
 intro b o u hu;unfold addRow;split
 .rename_i e;subst e;rw[Xb h (D6 _)]at hu;cases hu
 exact hu
theorem Hu {M:Mem} {w:World} (h:Cons M w) (us:LO) (e:TypeId):Cons (addRow M w.heap.size us) (w.alloc (.cells us e)):=by
 intro b o u hu;unfold addRow at hu;split at hu
 .rename_i e';subst e';unfold mc;rw[heap_alloc_new];exact hu
 have hb:=NJ (h b o u hu);rw[Qd (heap_alloc_old w _ hb)];exact h b o u hu
theorem ZA {M:Mem} {w:World} (h:Cons M w) (ob:Obj):Cons M (w.alloc ob):=by
 intro b o u hu;have hb:=NJ (h b o u hu);rw[Qd (heap_alloc_old w _ hb)];exact h b o u hu
theorem qaQ {s:Nat}:∀ (ps:Lg) (i:Nat) (A:LJ),A.length=i * s->inOrder i ps=true->(∀ p∈ps,p.2.cells.length=s/\p.2.cells.all AV.one=true) ->
  fillA (fun i=>some (i * s,s)) (A++G7 (ps.length * s) .top) ps=some (A++ps.flatMap fun p=>p.2.cells.map AV.strip)
 | [],i,A,hA,_,_=>by simp[fillA]
 | (j,v)::ps,i,A,hA,ho,hp=>by
  simp only[inOrder,A4]at ho;obtain⟨e,ho⟩:=ho;have e:=A3 e;subst e;obtain⟨h1,h2⟩:=hp (i,v) (List.mem_cons_self ..);simp only at h1 h2
  have ih:=qaQ ps (i+1) (A++v.cells.map AV.strip) (by simp[hA,h1,C0]) ho fun p hp'=>hp p (H8 _ hp')
  have hlen:(A++G7 (((i,v)::ps).length * s) AV.top).length=i * s+(ps.length * s+s):=by simp[hA,C0]
  simp only[fillA]
  have hc:(Nat.beq v.cells.length s && Nat.ble (i * s+s) (A++G7 (((i,v)::ps).length * s) AV.top).length && v.cells.all AV.one)=true:=by
   simp only[A4];refine⟨⟨by rw[h1];simp,Nat.ble_eq_true_of_le (by rw[hlen];omega)⟩,h2⟩
  rw[hc];simp only[List.flatMap_cons];rw[<- D2,<- ih]
  congr 1
  rw[List.take_append_of_le_length (by omega),List.take_of_length_le (by omega),List.drop_append];rw[List.drop_of_length_le (by omega)];simp only[List.nil_append,List.drop_replicate,D2]
  congr 3
  simp only[List.length_cons,C0,hA];omega
end
end Go.AM
namespace Go.AM
open Go.RowKit
variable {x:AV} {v:Value} {o:Oper} {env':Env}
section
variable {bs:Base} {n:Nat} {M:Mem} {O:Gh} {env:Env} {a:Act} {w:World} {P:Program}
def unAgg (p:Nat×AV):AV:=match p.2 with | .agg cs=>.agg (cs.map AV.strip) | x=>x.strip
theorem NP (p:Nat×AV):(unAgg p).cells=p.2.cells.map AV.strip:=by
 obtain⟨i,x⟩:=p;cases x <;> rfl
theorem QQ (h:x.one=true):x.strip.one=true:=by
 cases x <;> first | rfl | cases h
theorem qaa (P:Program) (e:TypeId) (x:AV):nilE P e x=x\/x=.nils/\∃ e' k',nilE P e x=.lst e' k' none []:=by
 cases x with
 | nils =>
  simp only[nilE];split
  .exact .inr ⟨trivial,_,_,rfl⟩
  exact .inl rfl
 | _=>exact .inl rfl
theorem qeM (P:Program) (e:TypeId):∀ (xs:LJ),(flat (xs.map (nilE P e))).length=(flat xs).length/\∀ (j:Nat) c,(flat (xs.map (nilE P e)))[j]? = some c->∃ c0,(flat xs)[j]? = some c0/\(c=c0\/c0=.nils/\∃ e' k',c=.lst e' k' none [])
 | []=>⟨rfl,fun j c h=>by simp[flat]at h⟩
 | x::xs=>by
  obtain⟨ih1,ih2⟩:=qeM P e xs;have hx:flat ((x::xs).map (nilE P e))=(nilE P e x).cells++flat (xs.map (nilE P e)):=rfl;have hx2:flat (x::xs)=x.cells++flat xs:=rfl;rw[hx,hx2]
  have hlen:(nilE P e x).cells.length=x.cells.length:=by
   rcases qaa P e x with h | ⟨rfl,e',k',h⟩ <;> rw[h] <;> rfl
  refine⟨by simp[hlen,ih1],fun j c hj=>?_⟩;by_cases hl:j<x.cells.length
  .rw[C7 (by omega)]at hj;rw[C7 hl]
   rcases qaa P e x with h | ⟨rfl,e',k',h⟩
   .rw[h]at hj;exact⟨c,hj,.inl rfl⟩
   rw[h]at hj
   obtain rfl:j=0:=by simp[AV.cells]at hl;omega
   cases hj;exact⟨.nils,rfl,.inr ⟨rfl,e',k',rfl⟩⟩
  rw[D3 (by omega),hlen]at hj;rw[D3 (by omega)];exact ih2 _ c hj
theorem R.nilsE {M:Mem} {e e' k:Nat} {xs:LJ} (h:R M (.lst e' k none xs) v):R M (.lst e' k none (xs.map (nilE P e))) v:=by
 generalize hx:AV.lst e' k none xs=x at h
 cases h with
 | lstn=>cases hx;exact .lstn _ _ _
 | lste=>cases hx;exact .lste _ _ _ _ _
 | lst us h1 h2 h3 h4 h5 =>
  cases hx;obtain⟨_,hf⟩:=qeM P e xs
  have e1:xs.length=(xs.map (nilE P e)).length:=by rw[F6]
  rw[e1]
  have hm:∀ y,y∈xs.map (nilE P e)->∃ x,x∈xs/\(y=x\/x=.nils/\∃ e' k',y=.lst e' k' none []):=by
   intro y hy;obtain⟨x,hx,rfl⟩:=List.mem_map.1 hy;exact⟨x,hx,qaa P e x⟩
  refine .lst us (by rw[<- e1];exact h1) (fun y hy=>?_) (fun y hy=>?_) (fun j c hc=>?_) (fun j c hc=>?_)
  .obtain⟨x,hx,rfl | ⟨rfl,e',k',rfl⟩⟩:=hm y hy
   .exact h2 _ hx
   have:=h2 AV.nils hx;exact this
  .obtain⟨x,hx,rfl | ⟨rfl,e',k',rfl⟩⟩:=hm y hy
   .exact h3 _ hx
   rfl
  .obtain⟨c0,q1,q2⟩:=hf j c hc;exact h4 j c0 q1
  obtain⟨c0,q1,rfl | ⟨rfl,e',k',rfl⟩⟩:=hf j c hc
  .exact h5 j _ q1
  have:=h5 j _ q1;generalize us j=u at this;cases this;exact .lstn _ _ _
 | _=>cases hx
theorem Yj (h:Inv bs n M O env a w) {t len:Nat} {ps:Array (Nat×Operand)} (ho:o.op=.buildSlice t len ps) {l:Lg} (hl:parts? env ps=some l) {r:AV} (hr:HJ P t len l=some r) :
  ∃ (e k:Nat) (xs:LJ) (us:LO),r=.lst e k none xs/\(execOp a.eval o).run P w=.ok (.value (.slice (some ⟨w.heap.size,0,none⟩) xs.length xs.length)) (w.alloc (.cells us e))/\us.size=xs.length * k /\
   R (addRow M w.heap.size us) (.lst e k none xs) (.slice (some ⟨w.heap.size,0,none⟩) xs.length xs.length)/\xs.length<=16777216:=by
 obtain⟨l1,l2⟩:=Hd h hl
 have he:execOp a.eval o=vS (Instr.buildSlice t len (ps.map fun (i,x)=>(i,a.eval x))):=by unfold execOp;rw[ho];rfl
 unfold HJ at hr;split at hr
 case h_2=>cases hr
 rename_i e s hse;obtain⟨hu,hs⟩:=Jp hse;split at hr
 case h_2=>cases hr
 rename_i hc;cases hr;simp only[A4]at hc;obtain⟨⟨⟨⟨⟨c1,c2⟩,c3⟩,c4⟩,c5⟩,c6⟩:=hc;have c2:=A3 c2;have c3:=A9 c3;have c5:0<s:=A9 c5;simp only[D5,A4]at c6
 obtain⟨ie,hie,hsz⟩:∃ ie,P.info? e=some ie/\ie.size=s:=by
  unfold tSize at hs
  cases hi:P.info? e with
  | none=>rw[hi]at hs;cases hs
  | some ie=>rw[hi]at hs;exact⟨ie,rfl,Option.some.inj hs⟩
 subst hsz
 obtain⟨z,hz⟩:∃ z,ie.zero=some z:=by
  rw[hie]at c1;simp only[Option.bind_some]at c1
  cases hz:ie.zero with
  | none=>rw[hz]at c1;cases c1
  | some z=>exact⟨z,rfl⟩
 by_cases c7:len=0
 .subst c7;have hl0:l=[]:=G6 c2;subst hl0;have hps:ps=#[]:=G0 (by simpa using l1.symm);subst hps;refine⟨e,ie.size,[],#[],rfl,?_,by simp,R.lste _ _ _ _ _,by simp⟩;rw[he];refine NI ?_;simp[Instr.buildSlice,run_underlying hu,sizeOf,typeInfo,hie,Instr.fill,newRow,Array.range_zero']
 have c7:0<len:=Nat.pos_of_ne_zero c7;have hfill:=qaQ (s:=ie.size) l 0 [] (by simp) c4 (fun p hp=>⟨A3 (c6 p hp).1,(by simpa using (c6 p hp).2)⟩);simp only[List.nil_append]at hfill;obtain⟨us,h1,h2⟩:=qag (M:=M) (place:=fun i=>some (i * ie.size,ie.size)) (place':=fun i=>some (i * ie.size,ie.size)) (fun i q hq=>hq) l _ _
  ((Array.range (len * ie.size)).map (z.cells[· % z.cells.size]!)) _ l1
  (fun j p q hp hq=>by
   obtain⟨e1,e2⟩:=l2 j p q hp hq
   exact⟨e1,VJ e2 (by simpa using (c6 p (A5 hp)).2)⟩)
  ⟨by simp[c2],fun j c u hc hu=>by
   rw[List.getElem?_replicate]at hc;split at hc
   .cases hc;exact .top u
   cases hc⟩ hfill
 have hlen:(l.map unAgg).length=len:=by simp[c2]
 have hflat:flat (l.map unAgg)=l.flatMap fun p=>p.2.cells.map AV.strip:=by
  unfold flat;rw[G4];simp only[NP]
 have hty:∀ x,x∈l.map unAgg->x.cells.length=ie.size:=by
  intro x hx;obtain⟨p,hp,rfl⟩:=List.mem_map.1 hx;rw[NP]
  simpa using A3 (c6 p hp).1
 have hsize:us.size=(l.map unAgg).length * ie.size:=by
  rw[<- h2.1,<- hflat,jh hty]
 have hll:((l.map unAgg).map (nilE P e)).length=(l.map unAgg).length:=by rw[F6]
 suffices hmain:(execOp a.eval o).run P w=.ok (.value (.slice (some ⟨w.heap.size,0,none⟩) (l.map unAgg).length (l.map unAgg).length)) (w.alloc (.cells us e)) /\
   R (addRow M w.heap.size us) (.lst e ie.size none (l.map unAgg)) (.slice (some ⟨w.heap.size,0,none⟩) (l.map unAgg).length (l.map unAgg).length)/\(l.map unAgg).length<=16777216 by
  refine⟨e,ie.size,(l.map unAgg).map (nilE P e),us,rfl,?_,by rw[hll];exact hsize,?_,by rw[hll];exact hmain.2.2⟩
  .rw[hll];exact hmain.1
  rw[hll];exact hmain.2.1.nilsE
 refine⟨?_,?_,?_⟩
 .rw[he,hlen];refine NI ?_
  exact run_buildSlice w t e len _ us ie z hu hie hz oM (by
   have:=Nat.mul_pos c7 c5
   omega) h1
 .refine R.lst (fun j=>us.getD j undef) (D6 _) hty (fun x hx=>?_) (fun j c hj=>?_) (fun j c hj=>?_)
  .obtain⟨p,hp,rfl⟩:=List.mem_map.1 hx;rw[NP];have:=(c6 p hp).2;simp only[List.all_map,D5]at this ⊢;intro y hy;exact QQ (this y hy)
  .rw[hflat]at hj;have hjl:=(List.getElem?_eq_some_iff.1 hj).1;rw[h2.1]at hjl;unfold addRow;rw[if_pos rfl]
   have hone:c.one=true:=by
    have hmem:=A5 hj;obtain⟨y,hy,hyc⟩:=List.mem_flatMap.1 hmem;obtain⟨z,hz,rfl⟩:=List.mem_map.1 hyc;exact QQ ((by simpa using (c6 y hy).2:∀ x,x∈y.2.cells->x.one=true) z hz)
   have e1:us[0+j]? = some (us.getD j undef):=by simp[hjl]
   exact Jy e1 (Ye ((h2.2 j c _ hj (by simp[hjl])).one hone))
  rw[hflat]at hj;have hjl:=(List.getElem?_eq_some_iff.1 hj).1;rw[h2.1]at hjl;refine (h2.2 j c _ hj ?_).mono (VB h.cons us);simp[hjl]
 have:len<=len * ie.size:=Nat.le_mul_of_pos_right _ c5;rw[hlen];omega
def Made (P:Program) (O:Gh) (M:Mem) (a:Act) (w:World) (o:Oper) (x:AV):Prop :=
 ∃ v w' M',(execOp a.eval o).run P w=.ok (.value v) w'/\w.grownBy w' none/\Sub M M'/\Cons M' w'/\(∀ b o,b<w.heap.size->M' b o=M b o)/\ValOk O M' w' x v
theorem qfC (w:World) (row:LR):w.grownBy w row:=⟨rfl,rfl,rfl,D6 _,fun _ _ _=>rfl⟩
theorem Simple.made (h:Inv bs n M O env a w) (hs:Simple P O M a w o x):Made P O M a w o x:=by
 obtain⟨v,h1,h2⟩:=hs;exact⟨v,w,M,h1,qfC w none,Sub.refl M,h.cons,fun _ _ _=>rfl,h2⟩
theorem NF {M:Mem} {w:World} (us:LO):∀ b o,b<w.heap.size->addRow M w.heap.size us b o=M b o:=by
 intro b o hb;unfold addRow;rw[if_neg (by omega)]
theorem qdi (s:ByteArray):flat (bytesA s)=bytesA s:=by
 unfold flat bytesA;rw[G4];simp only[AV.cells];exact List.map_eq_flatMap.symm
theorem qhf (h:Inv bs n M O env a w) {y:Operand} {s d:TypeId} (ho:o.op=.convert s d y) {q:ByteArray} (hp:aop env y=some (.str q)) (hx:VY P s d (.str q)=some x):Made P O M a w o x:=by
 have hv:=(qv h hp).1.str_inv;simp only[VY]at hx;split at hx
 case h_2=>cases hx
 rename_i e hs hd;split at hx
 case h_2=>cases hx
 rename_i hb;cases hx
 have he:execOp a.eval o=vS (convert s d (a.eval y)):=by unfold execOp;rw[ho];rfl
 have hrun:=Lib.run_convert_string_bytes (P:=P) w s d e q hs hd (Hn hb)
 have hget:∀ j:Nat,(q.data.map fun (b:UInt8)=>Value.int .u8 (b.toNat:Int))[j]? = (q.data.toList[j]?).map fun (b:UInt8)=>Value.int .u8 (b.toNat:Int):=by
  intro j;simp
 refine⟨.slice (some ⟨w.heap.size,0,none⟩) q.size (grownCap w q.size 0 e),Lib.bytesWorld w e q,addRow M w.heap.size (q.data.map fun (b:UInt8)=>Value.int .u8 (b.toNat:Int)),?_,?_,VB h.cons _,?_,NF _,?_,trivial⟩
 .rw[he,hv];exact NI hrun
 .exact⟨rfl,rfl,rfl,by rw[Lib.bytesWorld_size];omega,fun k hk _=>Lib.bytesWorld_at_old w e q k hk⟩
 .intro b o u hu;unfold addRow at hu;split at hu
  .rename_i eb;subst eb;obtain⟨hu,htp⟩:=ZU hu;rw[hget]at hu
   have hlt:o<q.size:=by
    rcases Nat.lt_or_ge o q.size with k | k
    .exact k
    rw[List.getElem?_eq_none (by rw[G8];exact k)]at hu;cases hu
   refine qac ?_ htp;rw[Lib.bytesWorld_cell w e q o hlt]
   have hlt':o<q.data.toList.length:=by rw[G8];exact hlt
   rw[A6 hlt']at hu;cases hu;simp[List.getD,A6 hlt']
  have:=h.cons b o u hu;rw[Qd (Lib.bytesWorld_at_old w e q b (NJ this))];exact this
 have hlen:(bytesA q).length=q.size:=by unfold bytesA;rw[F6,G8];rfl
 rw[<- hlen];refine R.lst (fun j=>(q.data.map fun (b:UInt8)=>Value.int .u8 (b.toNat:Int)).getD j undef) ?_ (fun z hz=>?_) (fun z hz=>?_) (fun j c hc=>?_) (fun j c hc=>?_)
 .rw[hlen];exact grownCap_ge w _ _ _
 .unfold bytesA at hz;obtain⟨b,_,rfl⟩:=List.mem_map.1 hz;rfl
 .unfold bytesA at hz;obtain⟨b,_,rfl⟩:=List.mem_map.1 hz;rfl
 .rw[qdi]at hc;have hj:=(List.getElem?_eq_some_iff.1 hc).1;rw[hlen]at hj;unfold addRow;rw[if_pos rfl,Nat.zero_add]
  have hjl:j<(q.data.map fun (b:UInt8)=>Value.int .u8 (b.toNat:Int)).size:=by rw[Array.size_map];exact hj
  refine Jy (by rw[G9,D1 hjl];rfl) ?_;rw[G9,D1 hjl,Array.getElem_map];rfl
 rw[qdi]at hc;unfold bytesA at hc;rw[A8]at hc
 cases hb:q.data.toList[j]? with
 | none=>rw[hb]at hc;cases hc
 | some b =>
  rw[hb]at hc;cases hc
  have:(q.data.map fun (b:UInt8)=>Value.int .u8 (b.toNat:Int)).getD j undef=.int .u8 b.toNat:=by
   rw[G9,hget,hb];rfl
  rw[this];exact .int _ _
theorem DY (h:Inv bs n M O env a w) (hx:apure P o env=some x):Made P O M a w o x:=by
 obtain⟨dst,op,ty,pos,after,guard⟩:=o
 cases op with
 | move y=>exact (qbH h (.inl rfl) hx).made h
 | assign y=>exact (qbH h (.inr rfl) hx).made h
 | pick c p q =>
  simp only[apure]at hx;split at hx
  .rename_i hb;exact (qbG h rfl hb (by simpa using hx)).made h
  .rename_i hb;exact (qbG h rfl hb (by simpa using hx)).made h
  cases hx
 | binOp op t y z t' =>
  simp only[apure]at hx;split at hx
  .rename_i p q hp hq;exact (qhD h rfl hp hq hx).made h
  cases hx
 | unOp op t y =>
  simp only[apure]at hx;split at hx
  .rename_i p hp;exact (qjv h rfl hp hx).made h
  cases hx
 | convert s t y =>
  simp only[apure]at hx;split at hx
  .rename_i p hp;by_cases hq:∃ q,p=.str q
   .obtain⟨q,rfl⟩:=hq;exact qhf (o:=⟨dst,.convert s t y,ty,pos,after,guard⟩) h rfl hp hx
   exact (qcC h rfl (fun q e=>hq ⟨q,e⟩) hp hx).made h
  cases hx
 | build t ps =>
  simp only[apure]at hx;split at hx
  .rename_i l hl;split at hx
   .rename_i v hv;cases hx;exact (qfl h rfl hl hv).made h
   rw[H5]at hx;obtain⟨v,hv,rfl⟩:=hx;obtain⟨u,h1,h2⟩:=DA h (o:=⟨dst,.build t ps,ty,pos,after,guard⟩) rfl hl hv;exact (show Simple P O M a w ⟨dst,.build t ps,ty,pos,after,guard⟩ v.strip from⟨u,h1,qbD h2⟩).made h
  cases hx
 | buildSlice t m ps =>
  simp only[apure]at hx;split at hx
  .rename_i l hl;obtain⟨e,k,xs,us,e1,h1,h2,h3,_⟩:=Yj (o:=⟨dst,.buildSlice t m ps,ty,pos,after,guard⟩) h rfl hl hx;subst e1;exact⟨_,_,_,h1,World.grownBy_alloc w _ none,VB h.cons us,Hu h.cons us e,NF us,h3,trivial⟩
  cases hx
 | load t y =>
  simp only[apure]at hx;split at hx
  .rename_i p hp;exact (qfX h rfl hp hx).made h
  cases hx
 | fieldAddr t y f =>
  simp only[apure]at hx;split at hx
  .rename_i p hp;exact (qbi h rfl hp hx).made h
  cases hx
 | field t y f =>
  simp only[apure]at hx;split at hx
  .rename_i cs o' ft sz hp hf;exact (qfj h rfl hp hf hx).made h
  .rename_i cs o' ft sz hp hf;exact (qdG h rfl hp hf hx).made h
  cases hx
 | indexAddr t y i =>
  simp only[apure]at hx;split at hx
  .rename_i p q hp hq;exact (qbh h rfl hp hq hx).made h
  cases hx
 | index t y i =>
  simp only[apure]at hx;split at hx
  .rename_i p q hp hq;exact (qfi h rfl hp hq hx).made h
  cases hx
 | slice t y lo hi mx =>
  cases mx with
  | some mx =>
   cases hi with
   | none=>simp[apure]at hx
   | some hi =>
    simp only[apure]at hx;split at hx
    case h_2=>cases hx
    rename_i e k lab xs k2 m hp hm;split at hx
    case h_2=>cases hx
    rename_i e' k' hse;split at hx
    case h_2=>cases hx
    rename_i l k1 c hk hl hh;have hk:=A3 hk;subst hk;split at hx
    case isFalse=>cases hx
    rename_i hb;cases hx;exact (qdE h rfl hp hse hl hh hm hb).made h
  | none =>
   simp only[apure]at hx;split at hx
   .rename_i p hp;exact (qfh h rfl hp hx).made h
   cases hx
 | makeFunc fn first caps =>
  cases fn <;> simp only[apure]at hx <;> try (cases hx;done)
  split at hx
  .rename_i l hf hl;split at hx
   .rename_i hp;cases hx;exact (qcd h rfl (A3 hf) hl hp).made h
   split at hx
   .rename_i hp;cases hx;exact (qbg h rfl (A3 hf) hl hp).made h
   cases hx
  cases hx
 | lookup t y k c =>
  cases c with
  | true=>simp[apure]at hx
  | false =>
   simp only[apure]at hx;split at hx
   .rename_i m kk hm hk
    cases hr:alookup P t env m kk with
    | none=>rw[hr]at hx;cases hx
    | some r =>
     rw[hr]at hx;cases hx;exact (qdF h rfl hm hk hr).made h
   cases hx
 | entry y =>
  simp only[apure]at hx;split at hx
  case h_2=>cases hx
  rename_i id hp;split at hx
  case h_2=>cases hx
  rename_i k ks v vs hl;cases hx;exact (qfk h rfl hp hl).made h
 | extract y i =>
  simp only[apure]at hx;split at hx
  .rename_i vs hp;exact (qcB h rfl hp hx).made h
  .rename_i id e k off m rest hp;exact (qce h rfl hp hx).made h
  cases hx
 | nilCheck y =>
  simp only[apure]at hx;split at hx
  .rename_i z hp;cases hx;exact (NK h rfl hp (.inl ⟨z,rfl⟩)).made h
  .rename_i b z hp
   cases b with
   | false=>cases hx;exact (qbf h rfl hp).made h
   | true=>cases hx
  .rename_i s m hp;cases hx;exact (NK h rfl hp (.inr ⟨s,m,rfl⟩)).made h
  cases hx
 | call c =>
  obtain⟨callee,args,ats⟩:=c
  cases callee with
  | value f=>simp[apure]at hx
  | invoke r m=>simp[apure]at hx
  | builtin b =>
   cases b <;> simp only[apure]at hx <;> try (cases hx;done)
   case len =>
    split at hx
    .rename_i y t ha ht;split at hx
     .rename_i p hp;exact (qhC h rfl ha ht hp hx).made h
     cases hx
    cases hx
   case max =>
    split at hx
    .rename_i y z ha;split at hx
     .rename_i k p k' q hp hq;cases hx;exact (qhB h rfl ha hp hq).made h
     cases hx
    cases hx
   case min =>
    split at hx
    .rename_i y z ha;split at hx
     .rename_i k p k' q hp hq;cases hx;exact (qhA h rfl ha hp hq).made h
     cases hx
    cases hx
 | _=>simp[apure]at hx
theorem XR (h:Inv bs n M O env a w) {d:LR} (hv:ValOk O M w x v) (he:eput n d x env=some env'):Inv bs n M O env' (a.put d v) w:=by
 unfold eput at he;split at he
 .cases he;exact h
 rename_i t;split at he
 .rename_i hc;cases he;simp only[A4]at hc;exact h.put (A9 hc.1) hv
 cases he
def Leads (P:Program) (bs:Base) (n:Nat) (o:Oper) (a:Act) (w:World) (env':Env):Prop :=
 ∃ v w' M' O',((execOp a.eval o).run P w=.ok (.value v) w'\/((execOp a.eval o).run P w=.ok .skip w'/\v=undef))/\Inv bs n M' O' env' (a.put o.dst v) w'
theorem Np (h:Inv bs n M O env a w) (hx:apure P o env=some x) (he:eput n o.dst x env=some env'):Leads P bs n o a w env':=by
 obtain⟨v,w',M',h1,h2,h3,h4,h5,h6⟩:=DY h hx;have h':=h.grown (row:=none) (fun g e=>by cases e) h2 h3 h4 (fun b o hb _=>h5 b o hb);exact⟨v,w',M',O,.inl h1,XR h' h6 he⟩
end
end Go.AM
