/- s -/
import Derived.Test.YtdghpfejmlpjhaaRCons
import Derived.Test.YtdghpfejmlpjhaaANil
import Derived.Test.YtdghpfejmlpjhaaASimJ
set_option maxRecDepth 100000
set_option linter.unusedVariables false
set_option linter.unusedSimpArgs false
namespace Go.AM
open Go.Proofs
theorem Vl {x y:rufact}:qp x y=true↔x=y:=by
 obtain⟨a,b,c⟩:=x;obtain⟨d,e,f⟩:=y
 simp[qp]
theorem Nv {x y:rufact}:qp x y=false↔x≠y:=by
 rw[← Bool.not_eq_true,Vl]
def byRelL (out:List (rufact×Bool)):List (Int×List rufact):=out.foldl (fun bl p=>mset keq1 p.1.ql (mget keq1 [] p.1.ql bl++[p.1]) bl) []
def headOk (head:qj) (d:List (List Int)):Bool:=d.all fun v=>match qQ v head with
 | some f=>wfF f
 | none=>false
def freshL (no out:List (rufact×Bool)):List ruRule→List rufact→Option (List rufact)
 | [],acc=>some acc
 | r::rs,acc=>chk (decide (r.qd.length≤1000)) ((tryP r.qd no (byRelL out) r.qd (List.replicate 8 0)).bind fun d=>chk (decide (acc.length+d.length≤900000000) && headOk r.qc d) (freshL no out rs (acc++headsP out r.qc d)))
def addF (out:List (rufact×Bool)) (fr:List rufact):List (rufact×Bool):=fr.foldl (fun o f=>mset qp f true o) out
def consR (l:List ruRule) (no:List (rufact×Bool)):Nat→List (rufact×Bool)→Option (List (rufact×Bool))
 | 0,_=>none
 | n+1,out=>chk (decide (out.length≤100000)) ((freshL no out l []).bind fun fr=>bif fr.isEmpty then some out else consR l no n (addF out fr))
def consP (fuel:Nat) (l:List ruRule) (gv no:List (rufact×Bool)):Option (List (rufact×Bool)) :=
 chk (gv.all (fun p=>wfF p.1) && decide (l.length≤100000∧gv.length≤100000)) (consR l no fuel (addF [] (gv.map Prod.fst)))
structure NT (out:List (rufact×Bool)):Prop where
 t:∀ p,p∈out→p.2=true
 n:(out.map Prod.fst).Nodup
theorem NT.mget {out:List (rufact×Bool)} (h:∀ p,p∈out→p.2=true) (f:rufact):mget qp false f out=true↔f∈out.map Prod.fst:=by
 induction out with
 | nil=>simp[Go.AM.mget]
 | cons p r ih =>
  have ih:=ih fun q hq=>h q (List.mem_cons_of_mem _ hq)
  simp only[Go.AM.mget]
  cases hq:qp p.1 f with
  | true =>
   have:=Vl.1 hq
   simp[this,h p (List.mem_cons_self ..)]
  | false =>
   have:=Nv.1 hq;simp only[cond_false,ih,List.map_cons,List.mem_cons]
   constructor
   ·exact .inr
   ·rintro (h1 | h1)
    ·exact absurd h1.symm this
    ·exact h1
theorem NT.mset {out:List (rufact×Bool)} (h:NT out) (f:rufact):NT (mset qp f true out)∧(∀ g,g∈(mset qp f true out).map Prod.fst↔g=f∨g∈out.map Prod.fst)∧out.length≤(mset qp f true out).length∧(f ∉ out.map Prod.fst→(mset qp f true out).length=out.length+1):=by
 induction out with
 | nil=>exact⟨⟨by simp[Go.AM.mset],by simp[Go.AM.mset]⟩,by simp[Go.AM.mset],by simp,by simp[Go.AM.mset]⟩
 | cons p r ih =>
  obtain⟨h1,h2⟩:=h;rw[List.map_cons,List.nodup_cons]at h2;obtain⟨ih1,ih2,ih3,ih4⟩:=ih ⟨fun q hq=>h1 q (List.mem_cons_of_mem _ hq),h2.2⟩;simp only[Go.AM.mset]
  cases hq:qp p.1 f with
  | true =>
   have:=Vl.1 hq;subst this;simp only[cond_true];refine⟨⟨fun q hq=>?_,by simpa using h2⟩,fun g=>by simp,by simp,fun hn=>absurd (by simp) hn⟩
   rcases List.mem_cons.1 hq with rfl | hq
   ·rfl
   ·exact h1 q (List.mem_cons_of_mem _ hq)
  | false =>
   have hne:=Nv.1 hq;simp only[cond_false];refine⟨⟨fun q hq=>?_,?_⟩,fun g=>?_,by simpa using ih3,fun hn=>?_⟩
   ·rcases List.mem_cons.1 hq with rfl | hq
    ·exact h1 _ (List.mem_cons_self ..)
    ·exact ih1.t q hq
   ·rw[List.map_cons,List.nodup_cons];refine⟨fun hm=>?_,ih1.n⟩
    rcases (ih2 _).1 hm with h | h
    ·exact hne h
    ·exact h2.1 h
   ·rw[List.map_cons,List.mem_cons,ih2,List.map_cons,List.mem_cons]
    constructor
    ·rintro (h | h | h)
     ·exact .inr (.inl h)
     ·exact .inl h
     ·exact .inr (.inr h)
    ·rintro (h | h | h)
     ·exact .inr (.inl h)
     ·exact .inl h
     ·exact .inr (.inr h)
   ·rw[List.length_cons,ih4 (fun h=>hn (by rw[List.map_cons];exact List.mem_cons_of_mem _ h)),List.length_cons]
theorem NT.add {fr:List rufact}:∀ {out:List (rufact×Bool)},NT out→NT (addF out fr)∧(∀ g,g∈(addF out fr).map Prod.fst↔g∈fr∨g∈out.map Prod.fst)∧out.length≤(addF out fr).length∧(∀ f,f∈fr→f ∉ out.map Prod.fst→out.length<(addF out fr).length):=by
 induction fr with
 | nil=>intro out h;exact⟨h,fun g=>by simp[addF],Nat.le_refl _,fun f hf=>by simp at hf⟩
 | cons f fr ih =>
  intro out h;obtain⟨m1,m2,m3,m4⟩:=h.mset f;obtain⟨a1,a2,a3,a4⟩:=ih m1;have e:addF out (f::fr)=addF (Go.AM.mset qp f true out) fr:=rfl;rw[e];refine⟨a1,fun g=>?_,Nat.le_trans m3 a3,fun g hg hn=>?_⟩
  ·rw[a2,m2,List.mem_cons]
   constructor
   ·rintro (h | h | h)
    ·exact .inl (.inr h)
    ·exact .inl (.inl h)
    ·exact .inr h
   ·rintro ((h | h) | h)
    ·exact .inr (.inl h)
    ·exact .inl h
    ·exact .inr (.inr h)
  ·rcases List.mem_cons.1 hg with rfl | hg
   ·have:=m4 hn;omega
   ·by_cases hgf:g=f
    ·subst hgf;have:=m4 hn;omega
    ·have:=a4 g hg (fun h=>by
      rcases (m2 g).1 h with h | h
      ·exact hgf h
      ·exact hn h)
     omega
theorem NT.nodup {out:List (rufact×Bool)} (h:NT out):out.Nodup:=List.Pairwise.of_map Prod.fst (fun a b h e=>h (by rw[e])) h.n
theorem NT.mem {out:List (rufact×Bool)} (h:NT out) (p:rufact×Bool):p∈out↔p.2=true∧p.1∈out.map Prod.fst:=by
 constructor
 ·intro hp;exact⟨h.t p hp,List.mem_map.2 ⟨p,hp,rfl⟩⟩
 ·rintro⟨h1,h2⟩
  obtain⟨q,hq,he⟩:=List.mem_map.1 h2;have:=h.t q hq;have:q=p:=Prod.ext he (by rw[h1,this]);rw[← this];exact hq
theorem NT.perm {a b:List (rufact×Bool)} (ha:NT a) (hb:NT b) (h:∀ g,g∈a.map Prod.fst↔g∈b.map Prod.fst):a.Perm b:=by
 classical
 refine (List.perm_ext_iff_of_nodup ha.nodup hb.nodup).2 fun p=>?_
 rw[ha.mem,hb.mem,h]
theorem NT.of_perm {a b:List (rufact×Bool)} (ha:NT a) (h:a.Perm b):NT b:=⟨fun p hp=>ha.t p (h.mem_iff.2 hp),(h.map Prod.fst).nodup_iff.1 ha.n⟩
theorem NT.empty:NT []:=⟨fun p hp=>by simp at hp,by simp⟩
theorem qce {out out':List (rufact×Bool)} (ha:NT out) (hp:out.Perm out') (head:qj) (d:List (List Int)):headsP out head d=headsP out' head d:=by
 have hb:=ha.of_perm hp;unfold headsP
 congr 1
 funext v
 congr 1
 funext f
 have:mget qp false f out=mget qp false f out':=by
  rw[Bool.eq_iff_iff,NT.mget ha.t,NT.mget hb.t,(hp.map Prod.fst).mem_iff]
 rw[this]
theorem qbf {out:List (rufact×Bool)} {head:qj} {d d':List (List Int)} (hp:d.Perm d'):(headsP out head d).Perm (headsP out head d'):=hp.filterMap _
theorem Dl (rel:Int):∀ (out:List (rufact×Bool)) (bl:List (Int×List rufact)),mget keq1 [] rel (out.foldl (fun bl p=>mset keq1 p.1.ql (mget keq1 [] p.1.ql bl++[p.1]) bl) bl)=mget keq1 [] rel bl++(out.map Prod.fst).filter fun f=>f.ql == rel
 | [],bl=>by simp
 | p::out,bl=>by
  rw[List.foldl_cons,Dl rel out,Nr,List.map_cons,List.filter_cons]
  by_cases h:rel=p.1.ql
  ·subst h
   simp
  ·have:(p.1.ql == rel)=false:=by simp;omega
   simp[h,this]
theorem NE (rel:Int) (out:List (rufact×Bool)):mget keq1 [] rel (byRelL out)=(out.map Prod.fst).filter fun f=>f.ql == rel:=by
 unfold byRelL;rw[Dl]
 simp[mget]
theorem qeW {k k':List Int→Option (List (List Int))} {a:qj} {v:List Int} (hk:∀ v o,k v=some o→∃ o',k' v=some o'∧o.Perm o'):∀ (gs:List rufact) (o:List (List Int)),fitL k a v gs=some o→∃ o',fitL k' a v gs=some o'∧o.Perm o':=by
 intro gs
 induction gs with
 | nil=>intro o h;cases h;exact⟨[],rfl,List.Perm.refl _⟩
 | cons g gs ih =>
  intro o h;unfold fitL at h;obtain⟨p,hp,h⟩:=qf h;obtain⟨l,hl,h⟩:=qf h;obtain⟨m,hm,h⟩:=qf h;cases h;obtain⟨m',hm',pm⟩:=ih m hm
  obtain⟨l',hl',pl⟩:∃ l',(bif p.2 then k' p.1 else some [])=some l'∧l.Perm l':=by
   cases hb:p.2 with
   | true =>
    rw[hb]at hl;exact hk _ _ hl
   | false =>
    rw[hb]at hl;cases hl;exact⟨[],rfl,List.Perm.refl _⟩
  refine⟨l'++m',?_,pl.append pm⟩;unfold fitL;rw[hp];show (bif p.2 then k' p.1 else some []).bind _=_;rw[hl'];show (fitL k' a v gs).bind _=_;rw[hm'];rfl
theorem qeV {k:List Int→Option (List (List Int))} {a:qj} {v:List Int} {gs gs':List rufact} (h:gs.Perm gs'):∀ o,fitL k a v gs=some o→∃ o',fitL k a v gs'=some o'∧o.Perm o':=by
 induction h with
 | nil=>intro o h;exact⟨o,h,List.Perm.refl _⟩
 | cons g hp ih =>
  intro o h;unfold fitL at h;obtain⟨p,hp,h⟩:=qf h;obtain⟨l,hl,h⟩:=qf h;obtain⟨m,hm,h⟩:=qf h;cases h;obtain⟨m',hm',pm⟩:=ih m hm;refine⟨l++m',?_,pm.append_left l⟩;unfold fitL;rw[hp];show (bif p.2 then k p.1 else some []).bind _=_;rw[hl];show (fitL k a v _).bind _=_;rw[hm'];rfl
 | swap g1 g2 gs =>
  intro o h;unfold fitL at h;obtain⟨p,hp,h⟩:=qf h;obtain⟨l,hl,h⟩:=qf h;obtain⟨m,hm,h⟩:=qf h;cases h;unfold fitL at hm;obtain⟨p',hp',hm⟩:=qf hm;obtain⟨l',hl',hm⟩:=qf hm;obtain⟨m',hm',hm⟩:=qf hm;cases hm;refine⟨l'++(l++m'),?_,?_⟩
  ·unfold fitL;rw[hp'];show (bif p'.2 then k p'.1 else some []).bind _=_;rw[hl'];show (fitL k a v (g2::gs)).bind _=_;unfold fitL;rw[hp];show ((bif p.2 then k p.1 else some []).bind _).bind _=_;rw[hl];show ((fitL k a v gs).bind _).bind _=_;rw[hm'];rfl
  ·rw[← List.append_assoc,← List.append_assoc];exact List.perm_append_comm.append_right _
 | trans _ _ ih1 ih2 =>
  intro o h;obtain⟨o1,h1,p1⟩:=ih1 o h;obtain⟨o2,h2,p2⟩:=ih2 o1 h1;exact⟨o2,h2,p1.trans p2⟩
theorem DL {all:List ruLit} {no:List (rufact×Bool)} {bl bl':List (Int×List rufact)} (hp:∀ rel,(mget keq1 [] rel bl).Perm (mget keq1 [] rel bl')):∀ (body:List ruLit) (v:List Int) (o:List (List Int)),tryP all no bl body v=some o→∃ o',tryP all no bl' body v=some o'∧o.Perm o':=by
 intro body
 induction body with
 | nil=>intro v o h;exact⟨o,h,List.Perm.refl _⟩
 | cons x body ih =>
  intro v o h;unfold tryP at h ⊢
  cases hn:x.qn with
  | true =>
   rw[hn]at h;exact ih v o h
  | false =>
   rw[hn]at h;obtain⟨hc,h⟩:=qi (show chk (wfI .i64 x.qe.qb) (fitL (tryP all no bl body) x.qe v (mget keq1 [] x.qe.qb bl))=some o from h);obtain⟨o1,h1,p1⟩:=qeW (k':=tryP all no bl' body) (fun v o h=>ih v o h) _ _ h;obtain⟨o2,h2,p2⟩:=qeV (hp x.qe.qb) _ h1;refine⟨o2,?_,p1.trans p2⟩;show chk (wfI .i64 x.qe.qb) _=_;rw[hc];exact h2
theorem HO {head:qj} {d:List (List Int)} (h:headOk head d=true):∀ v,v∈d→∃ f,qQ v head=some f∧wfF f=true:=by
 intro v hv;have:=List.all_eq_true.1 h v hv
 cases hg:qQ v head with
 | none=>rw[hg]at this;cases this
 | some f=>rw[hg]at this;exact⟨f,rfl,this⟩
theorem qeR {out:List (rufact×Bool)} {head:qj} {d:List (List Int)} (h:headOk head d=true):∀ f,f∈headsP out head d→wfF f=true∧mget qp false f out=false:=by
 intro f hf;unfold headsP at hf;obtain⟨v,hv,he⟩:=List.mem_filterMap.1 hf;obtain⟨g,h1,h2⟩:=HO h v hv;rw[h1]at he;simp only[Option.bind_some]at he
 split at he
 ·cases he
 ·rename_i hq;cases he;exact⟨h2,by simpa using hq⟩
end Go.AM
namespace Go.AM
open Go.RowKit Go.Proofs
open Go.ChangeMaps (setBlock)
variable {K V:Type} {F:K→AV} {G:V→AV} {eq:K→K→Bool}
def MapAt (M:Mem) (w:World) (g:Nat) (F:K→AV) (G:V→AV) (l:List (K×V)):Prop :=
 ∃ es clock,w.heap[g]? = some (.map es clock)∧EntOk M es clock (l.map fun p=>F p.1) (l.map fun p=>G p.2)
theorem MapAt.mono {M M':Mem} {w:World} {g:Nat} {l:List (K×V)} (h:MapAt M w g F G l) (hs:Sub M M'):MapAt M' w g F G l:=by
 obtain⟨es,clock,h1,h2⟩:=h;exact⟨es,clock,h1,h2.mono hs⟩
theorem MapAt.of {M:Mem} {w w':World} {g:Nat} {l:List (K×V)} (h:MapAt M w g F G l) (hb:w'.heap[g]? = w.heap[g]?):MapAt M w' g F G l:=by
 obtain⟨es,clock,h1,h2⟩:=h;exact⟨es,clock,hb.trans h1,h2⟩
theorem MapAt.lt {M:Mem} {w:World} {g:Nat} {l:List (K×V)} (h:MapAt M w g F G l):g<w.heap.size:=by
 obtain⟨es,clock,h1,_⟩:=h;exact (Array.getElem?_eq_some_iff.1 h1).1
theorem MapAt.empty {M:Mem} {w:World} {g:Nat} (h:w.heap[g]? = some (.map #[] 0)):MapAt M w g F G []:=⟨#[],0,h,(MapKept.stamped_iff _ _).2 ⟨by simp,by simp,by simp⟩,Nat.zero_le _,rfl,rfl,fun j k e hk=>by simp at hk,fun j k e hk=>by simp at hk⟩
theorem Try.update_own {M:Mem} {es:Array MapEntry} {clock:Nat} {t kt e:TypeId} {l:List (K×V)} (E:EntOk M es clock (l.map fun p=>F p.1) (l.map fun p=>G p.2)) (ht:Qq Try.prog t=some (kt,e)) (hf:∀ x,keyFits Try.prog kt (F x)=true) (he:∀ x y,akeq (F x) (F y)=eq x y) {k:K} {v:V} {kv vv:Value} (hkv:(F k).keyV=some kv) (hvv:R M (G v) vv) (hl:l.length<1000000000) :
  ∃ es' clock',EntOk M es' clock' ((mset eq k v l).map fun p=>F p.1) ((mset eq k v l).map fun p=>G p.2)∧∀ (w:World) (g:Nat),w.heap[g]? = some (.map es clock)→(Instr.mapUpdate t (.map (some g)) kv vv).run Try.prog w=.ok () (setBlock w g (.map es' clock')):=by
 have ht':=QB ht
 have fnd:=fun w=>YB (P:=Try.prog) (w:=w) (hf k) hkv (UN hf l) E
 obtain⟨E1,E2,E3,E4,E5,E6⟩:=E;have w0:World:=(default:World);obtain⟨_,_,hfd⟩:=fnd w0
 rcases hfd with ⟨f1,_,f3⟩ | ⟨j,e0,f1,_,f3,f4⟩
 ·rcases VF (G:=G) he k v l with ⟨i,g1,_⟩ | ⟨g1,g2,g3⟩
  ·rw[f1]at g1;cases g1
  ·rw[g2,g3];refine⟨es.push ⟨kv,vv,clock⟩,clock+1,⟨MapKept.stamped_push E1 f3,by simp[maxLen];simp at E3;omega,by simp at E3 ⊢;exact E3,by simp at E4 ⊢;exact E4,fun j k' e' hk' he'=>?_,fun j v' e' hv' he'=>?_⟩,fun w g hb=>?_⟩
   ·rw[Array.getElem?_push]at he'
    split at he'
    ·rename_i hj;cases he';rw[hj,← E3]at hk';simp only[List.getElem?_concat_length,Option.some.injEq]at hk';subst hk';exact hkv
    ·rename_i hj
     have hjl:j<(l.map fun p=>F p.1).length:=by
      have:=(Array.getElem?_eq_some_iff.1 he').1;omega
     rw[List.getElem?_append_left hjl]at hk';exact E5 j k' e' hk' he'
   ·rw[Array.getElem?_push]at he'
    split at he'
    ·rename_i hj;cases he';rw[hj,← E4]at hv';simp only[List.getElem?_concat_length,Option.some.injEq]at hv';subst hv';exact hvv
    ·rename_i hj
     have hjl:j<(l.map fun p=>G p.2).length:=by
      have:=(Array.getElem?_eq_some_iff.1 he').1;omega
     rw[List.getElem?_append_left hjl]at hv';exact E6 j v' e' hv' he'
   ·obtain⟨hck,hst,hfd⟩:=fnd w
    rcases hfd with ⟨_,f2,_⟩ | ⟨j,e0,q1,_⟩
    ·simp[Instr.mapUpdate,run_underlying ht',MapKept.run_getObj_map hb,hck,f2,MapKept.run_setObj_map _ hb,Result.andThen,setBlock]
    ·rw[f1]at q1;cases q1
 ·rcases VF (G:=G) he k v l with ⟨i,g1,g2,g3⟩ | ⟨g1,_⟩
  ·rw[f1]at g1;cases g1;rw[g2,g3]
   have hj:es[j]? = some e0:=by simpa using f3
   have hjs:j<es.size:=(Array.getElem?_eq_some_iff.1 hj).1
   have hkeyf:∀ e',es[j]? = some e'→({ e' with key:=kv,val:=vv }:MapEntry).key=e'.key:=fun e' he'=>by rw[hj]at he';cases he';exact f4.symm
   refine⟨es.modify j (fun e'=>{ e' with key:=kv,val:=vv }),clock,⟨MapKept.stamped_modify E1 _ _ (fun _ _=>rfl) (fun e' _ he'=>hkeyf e' he'),by simpa using E2,by simpa using E3,by simpa using E4,fun i k' e' hk' he'=>?_,fun i v' e' hv' he'=>?_⟩,fun w g hb=>?_⟩
   ·rw[Array.getElem?_modify]at he'
    split at he'
    ·rename_i hij;subst hij;rw[hj]at he';cases he';show k'.keyV=some kv;rw[← f4];exact E5 j k' e0 hk' hj
    ·exact E5 i k' e' hk' he'
   ·rw[Array.getElem?_modify]at he'
    split at he'
    ·rename_i hij;subst hij;rw[hj]at he';cases he';rw[List.getElem?_set_self (by omega)]at hv';cases hv';exact hvv
    ·rename_i hij;rw[List.getElem?_set_ne hij]at hv';exact E6 i v' e' hv' he'
   ·obtain⟨hck,hst,hfd⟩:=fnd w
    rcases hfd with ⟨q1,_⟩ | ⟨j',e',q1,f2,q3,q4⟩
    ·rw[f1]at q1;cases q1
    ·rw[f1]at q1;cases q1
     simp[Instr.mapUpdate,run_underlying ht',MapKept.run_getObj_map hb,hck,f2,hj,f4,hst,MapKept.run_setObj_map _ hb,Result.andThen,setBlock]
  ·rw[f1]at g1;cases g1
theorem setBlock_at {w:World} {g:Nat} {o o':Obj} (h:w.heap[g]? = some o):(setBlock w g o').heap[g]? = some o':=by
 have:=(Array.getElem?_eq_some_iff.1 h).1;unfold setBlock
 simp[this]
theorem setBlock_other {w:World} {g k:Nat} {o':Obj} (h:k≠g):(setBlock w g o').heap[k]? = w.heap[k]?:=by
 unfold setBlock
 simp[Array.getElem?_setIfInBounds,Ne.symm h]
theorem setBlock_size {w:World} {g:Nat} {o':Obj}:(setBlock w g o').heap.size=w.heap.size:=by
 unfold setBlock
 simp
end Go.AM
namespace Go.Proofs
open Go.RowKit Go.AM
open Go.ChangeMaps (setBlock)
def IterG (M:Mem) (es:Array MapEntry) (w:World) (gi:Nat) (rem:List rufact):Prop :=
 (es=#[]∧rem=[]∧w.heap[gi]? = some (.mapIter none 0 #[] 0))∨∃ bm clock,M bm 0=some (mapCell es clock)∧MapKept.Stamped es clock∧Iter factV w gi bm es clock rem
theorem IterG.of {M:Mem} {es:Array MapEntry} {w w':World} {gi:Nat} {rem:List rufact} (h:IterG M es w gi rem) (hb:w'.heap[gi]? = w.heap[gi]?):IterG M es w' gi rem:=by
 rcases h with ⟨h1,h2,h3⟩ | ⟨bm,clock,h1,h2,h3⟩
 ·exact .inl ⟨h1,h2,hb.trans h3⟩
 ·exact .inr ⟨bm,clock,h1,h2,h3.of hb⟩
theorem IterG.left {M:Mem} {es:Array MapEntry} {w:World} {gi:Nat} {rem:List rufact} (h:IterG M es w gi rem):itLeft es gi w=rem.length:=by
 rcases h with ⟨h1,h2,h3⟩ | ⟨bm,clock,h1,h2,h3⟩
 ·subst h1;subst h2;unfold itLeft;rw[h3];rfl
 ·exact h3.left
theorem IterG.next {M:Mem} {es:Array MapEntry} {w:World} {gi:Nat} {rem:List rufact} (h:IterG M es w gi rem) (hC:Cons M w) (ty:TypeId) :
  (rem=[]∧(Instr.next (.pointer (some ⟨gi,0,none⟩)) false ty).run Try.prog w=.ok (.tuple #[.bool false]) w) ∨
  ∃ (j:Nat) (f:rufact) (v:Value) (w1:World),rem[j]? = some f∧(Instr.next (.pointer (some ⟨gi,0,none⟩)) false ty).run Try.prog w=.ok (.tuple #[.bool true,.agg #[.int .i64 f.ql,.int .i64 f.f_a,.int .i64 f.f_b],v]) w1∧w.grownBy w1 (some gi)∧w1.heap.size=w.heap.size∧IterG M es w1 gi (rem.eraseIdx j) ∧
   ∀ w2,w2.heap[gi]? = w1.heap[gi]?→Cons M w2→(Instr.entry (.pointer (some ⟨gi,0,none⟩))).run Try.prog w2=.ok (.tuple #[.agg #[.int .i64 f.ql,.int .i64 f.f_a,.int .i64 f.f_b],v]) w2:=by
 rcases h with ⟨h1,h2,h3⟩ | ⟨bm,clock,h1,h2,h3⟩
 ·left
  refine⟨h2,?_⟩
  simp[Instr.next,getObj,Sem.run,h3,Result.andThen]
 ·rcases h3.next (YW (hC _ _ _ h1)) h2 ty with ⟨q1,q2⟩ | ⟨j,f,v,w1,q1,q2,q3,q4,q5,q6⟩
  ·exact .inl ⟨q1,q2⟩
  ·exact .inr ⟨j,f,v,w1,q1,q2,q3,q4,.inr ⟨bm,clock,h1,h2,q5⟩,fun w2 e1 e2=>q6 w2 e1 (YW (e2 _ _ _ h1))⟩
theorem qeE {M:Mem} {inl:List (rufact×Bool)} {mv:Value} (h:R M (mpE qh AV.bool inl) mv):∃ (es:Array MapEntry) (fs:List rufact),(inl.map Prod.fst).Perm fs∧∀ w,Cons M w→∃ o,(Instr.range 105 mv).run Try.prog w=.ok (.pointer (some ⟨w.heap.size,0,none⟩)) (w.alloc o)∧IterG M es (w.alloc o) w.heap.size fs:=by
 obtain⟨mo,rfl⟩:=UG h
 cases mo with
 | none =>
  have h0:inl=[]:=by
   have h':R M (.mpv (inl.map fun p=>qh p.1) (inl.map fun p=>AV.bool p.2)) (.map none):=h
   rcases UF h' with ⟨_,h1,_⟩ | ⟨ks',vs',b,es,clock,hp,hv,_⟩
   ·exact List.map_eq_nil_iff.1 h1
   ·cases hv
  subst h0;exact⟨#[],[],List.Perm.refl _,fun w hC=>⟨_,run_range_nilMap w 105 127 4 Try.underlying105,.inl ⟨rfl,rfl,heap_alloc_new _ _⟩⟩⟩
 | some gi =>
  obtain⟨es,clock,fs,q1,q2,q3,q4,q5⟩:=qbB h;refine⟨es,fs,q3,fun w hC=>?_⟩;have hb:=YW (hC _ _ _ q1);exact⟨_,run_range_map w 105 127 4 gi es clock Try.underlying105 hb,.inr ⟨gi,clock,q1,q2,Iter.start (heap_alloc_new _ _) q4 q5⟩⟩
abbrev SetAt (w:World) (g:Nat) (out:List (rufact×Bool)):Prop:=MapAt (fun _ _=>none) w g qh AV.bool out
theorem fits127 (x:rufact):keyFits Try.prog 127 (qh x)=true:=by kernel_rfl
theorem SetAt.put {w:World} {g:Nat} {out:List (rufact×Bool)} (h:SetAt w g out) {f:rufact} (hf:wfF f=true) (hl:out.length<1000000000) :
  ∃ o',(Instr.mapUpdate 105 (.map (some g)) (.agg #[.int .i64 f.ql,.int .i64 f.f_a,.int .i64 f.f_b]) (.bool true)).run Try.prog w=.ok () (setBlock w g o')∧SetAt (setBlock w g o') g (mset qp f true out):=by
 obtain⟨es,clock,hb,hE⟩:=h
 have hk:(qh f).keyV=some (.agg #[.int .i64 f.ql,.int .i64 f.f_a,.int .i64 f.f_b]):=by
  unfold wfF at hf;rw[Bool.and_eq_true,Bool.and_eq_true]at hf;simp only[qh,AV.keyV,keyVs,hf.1.1,hf.1.2,hf.2]
 obtain⟨es',clock',hE',hU⟩:=Try.update_own (t:=105) (kt:=127) (e:=4) (eq:=qp) (G:=AV.bool) hE (by kernel_rfl) fits127 (fun x y=>rfl) (k:=f) (v:=true) hk (.bool true) hl;exact⟨_,hU w g hb,es',clock',Go.AM.setBlock_at hb,hE'⟩
theorem SetAt.freeze {M:Mem} {w:World} {g B:Nat} {out:List (rufact×Bool)} (h:SetAt w g out) (hB:B≤g):R (mtail M B w) (mpE qh AV.bool out) (.map (some g)):=by
 obtain⟨es,clock,hb,hE⟩:=h
 obtain⟨h2,h3,h4,h5,h6,h7⟩:=EntOk.mono hE (M':=mtail M B w) fun b o u hu=>by cases hu
 exact .mpv (by rw[QA hB];exact Zj hb) h2 h3 h4 h5 h6 h7
theorem qeH {a b:List (rufact×Bool)} (h:a.Perm b):PermKV (b.map fun p=>qh p.1) (b.map fun p=>AV.bool p.2) (a.map fun p=>qh p.1) (a.map fun p=>AV.bool p.2):=by
 refine⟨by simp,by simp,?_⟩
 have e:∀ l:List (rufact×Bool),(l.map fun p=>qh p.1).zip (l.map fun p=>AV.bool p.2)=l.map fun p=>(qh p.1,AV.bool p.2):=fun l=>by
  induction l with
  | nil=>rfl
  | cons p l ih=>simp[ih]
 rw[e,e];exact h.symm.map _
theorem qfx {M:Mem} {a b:List (rufact×Bool)} (h:a.Perm b) {mo:Option Nat} (hr:R M (mpE qh AV.bool a) (.map mo)):R M (mpE qh AV.bool b) (.map mo):=.mpp (qeH h) hr
theorem FS.pack {M0 M':Mem} {wR:World} {bfr:Nat} {out:List (rufact×Bool)} {head h2:qj} {L0:List rufact} {d:List (List Int)} {M:Mem} {w:World} (h:FS M0 wR bfr out head L0 d M w) (hs:Sub M' M):FS M' wR bfr out h2 (L0++headsP out head d) [] M w:=by
 obtain⟨y1,y2,y3,y4,y5,y6,y7,y8,vc,y9,y10,y11⟩:=h;refine⟨y1,hs,y3,y4,y5,y6,y7,y8,vc,y9,?_,y11⟩
 have:L0++headsP out head d++headsP out h2 []=L0++headsP out head d:=by simp[headsP]
 rw[this];exact y10
theorem qcX {M:Mem} {l:List ruRule} {v:Value} (h:R M (l54 none l) v):∃ a cap,v=.slice a l.length cap∧∀ i x,l[i]? = some x→∃ b off hv bv,a=some ⟨b,off,none⟩∧M b (off+i * 3)=some (.int .i64 x.qc.qb)∧M b (off+i * 3+1)=some hv∧M b (off+i * 3+2)=some bv∧R M (l3 none x.qc.qa) hv∧R M (l56 none x.qd) bv:=by
 obtain⟨a,cap,rfl,hc⟩:=Nt h;refine⟨a,cap,by rw[List.length_map],fun i x hx=>?_⟩;obtain⟨b,off,rfl,hcell⟩:=hc i (ja x) (by simp[hx]);obtain⟨u0,h0,r0⟩:=hcell 0 _ rfl;obtain⟨u1,h1,r1⟩:=hcell 1 _ rfl;obtain⟨u2,h2,r2⟩:=hcell 2 _ rfl;cases r0;exact⟨b,off,u1,u2,rfl,h0,h1,h2,r1,r2⟩
theorem qbW {fr:List rufact} {out:List (rufact×Bool)} (h:NT out) {P:rufact→Prop} (h1:∀ f,f∈fr→P f) (h2:∀ p,p∈out→P p.1):∀ p,p∈addF out fr→P p.1:=fun p hp=>by
 rcases (h.add.2.1 p.1).1 (List.mem_map.2 ⟨p,hp,rfl⟩) with h3 | h3
 ·exact h1 _ h3
 ·obtain⟨q,hq,he⟩:=List.mem_map.1 h3;rw[← he];exact h2 q hq
theorem Dp:∀ (fr:List rufact) (out:List (rufact×Bool)),(addF out fr).length≤out.length+fr.length
 | [],out=>Nat.le_refl _
 | f::fr,out=>by
  have h1:=Dp fr (mset qp f true out)
  have h2:∀ o:List (rufact×Bool),(mset qp f true o).length≤o.length+1:=by
   intro o
   induction o with
   | nil=>simp[mset]
   | cons p r ih =>
    unfold mset;cases qp p.1 f <;> simp <;> omega
  have h3:=h2 out;show (addF (mset qp f true out) fr).length≤_;rw[List.length_cons];omega
end Go.Proofs
