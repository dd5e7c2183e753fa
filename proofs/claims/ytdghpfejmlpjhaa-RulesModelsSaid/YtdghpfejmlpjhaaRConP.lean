/- s -/
import Derived.Test.YtdghpfejmlpjhaaRCons
set_option maxRecDepth 100000
set_option linter.unusedVariables false
set_option linter.unusedSimpArgs false
namespace Go.AM
open Go.Proofs
theorem VZ {x y:rufact}:qx x y=true↔x=y:=by
 obtain⟨a,b,c⟩:=x;obtain⟨d,e,f⟩:=y
 simp[qx]
theorem Ho {x y:rufact}:qx x y=false↔x≠y:=by
 rw[← Bool.not_eq_true,VZ]
def byRelL (out:List (rufact×Bool)):List (Int×List rufact):=out.foldl (fun bl p=>mset keq1 p.1.qm (mget keq1 [] p.1.qm bl++[p.1]) bl) []
def headOk (head:ql) (d:List (List Int)):Bool:=d.all fun v=>match jj v head with
 | some f=>wfF f
 | none=>false
def freshL (no out:List (rufact×Bool)):List ruRule→List rufact→Option (List rufact)
 | [],acc=>some acc
 | r::rs,acc=>chk (decide (r.qd.length≤1000)) ((tryP r.qd no (byRelL out) r.qd (List.replicate 8 0)).bind fun d=>chk (decide (acc.length+d.length≤900000000) && headOk r.qe d) (freshL no out rs (acc++headsP out r.qe d)))
def addF (out:List (rufact×Bool)) (fr:List rufact):List (rufact×Bool):=fr.foldl (fun o f=>mset qx f true o) out
def consR (l:List ruRule) (no:List (rufact×Bool)):Nat→List (rufact×Bool)→Option (List (rufact×Bool))
 | 0,_=>none
 | n+1,out=>chk (decide (out.length≤100000)) ((freshL no out l []).bind fun fr=>bif fr.isEmpty then some out else consR l no n (addF out fr))
def consP (fuel:Nat) (l:List ruRule) (gv no:List (rufact×Bool)):Option (List (rufact×Bool)) :=
 chk (gv.all (fun p=>wfF p.1) && decide (l.length≤100000∧gv.length≤100000)) (consR l no fuel (addF [] (gv.map Prod.fst)))
structure NT (out:List (rufact×Bool)):Prop where
 t:∀ p,p∈out→p.2=true
 n:(out.map Prod.fst).Nodup
theorem NT.mget {out:List (rufact×Bool)} (h:∀ p,p∈out→p.2=true) (f:rufact):mget qx false f out=true↔f∈out.map Prod.fst:=by
 induction out with
 | nil=>simp[Go.AM.mget]
 | cons p r ih =>
  have ih:=ih fun q hq=>h q (List.mem_cons_of_mem _ hq)
  simp only[Go.AM.mget]
  cases hq:qx p.1 f with
  | true =>
   have:=VZ.1 hq
   simp[this,h p (List.mem_cons_self ..)]
  | false =>
   have:=Ho.1 hq;simp only[cond_false,ih,List.map_cons,List.mem_cons]
   constructor
   ·exact .inr
   ·rintro (h1 | h1)
    ·exact absurd h1.symm this
    ·exact h1
theorem NT.mset {out:List (rufact×Bool)} (h:NT out) (f:rufact):NT (mset qx f true out)∧(∀ g,g∈(mset qx f true out).map Prod.fst↔g=f∨g∈out.map Prod.fst)∧out.length≤(mset qx f true out).length∧(f ∉ out.map Prod.fst→(mset qx f true out).length=out.length+1):=by
 induction out with
 | nil=>exact⟨⟨by simp[Go.AM.mset],by simp[Go.AM.mset]⟩,by simp[Go.AM.mset],by simp,by simp[Go.AM.mset]⟩
 | cons p r ih =>
  obtain⟨h1,h2⟩:=h;rw[List.map_cons,List.nodup_cons]at h2;obtain⟨ih1,ih2,ih3,ih4⟩:=ih ⟨fun q hq=>h1 q (List.mem_cons_of_mem _ hq),h2.2⟩;simp only[Go.AM.mset]
  cases hq:qx p.1 f with
  | true =>
   have:=VZ.1 hq;subst this;simp only[cond_true];refine⟨⟨fun q hq=>?_,by simpa using h2⟩,fun g=>by simp,by simp,fun hn=>absurd (by simp) hn⟩
   rcases List.mem_cons.1 hq with rfl | hq
   ·rfl
   ·exact h1 q (List.mem_cons_of_mem _ hq)
  | false =>
   have hne:=Ho.1 hq;simp only[cond_false];refine⟨⟨fun q hq=>?_,?_⟩,fun g=>?_,by simpa using ih3,fun hn=>?_⟩
   ·rcases List.mem_cons.1 hq with rfl | hq
    ·exact h1 _ (List.mem_cons_self ..)
    ·exact ih1.t q hq
   ·rw[List.map_cons,List.nodup_cons];refine⟨fun hm=>?_,ih1.n⟩
    rcases (ih2 _).1 hm with h | h
    ·exact hne h
    ·exact h2.1 h
   ·rw[List.map_cons,List.mem_cons,ih2,List.map_cons,List.mem_cons]
    constructor
    ·rintro (h | h | h)
     ·exact .inr (.inl h)
     ·exact .inl h
     ·exact .inr (.inr h)
    ·rintro (h | h | h)
     ·exact .inr (.inl h)
     ·exact .inl h
     ·exact .inr (.inr h)
   ·rw[List.length_cons,ih4 (fun h=>hn (by rw[List.map_cons];exact List.mem_cons_of_mem _ h)),List.length_cons]
theorem NT.add {fr:List rufact}:∀ {out:List (rufact×Bool)},NT out→NT (addF out fr)∧(∀ g,g∈(addF out fr).map Prod.fst↔g∈fr∨g∈out.map Prod.fst)∧out.length≤(addF out fr).length∧(∀ f,f∈fr→f ∉ out.map Prod.fst→out.length<(addF out fr).length):=by
 induction fr with
 | nil=>intro out h;exact⟨h,fun g=>by simp[addF],Nat.le_refl _,fun f hf=>by simp at hf⟩
 | cons f fr ih =>
  intro out h;obtain⟨m1,m2,m3,m4⟩:=h.mset f;obtain⟨a1,a2,a3,a4⟩:=ih m1;have e:addF out (f::fr)=addF (Go.AM.mset qx f true out) fr:=rfl;rw[e];refine⟨a1,fun g=>?_,Nat.le_trans m3 a3,fun g hg hn=>?_⟩
  ·rw[a2,m2,List.mem_cons]
   constructor
   ·rintro (h | h | h)
    ·exact .inl (.inr h)
    ·exact .inl (.inl h)
    ·exact .inr h
   ·rintro ((h | h) | h)
    ·exact .inr (.inl h)
    ·exact .inl h
    ·exact .inr (.inr h)
  ·rcases List.mem_cons.1 hg with rfl | hg
   ·have:=m4 hn;omega
   ·by_cases hgf:g=f
    ·subst hgf;have:=m4 hn;omega
    ·have:=a4 g hg (fun h=>by
      rcases (m2 g).1 h with h | h
      ·exact hgf h
      ·exact hn h)
     omega
theorem NT.nodup {out:List (rufact×Bool)} (h:NT out):out.Nodup:=List.Pairwise.of_map Prod.fst (fun a b h e=>h (by rw[e])) h.n
theorem NT.mem {out:List (rufact×Bool)} (h:NT out) (p:rufact×Bool):p∈out↔p.2=true∧p.1∈out.map Prod.fst:=by
 constructor
 ·intro hp;exact⟨h.t p hp,List.mem_map.2 ⟨p,hp,rfl⟩⟩
 ·rintro⟨h1,h2⟩
  obtain⟨q,hq,he⟩:=List.mem_map.1 h2;have:=h.t q hq;have:q=p:=Prod.ext he (by rw[h1,this]);rw[← this];exact hq
theorem NT.perm {a b:List (rufact×Bool)} (ha:NT a) (hb:NT b) (h:∀ g,g∈a.map Prod.fst↔g∈b.map Prod.fst):a.Perm b:=by
 classical
 refine (List.perm_ext_iff_of_nodup ha.nodup hb.nodup).2 fun p=>?_
 rw[ha.mem,hb.mem,h]
theorem NT.of_perm {a b:List (rufact×Bool)} (ha:NT a) (h:a.Perm b):NT b:=⟨fun p hp=>ha.t p (h.mem_iff.2 hp),(h.map Prod.fst).nodup_iff.1 ha.n⟩
theorem NT.empty:NT []:=⟨fun p hp=>by simp at hp,by simp⟩
theorem qdw {out out':List (rufact×Bool)} (ha:NT out) (hp:out.Perm out') (head:ql) (d:List (List Int)):headsP out head d=headsP out' head d:=by
 have hb:=ha.of_perm hp;unfold headsP
 congr 1
 funext v
 congr 1
 funext f
 have:mget qx false f out=mget qx false f out':=by
  rw[Bool.eq_iff_iff,NT.mget ha.t,NT.mget hb.t,(hp.map Prod.fst).mem_iff]
 rw[this]
theorem qcv {out:List (rufact×Bool)} {head:ql} {d d':List (List Int)} (hp:d.Perm d'):(headsP out head d).Perm (headsP out head d'):=hp.filterMap _
theorem qaq (rel:Int):∀ (out:List (rufact×Bool)) (bl:List (Int×List rufact)),mget keq1 [] rel (out.foldl (fun bl p=>mset keq1 p.1.qm (mget keq1 [] p.1.qm bl++[p.1]) bl) bl)=mget keq1 [] rel bl++(out.map Prod.fst).filter fun f=>f.qm == rel
 | [],bl=>by simp
 | p::out,bl=>by
  rw[List.foldl_cons,qaq rel out,Hl,List.map_cons,List.filter_cons]
  by_cases h:rel=p.1.qm
  ·subst h
   simp
  ·have:(p.1.qm == rel)=false:=by simp;omega
   simp[h,this]
theorem Hu (rel:Int) (out:List (rufact×Bool)):mget keq1 [] rel (byRelL out)=(out.map Prod.fst).filter fun f=>f.qm == rel:=by
 unfold byRelL;rw[qaq]
 simp[mget]
theorem qgq {k k':List Int→Option (List (List Int))} {a:ql} {v:List Int} (hk:∀ v o,k v=some o→∃ o',k' v=some o'∧o.Perm o'):∀ (gs:List rufact) (o:List (List Int)),fitL k a v gs=some o→∃ o',fitL k' a v gs=some o'∧o.Perm o':=by
 intro gs
 induction gs with
 | nil=>intro o h;cases h;exact⟨[],rfl,List.Perm.refl _⟩
 | cons g gs ih =>
  intro o h;unfold fitL at h;obtain⟨p,hp,h⟩:=qf h;obtain⟨l,hl,h⟩:=qf h;obtain⟨m,hm,h⟩:=qf h;cases h;obtain⟨m',hm',pm⟩:=ih m hm
  obtain⟨l',hl',pl⟩:∃ l',(bif p.2 then k' p.1 else some [])=some l'∧l.Perm l':=by
   cases hb:p.2 with
   | true =>
    rw[hb]at hl;exact hk _ _ hl
   | false =>
    rw[hb]at hl;cases hl;exact⟨[],rfl,List.Perm.refl _⟩
  refine⟨l'++m',?_,pl.append pm⟩;unfold fitL;rw[hp];show (bif p.2 then k' p.1 else some []).bind _=_;rw[hl'];show (fitL k' a v gs).bind _=_;rw[hm'];rfl
theorem qgp {k:List Int→Option (List (List Int))} {a:ql} {v:List Int} {gs gs':List rufact} (h:gs.Perm gs'):∀ o,fitL k a v gs=some o→∃ o',fitL k a v gs'=some o'∧o.Perm o':=by
 induction h with
 | nil=>intro o h;exact⟨o,h,List.Perm.refl _⟩
 | cons g hp ih =>
  intro o h;unfold fitL at h;obtain⟨p,hp,h⟩:=qf h;obtain⟨l,hl,h⟩:=qf h;obtain⟨m,hm,h⟩:=qf h;cases h;obtain⟨m',hm',pm⟩:=ih m hm;refine⟨l++m',?_,pm.append_left l⟩;unfold fitL;rw[hp];show (bif p.2 then k p.1 else some []).bind _=_;rw[hl];show (fitL k a v _).bind _=_;rw[hm'];rfl
 | swap g1 g2 gs =>
  intro o h;unfold fitL at h;obtain⟨p,hp,h⟩:=qf h;obtain⟨l,hl,h⟩:=qf h;obtain⟨m,hm,h⟩:=qf h;cases h;unfold fitL at hm;obtain⟨p',hp',hm⟩:=qf hm;obtain⟨l',hl',hm⟩:=qf hm;obtain⟨m',hm',hm⟩:=qf hm;cases hm;refine⟨l'++(l++m'),?_,?_⟩
  ·unfold fitL;rw[hp'];show (bif p'.2 then k p'.1 else some []).bind _=_;rw[hl'];show (fitL k a v (g2::gs)).bind _=_;unfold fitL;rw[hp];show ((bif p.2 then k p.1 else some []).bind _).bind _=_;rw[hl];show ((fitL k a v gs).bind _).bind _=_;rw[hm'];rfl
  ·rw[← List.append_assoc,← List.append_assoc];exact List.perm_append_comm.append_right _
 | trans _ _ ih1 ih2 =>
  intro o h;obtain⟨o1,h1,p1⟩:=ih1 o h;obtain⟨o2,h2,p2⟩:=ih2 o1 h1;exact⟨o2,h2,p1.trans p2⟩
theorem qaT {all:List ruLit} {no:List (rufact×Bool)} {bl bl':List (Int×List rufact)} (hp:∀ rel,(mget keq1 [] rel bl).Perm (mget keq1 [] rel bl')):∀ (body:List ruLit) (v:List Int) (o:List (List Int)),tryP all no bl body v=some o→∃ o',tryP all no bl' body v=some o'∧o.Perm o':=by
 intro body
 induction body with
 | nil=>intro v o h;exact⟨o,h,List.Perm.refl _⟩
 | cons x body ih =>
  intro v o h;unfold tryP at h ⊢
  cases hn:x.qo with
  | true =>
   rw[hn]at h;exact ih v o h
  | false =>
   rw[hn]at h;obtain⟨hc,h⟩:=qg (show chk (wfI .i64 x.qc.qb) (fitL (tryP all no bl body) x.qc v (mget keq1 [] x.qc.qb bl))=some o from h);obtain⟨o1,h1,p1⟩:=qgq (k':=tryP all no bl' body) (fun v o h=>ih v o h) _ _ h;obtain⟨o2,h2,p2⟩:=qgp (hp x.qc.qb) _ h1;refine⟨o2,?_,p1.trans p2⟩;show chk (wfI .i64 x.qc.qb) _=_;rw[hc];exact h2
theorem DX {head:ql} {d:List (List Int)} (h:headOk head d=true):∀ v,v∈d→∃ f,jj v head=some f∧wfF f=true:=by
 intro v hv;have:=List.all_eq_true.1 h v hv
 cases hg:jj v head with
 | none=>rw[hg]at this;cases this
 | some f=>rw[hg]at this;exact⟨f,rfl,this⟩
theorem qgl {out:List (rufact×Bool)} {head:ql} {d:List (List Int)} (h:headOk head d=true):∀ f,f∈headsP out head d→wfF f=true∧mget qx false f out=false:=by
 intro f hf;unfold headsP at hf;obtain⟨v,hv,he⟩:=List.mem_filterMap.1 hf;obtain⟨g,h1,h2⟩:=DX h v hv;rw[h1]at he;simp only[Option.bind_some]at he
 split at he
 ·cases he
 ·rename_i hq;cases he;exact⟨h2,by simpa using hq⟩
end Go.AM
