/- s -/
import Derived.Test.YtdghpfejmlpjhaaRL5
set_option maxRecDepth 100000
set_option linter.unusedVariables false
set_option linter.unusedSimpArgs false
namespace Go.AM
open Go.Proofs
open Classical
structure Edge where
 h:Nat
 b:Nat
 d:Int
def Edge.ok (e:Edge):Prop:=e.h<6∧e.b<6∧0≤e.d∧e.d≤1
def stepE (v:List Int) (e:Edge):List Int:=v.set e.h (if v.getD e.b 0+e.d > v.getD e.h 0 then v.getD e.b 0+e.d else v.getD e.h 0)
def rndE (E:List Edge) (v:List Int):List Int:=E.foldl stepE v
def iterE (E:List Edge) (v:List Int):Nat→List Int
 | 0=>v
 | n+1=>iterE E (rndE E v) n
theorem QD (v:List Int) (e:Edge):(stepE v e).length=v.length:=by simp[stepE]
theorem rndE_len (E:List Edge):∀ v,(rndE E v).length=v.length:=by
 induction E with
 | nil=>intro v;rfl
 | cons e E ih=>intro v;rw[show rndE (e::E) v=rndE E (stepE v e) from rfl,ih,QD]
theorem Za {v:List Int} (hv:v.length=6) {e:Edge} (he:e.ok) (i:Nat):(stepE v e).getD i 0=if i=e.h then (if v.getD e.b 0+e.d > v.getD e.h 0 then v.getD e.b 0+e.d else v.getD e.h 0) else v.getD i 0:=by
 unfold stepE;simp only[List.getD_eq_getElem?_getD]
 by_cases hi:i=e.h
 ·subst hi;rw[List.getElem?_set_self (by rw[hv];exact he.1),if_pos rfl];rfl
 ·rw[List.getElem?_set_ne (fun h=>hi h.symm),if_neg hi]
theorem list6_ext {v w:List Int} (hv:v.length=6) (hw:w.length=6) (h:∀ i,i<6→v.getD i 0=w.getD i 0):v=w:=by
 refine List.ext_getElem (by rw[hv,hw]) fun i h1 h2=>?_
 have:=h i (by omega);rw[List.getD_eq_getElem?_getD,List.getD_eq_getElem?_getD,List.getElem?_eq_getElem h1,List.getElem?_eq_getElem h2]at this;exact this
theorem stepE_le {v:List Int} (hv:v.length=6) {e:Edge} (he:e.ok) (i:Nat):v.getD i 0≤(stepE v e).getD i 0:=by
 rw[Za hv he]
 split
 ·rename_i h;subst h;split <;> omega
 ·omega
theorem rndE_le {E:List Edge} (hE:∀ e,e∈E→e.ok):∀ {v:List Int},v.length=6→∀ i,v.getD i 0≤(rndE E v).getD i 0:=by
 induction E with
 | nil=>intro v hv i;exact Int.le_refl _
 | cons e E ih =>
  intro v hv i;have h1:=stepE_le hv (hE e (List.mem_cons_self ..)) i;have h2:=ih (fun f hf=>hE f (List.mem_cons_of_mem _ hf)) (v:=stepE v e) (by rw[QD,hv]) i;exact Int.le_trans h1 h2
theorem rndE_bound {E:List Edge} (hE:∀ e,e∈E→e.ok):∀ {v:List Int} {B:Int},v.length=6→0≤B→(∀ i,0≤v.getD i 0∧v.getD i 0≤B)→∀ i,0≤(rndE E v).getD i 0∧(rndE E v).getD i 0≤B+E.length:=by
 induction E with
 | nil=>intro v B hv hB h i;simpa[rndE] using h i
 | cons e E ih =>
  intro v B hv hB h i;have he:=hE e (List.mem_cons_self ..)
  have h1:∀ i,0≤(stepE v e).getD i 0∧(stepE v e).getD i 0≤B+1:=fun i=>by
   rw[Za hv he];have a:=h e.b;have b:=h e.h;have c:=h i;have:=he.2.2
   split
   ·split <;> omega
   ·omega
  have:=ih (fun f hf=>hE f (List.mem_cons_of_mem _ hf)) (v:=stepE v e) (by rw[QD,hv]) (by omega) h1 i;rw[List.length_cons];show 0≤(rndE E (stepE v e)).getD i 0∧(rndE E (stepE v e)).getD i 0≤_;omega
def preE (E:List Edge) (p:Nat→Int):Prop:=∀ e,e∈E→p e.b+e.d≤p e.h
theorem rndE_pre {E:List Edge} (hE:∀ e,e∈E→e.ok) {p:Nat→Int}:preE E p→∀ {v:List Int},v.length=6→(∀ i,v.getD i 0≤p i)→∀ i,(rndE E v).getD i 0≤p i:=by
 induction E with
 | nil=>intro _ v _ h i;exact h i
 | cons e E ih =>
  intro hp v hv h i;have he:=hE e (List.mem_cons_self ..);refine ih (fun f hf=>hE f (List.mem_cons_of_mem _ hf)) (fun f hf=>hp f (List.mem_cons_of_mem _ hf)) (v:=stepE v e) (by rw[QD,hv]) (fun j=>?_) i;rw[Za hv he];have a:=h e.b;have b:=h e.h;have c:=hp e (List.mem_cons_self ..)
  split
  ·rename_i hj;subst hj;split <;> omega
  ·exact h j
theorem rndE_fix {E:List Edge} (hE:∀ e,e∈E→e.ok):∀ {v:List Int},v.length=6→rndE E v=v→preE E (fun i=>v.getD i 0):=by
 induction E with
 | nil=>intro v _ _ e he;simp at he
 | cons e E ih =>
  intro v hv h;have he:=hE e (List.mem_cons_self ..)
  have hE':∀ f,f∈E→f.ok:=fun f hf=>hE f (List.mem_cons_of_mem _ hf)
  have h1:rndE E (stepE v e)=v:=h
  have hs:stepE v e=v:=by
   refine list6_ext (by rw[QD,hv]) hv fun i _=>?_
   have a:=stepE_le hv he i;have b:=rndE_le hE' (v:=stepE v e) (by rw[QD,hv]) i;rw[h1]at b;omega
  rw[hs]at h1;intro f hf
  rcases List.mem_cons.1 hf with rfl | hf
  ·have:(stepE v f).getD f.h 0=v.getD f.h 0:=by rw[hs]
   show v.getD f.b 0+f.d≤v.getD f.h 0;rw[Za hv he,if_pos rfl]at this
   split at this <;> omega
  ·exact ih hE' hv h1 f hf
def sum6 (v:List Int):Int:=v.getD 0 0+v.getD 1 0+v.getD 2 0+v.getD 3 0+v.getD 4 0+v.getD 5 0
theorem rndE_sum {E:List Edge} (hE:∀ e,e∈E→e.ok) {v:List Int} (hv:v.length=6) (hne:rndE E v≠v):sum6 v+1≤sum6 (rndE E v):=by
 have h:=rndE_le hE hv
 have:∃ i,i<6∧v.getD i 0≠(rndE E v).getD i 0:=by
  refine Classical.byContradiction fun hn=>hne (list6_ext (by rw[rndE_len,hv]) hv fun i hi=>?_)
  refine Classical.byContradiction fun h2=>hn ⟨i,hi,fun e=>h2 e.symm⟩
 obtain⟨i,hi,hni⟩:=this;have a0:=h 0;have a1:=h 1;have a2:=h 2;have a3:=h 3;have a4:=h 4;have a5:=h 5;unfold sum6
 match i,hi with
 | 0,_ | 1,_ | 2,_ | 3,_ | 4,_ | 5,_=>omega
theorem pig:∀ (n:Nat) (l:List Nat),l.Nodup→(∀ x,x∈l→x<n)→l.length≤n
 | 0,l,_,h=>by
  cases l with
  | nil=>simp
  | cons a l=>exact absurd (h a (List.mem_cons_self ..)) (by omega)
 | n+1,l,hn,h=>by
  have:=pig n (l.erase n) (hn.erase n) (fun x hx=>by
   have h1:=(hn.mem_erase_iff).1 hx;have h2:=h x h1.2;have:=h1.1
   omega)
  rw[List.length_erase]at this
  split at this <;> omega
theorem no_gap {E:List Edge} {v:List Int} (hv:v.length=6) (h0:∀ i,0≤v.getD i 0) (hpre:preE E (fun i=>v.getD i 0)) (hleast:∀ p:Nat→Int,(∀ i,0≤p i)→preE E p→∀ i,v.getD i 0≤p i) (hE:∀ e,e∈E→e.ok):∀ i,v.getD i 0≤5:=by
 intro j
 refine Classical.byContradiction fun hj=>?_
 have hj:6≤v.getD j 0:=by omega
 have hj6:j<6:=by
  refine Classical.byContradiction fun h=>?_
  rw[List.getD_eq_getElem?_getD,List.getElem?_eq_none (by omega)]at hj
  simp at hj
 have:∃ m:Int,0≤m∧m≤5∧∀ i,i<6→v.getD i 0≠m:=by
  refine Classical.byContradiction fun hn=>?_
  have hall:∀ m:Nat,m<6→∃ i,i<6∧v.getD i 0=(m:Int):=fun m hm=>by
   refine Classical.byContradiction fun h2=>hn ⟨m,by omega,by omega,fun i hi e=>h2 ⟨i,hi,e⟩⟩
  have hall7:∀ m:Nat,m<7→∃ i,i<6∧(if v.getD i 0≤5 then v.getD i 0 else 6)=(m:Int):=fun m hm=>by
   by_cases h6:m<6
   ·obtain⟨i,hi,he⟩:=hall m h6;exact⟨i,hi,by rw[if_pos (by omega)];exact he⟩
   ·exact⟨j,hj6,by rw[if_neg (by omega)];omega⟩
  obtain⟨i0,q0,p0⟩:=hall7 0 (by omega);obtain⟨i1,q1,p1⟩:=hall7 1 (by omega);obtain⟨i2,q2,p2⟩:=hall7 2 (by omega);obtain⟨i3,q3,p3⟩:=hall7 3 (by omega);obtain⟨i4,q4,p4⟩:=hall7 4 (by omega);obtain⟨i5,q5,p5⟩:=hall7 5 (by omega);obtain⟨i6,q6,p6⟩:=hall7 6 (by omega)
  have ne:∀ {a b:Nat} {x y:Nat},(if v.getD a 0≤5 then v.getD a 0 else 6)=(x:Int)→(if v.getD b 0≤5 then v.getD b 0 else 6)=(y:Int)→x≠y→a≠b:=fun h1 h2 h3 e=>by subst e;rw[h1]at h2;omega
  have:=pig 6 [i0,i1,i2,i3,i4,i5,i6] (by
   simp only[List.nodup_cons,List.mem_cons,List.not_mem_nil,or_false,not_or,List.nodup_nil,and_true,not_false_eq_true]
   exact⟨⟨ne p0 p1 (by omega),ne p0 p2 (by omega),ne p0 p3 (by omega),ne p0 p4 (by omega),ne p0 p5 (by omega),ne p0 p6 (by omega)⟩,⟨ne p1 p2 (by omega),ne p1 p3 (by omega),ne p1 p4 (by omega),ne p1 p5 (by omega),ne p1 p6 (by omega)⟩,⟨ne p2 p3 (by omega),ne p2 p4 (by omega),ne p2 p5 (by omega),ne p2 p6 (by omega)⟩,⟨ne p3 p4 (by omega),ne p3 p5 (by omega),ne p3 p6 (by omega)⟩,⟨ne p4 p5 (by omega),ne p4 p6 (by omega)⟩,ne p5 p6 (by omega)⟩) (fun x hx=>by
   simp only[List.mem_cons,List.not_mem_nil,or_false]at hx
   rcases hx with rfl | rfl | rfl | rfl | rfl | rfl | rfl <;> assumption)
  simp at this
 obtain⟨m,m0,m5,hm⟩:=this
 have hp:=hleast (fun i=>if v.getD i 0 > m then v.getD i 0 - 1 else v.getD i 0) (fun i=>by have:=h0 i;show 0≤(if v.getD i 0 > m then v.getD i 0 - 1 else v.getD i 0);split <;> omega) (fun e he=>by
  have h1:=hpre e he;have h2:=hm e.h (hE e he).1;have h3:=hm e.b (hE e he).2.1;have h4:=(hE e he).2.2;replace h1:v.getD e.b 0+e.d≤v.getD e.h 0:=h1;show (if v.getD e.b 0 > m then v.getD e.b 0 - 1 else v.getD e.b 0)+e.d≤(if v.getD e.h 0 > m then v.getD e.h 0 - 1 else v.getD e.h 0)
  split <;> split <;> omega) j
 replace hp:v.getD j 0≤(if v.getD j 0 > m then v.getD j 0 - 1 else v.getD j 0):=hp;rw[if_pos (by omega)]at hp;omega
end Go.AM
namespace Go.AM
open Go.Proofs
open Classical
def edgeOf (h b:Int) (n:Bool):Edge:=⟨h.toNat,b.toNat,if n then 1 else 0⟩
def edgesU (l:List ruRule):List Edge:=l.flatMap fun r=>r.qd.map fun b=>edgeOf r.qf.qb b.qe.qb b.qn
def edgesR (l:List rf3Rule):List Edge:=l.flatMap fun r=>r.qd.map fun b=>edgeOf r.qf.qb b.qe.qb b.qn
def rel6 (n:Int):Prop:=0≤n∧n≤5
def in6 (v:List Int) (B:Int):Prop:=v.length=6∧∀ i,0≤v.getD i 0∧v.getD i 0≤B
theorem XL {h b:Int} {n:Bool} (h1:rel6 h) (h2:rel6 b):(edgeOf h b n).ok:=by
 have:=h1.1;have:=h1.2;have:=h2.1;have:=h2.2
 refine⟨?_,?_,?_,?_⟩ <;> unfold edgeOf <;> dsimp only <;> first | omega | (split <;> omega)
theorem get6 {v:List Int} {B:Int} (hv:in6 v B) {n:Int} (h:rel6 n):v[0+Int.toNat n]? = some (v.getD n.toNat 0):=by
 have:=h.1;have:=h.2;rw[Nat.zero_add,List.getD_eq_getElem?_getD,List.getElem?_eq_getElem (by rw[hv.1];omega)];rfl
theorem upd6 {v:List Int} {B:Int} (hv:in6 v B) {n:Int} (h:rel6 n) (x:Int):upd v (0+Int.toNat n) x=some (v.set n.toNat x):=by
 have:=h.1;have:=h.2;unfold upd;rw[Nat.zero_add,if_pos (by rw[hv.1];omega)]
theorem set6 {v:List Int} {B:Int} (hv:in6 v B) {n:Nat}:v.set n (v.getD n 0)=v:=by
 refine List.ext_getElem (by simp) fun i h1 h2=>?_
 rw[List.getElem_set]
 split
 ·rename_i h;subst h;rw[List.getD_eq_getElem?_getD,List.getElem?_eq_getElem h2];rfl
 ·rfl
theorem in6_step {v:List Int} {B:Int} (hv:in6 v B) (hB:0≤B) {e:Edge} (he:e.ok):in6 (stepE v e) (B+1):=by
 refine⟨by rw[QD,hv.1],fun i=>?_⟩;have:=rndE_bound (E:=[e]) (fun f hf=>by simp at hf;subst hf;exact he) hv.1 hB hv.2 i
 simpa[rndE] using this
theorem step_fix {E:List Edge} (hE:∀ e,e∈E→e.ok) {e:Edge} (he:e.ok) {v:List Int} (hv:v.length=6):rndE (e::E) v=v↔stepE v e=v∧rndE E v=v:=by
 have e1:rndE (e::E) v=rndE E (stepE v e):=rfl
 constructor
 ·intro h
  have hs:stepE v e=v:=by
   refine list6_ext (by rw[QD,hv]) hv fun i _=>?_
   have a:=stepE_le hv he i;have b:=rndE_le hE (v:=stepE v e) (by rw[QD,hv]) i;rw[← e1,h]at b;omega
  refine⟨hs,?_⟩;rw[e1,hs]at h;exact h
 ·rintro⟨h1,h2⟩
  rw[e1,h1,h2]
theorem rnd_append (E F:List Edge) (v:List Int):rndE (E++F) v=rndE F (rndE E v):=List.foldl_append ..
theorem rnd_fix_append {E F:List Edge} (hE:∀ e,e∈E→e.ok) (hF:∀ e,e∈F→e.ok) {v:List Int} (hv:v.length=6):rndE (E++F) v=v↔rndE E v=v∧rndE F v=v:=by
 rw[rnd_append]
 constructor
 ·intro h
  have hs:rndE E v=v:=by
   refine list6_ext (by rw[rndE_len,hv]) hv fun i _=>?_
   have a:=rndE_le hE hv i;have b:=rndE_le hF (v:=rndE E v) (by rw[rndE_len,hv]) i;rw[h]at b;omega
  refine⟨hs,?_⟩;rw[hs]at h;exact h
 ·rintro⟨h1,h2⟩
  rw[h1,h2]
theorem relDec {n:Int} (h:rel6 n):decide ((0:Int)≤n∧n<(((Int.toNat 6):Nat):Int))=true:=by
 have:=h.1;have:=h.2;refine decide_eq_true ⟨by omega,?_⟩;rw[show (((Int.toNat 6):Nat):Int)=6 from rfl];omega
theorem ru_l3 (x2:ruRule) (hx:rel6 x2.qf.qb) (K:List Int→Bool→Option (List Int×Bool)):∀ (body:List ruLit) (k:Nat) (v:List Int) (ch:Bool) (B:Int),(∀ b,b∈body→rel6 b.qe.qb)→in6 v B→0≤B→B+body.length≤1000000 →
  ∃ c,qT x2 K body k v ch=K (rndE (body.map fun b=>edgeOf x2.qf.qb b.qe.qb b.qn) v) c∧(c=true↔ch=true∨rndE (body.map fun b=>edgeOf x2.qf.qb b.qe.qb b.qn) v≠v)
 | [],k,v,ch,B,_,_,_,_=>⟨ch,by rw[qT];rfl,by simp[rndE]⟩
 | b::body,k,v,ch,B,hb,hv,hB,hl=>by
  have hbb:=hb b (List.mem_cons_self ..)
  have hb':∀ c,c∈body→rel6 c.qe.qb:=fun c hc=>hb c (List.mem_cons_of_mem _ hc)
  rw[List.length_cons]at hl;have he:=XL (n:=b.qn) hx hbb
  have hE:∀ e,e∈body.map (fun b=>edgeOf x2.qf.qb b.qe.qb b.qn)→e.ok:=fun e h=>by
   obtain⟨c,hc,rfl⟩:=List.mem_map.1 h;exact XL hx (hb' c hc)
  have hs:=in6_step hv hB he
  have key:∀ w:Int,w=v.getD b.qe.qb.toNat 0+(edgeOf x2.qf.qb b.qe.qb b.qn).d→∃ c,JS x2 v ch (Ji (qT x2 K body (k+1))) w=K (rndE ((b::body).map fun b=>edgeOf x2.qf.qb b.qe.qb b.qn) v) c∧(c=true↔ch=true∨rndE ((b::body).map fun b=>edgeOf x2.qf.qb b.qe.qb b.qn) v≠v):=fun w hw=>by
   unfold JS Ji;rw[chk_t (relDec hx),get6 hv hx];simp only[Option.bind_some];rw[List.map_cons]
   by_cases hgt:w > v.getD x2.qf.qb.toNat 0
   ·rw[decide_eq_true hgt,cond_true,chk_t (relDec hx),upd6 hv hx];simp only[Option.bind_some]
    have es:v.set x2.qf.qb.toNat w=stepE v (edgeOf x2.qf.qb b.qe.qb b.qn):=by
     show _=v.set x2.qf.qb.toNat (if v.getD b.qe.qb.toNat 0+_ > v.getD x2.qf.qb.toNat 0 then _ else _);rw[if_pos (by rw[← hw];exact hgt),hw];rfl
    rw[es];obtain⟨c,h1,h2⟩:=ru_l3 x2 hx K body (k+1) (stepE v (edgeOf x2.qf.qb b.qe.qb b.qn)) true (B+1) hb' hs (by omega) (by omega);refine⟨c,h1,?_⟩;have hc:c=true:=h2.2 (.inl rfl);refine⟨fun _=>.inr fun hf=>?_,fun _=>hc⟩;have hf:=((step_fix hE he hv.1).1 hf).1;have:=congrArg (fun z=>z.getD x2.qf.qb.toNat 0) hf;replace this:(stepE v (edgeOf x2.qf.qb b.qe.qb b.qn)).getD x2.qf.qb.toNat 0=v.getD x2.qf.qb.toNat 0:=this;rw[Za hv.1 he,if_pos (show x2.qf.qb.toNat=(edgeOf x2.qf.qb b.qe.qb b.qn).h from rfl)]at this;replace this:(if v.getD b.qe.qb.toNat 0+(edgeOf x2.qf.qb b.qe.qb b.qn).d > v.getD x2.qf.qb.toNat 0 then v.getD b.qe.qb.toNat 0+(edgeOf x2.qf.qb b.qe.qb b.qn).d else v.getD x2.qf.qb.toNat 0)=v.getD x2.qf.qb.toNat 0:=this;rw[← hw,if_pos hgt]at this;omega
   ·rw[decide_eq_false hgt,cond_false]
    have es:stepE v (edgeOf x2.qf.qb b.qe.qb b.qn)=v:=by
     show v.set x2.qf.qb.toNat (if v.getD b.qe.qb.toNat 0+_ > v.getD x2.qf.qb.toNat 0 then _ else _)=v;rw[if_neg (by rw[← hw];exact hgt)];exact set6 hv
    obtain⟨c,h1,h2⟩:=ru_l3 x2 hx K body (k+1) v ch B hb' hv hB (by omega);refine⟨c,?_,?_⟩
    ·rw[h1];show _=K (rndE _ (stepE v _)) c;rw[es]
    ·rw[h2];show _↔ch=true∨rndE _ (stepE v _)≠v;rw[es]
  rw[qT,chk_t (relDec hbb),get6 hv hbb];simp only[Option.bind_some];have hg:=hv.2 b.qe.qb.toNat
  cases hn:b.qn with
  | true =>
   rw[cond_true]
   have hw:IntKind.wrap .i64 (v.getD b.qe.qb.toNat 0+1)=v.getD b.qe.qb.toNat 0+(edgeOf x2.qf.qb b.qe.qb b.qn).d:=by
    rw[wrap64 (by omega) (by omega),hn];rfl
   have:=key _ hw;rw[List.map_cons,hn]at this;rw[List.map_cons,hn];exact this
  | false =>
   rw[cond_false]
   have hw:v.getD b.qe.qb.toNat 0=v.getD b.qe.qb.toNat 0+(edgeOf x2.qf.qb b.qe.qb b.qn).d:=by
    rw[hn];show _=_+(0:Int);omega
   have:=key _ hw;rw[List.map_cons,hn]at this;rw[List.map_cons,hn];exact this
theorem rf_l3 (x2:rf3Rule) (hx:rel6 x2.qf.qb) (K:List Int→Option (List Int×Int)):∀ (body:List rf3Lit) (k:Nat) (v:List Int) (B:Int),(∀ b,b∈body→rel6 b.qe.qb)→in6 v B→0≤B→B+body.length≤1000000 →
  JU x2 K body k v=K (rndE (body.map fun b=>edgeOf x2.qf.qb b.qe.qb b.qn) v)
 | [],k,v,B,_,_,_,_=>by rw[JU];rfl
 | b::body,k,v,B,hb,hv,hB,hl=>by
  have hbb:=hb b (List.mem_cons_self ..)
  have hb':∀ c,c∈body→rel6 c.qe.qb:=fun c hc=>hb c (List.mem_cons_of_mem _ hc)
  rw[List.length_cons]at hl;have he:=XL (n:=b.qn) hx hbb;have hs:=in6_step hv hB he
  have key:∀ w:Int,w=v.getD b.qe.qb.toNat 0+(edgeOf x2.qf.qb b.qe.qb b.qn).d→Xz x2 v (JU x2 K body (k+1)) w=K (rndE ((b::body).map fun b=>edgeOf x2.qf.qb b.qe.qb b.qn) v):=fun w hw=>by
   unfold Xz;rw[chk_t (relDec hx),get6 hv hx];simp only[Option.bind_some];rw[chk_t (relDec hx),upd6 hv hx];simp only[Option.bind_some];rw[hw];exact rf_l3 x2 hx K body (k+1) (stepE v (edgeOf x2.qf.qb b.qe.qb b.qn)) (B+1) hb' hs (by omega) (by omega)
  rw[JU,chk_t (relDec hbb),get6 hv hbb];simp only[Option.bind_some];have hg:=hv.2 b.qe.qb.toNat
  cases hn:b.qn with
  | true =>
   rw[cond_true]
   have hw:IntKind.wrap .i64 (v.getD b.qe.qb.toNat 0+1)=v.getD b.qe.qb.toNat 0+(edgeOf x2.qf.qb b.qe.qb b.qn).d:=by
    rw[wrap64 (by omega) (by omega),hn];rfl
   exact key _ hw
  | false =>
   rw[cond_false]
   have hw:v.getD b.qe.qb.toNat 0=v.getD b.qe.qb.toNat 0+(edgeOf x2.qf.qb b.qe.qb b.qn).d:=by
    rw[hn];show _=_+(0:Int);omega
   exact key _ hw
def relsU (l:List ruRule):Prop:=∀ r,r∈l→rel6 r.qf.qb∧r.qd.length≤3∧∀ b,b∈r.qd→rel6 b.qe.qb
def relsR (l:List rf3Rule):Prop:=∀ r,r∈l→rel6 r.qf.qb∧r.qd.length≤3∧∀ b,b∈r.qd→rel6 b.qe.qb
theorem edgesU_ok {l:List ruRule} (h:relsU l):∀ e,e∈edgesU l→e.ok:=fun e he=>by
 obtain⟨r,hr,he⟩:=List.mem_flatMap.1 he;obtain⟨b,hb,rfl⟩:=List.mem_map.1 he;exact XL (h r hr).1 ((h r hr).2.2 b hb)
theorem edgesR_ok {l:List rf3Rule} (h:relsR l):∀ e,e∈edgesR l→e.ok:=fun e he=>by
 obtain⟨r,hr,he⟩:=List.mem_flatMap.1 he;obtain⟨b,hb,rfl⟩:=List.mem_map.1 he;exact XL (h r hr).1 ((h r hr).2.2 b hb)
theorem edgesU_len {l:List ruRule} (h:relsU l):(edgesU l).length≤3 * l.length:=by
 induction l with
 | nil=>simp[edgesU]
 | cons r l ih =>
  have:=ih fun q hq=>h q (List.mem_cons_of_mem _ hq)
  have h1:=(h r (List.mem_cons_self ..)).2.1;have e:edgesU (r::l)=(r.qd.map fun b=>edgeOf r.qf.qb b.qe.qb b.qn)++edgesU l:=rfl;rw[e,List.length_append,List.length_map,List.length_cons];omega
theorem edgesR_len {l:List rf3Rule} (h:relsR l):(edgesR l).length≤3 * l.length:=by
 induction l with
 | nil=>simp[edgesR]
 | cons r l ih =>
  have:=ih fun q hq=>h q (List.mem_cons_of_mem _ hq)
  have h1:=(h r (List.mem_cons_self ..)).2.1;have e:edgesR (r::l)=(r.qd.map fun b=>edgeOf r.qf.qb b.qe.qb b.qn)++edgesR l:=rfl;rw[e,List.length_append,List.length_map,List.length_cons];omega
theorem in6_rnd {E:List Edge} (hE:∀ e,e∈E→e.ok) {v:List Int} {B:Int} (hv:in6 v B) (hB:0≤B):in6 (rndE E v) (B+E.length) :=
 ⟨by rw[rndE_len,hv.1],rndE_bound hE hv.1 hB hv.2⟩
theorem ru_l2 (K:List Int→Bool→Option (List Int×Bool)):∀ (l:List ruRule) (k:Nat) (v:List Int) (ch:Bool) (B:Int),relsU l→in6 v B→0≤B→B+3 * l.length≤1000000 →
  ∃ c,qI K l k v ch=K (rndE (edgesU l) v) c∧(c=true↔ch=true∨rndE (edgesU l) v≠v)
 | [],k,v,ch,B,_,_,_,_=>⟨ch,by rw[qI];rfl,by simp[rndE,edgesU]⟩
 | r::l,k,v,ch,B,hr,hv,hB,hl=>by
  have h1:=hr r (List.mem_cons_self ..)
  have hr':relsU l:=fun q hq=>hr q (List.mem_cons_of_mem _ hq)
  rw[List.length_cons]at hl;rw[qI,chk_t (qC (by have:=h1.2.1;omega))]
  have hE:∀ e,e∈r.qd.map (fun b=>edgeOf r.qf.qb b.qe.qb b.qn)→e.ok:=fun e h=>by
   obtain⟨c,hc,rfl⟩:=List.mem_map.1 h;exact XL h1.1 (h1.2.2 c hc)
  obtain⟨c,e1,e2⟩:=ru_l3 r h1.1 (je (qI K l (k+1))) r.qd 0 v ch B h1.2.2 hv hB (by have:=h1.2.1;omega);rw[e1];unfold je;have hs:=in6_rnd hE hv hB;rw[List.length_map]at hs;obtain⟨d,e3,e4⟩:=ru_l2 K l (k+1) _ c _ hr' hs (by omega) (by have:=h1.2.1;omega);have e:edgesU (r::l)=(r.qd.map fun b=>edgeOf r.qf.qb b.qe.qb b.qn)++edgesU l:=rfl;refine⟨d,by rw[e3,e,rnd_append],?_⟩;rw[e4,e2,e,show (rndE ((r.qd.map fun b=>edgeOf r.qf.qb b.qe.qb b.qn)++edgesU l) v≠v↔¬ (_∧_)) from not_congr (rnd_fix_append hE (edgesU_ok hr') hv.1)]
  by_cases hf:rndE (r.qd.map fun b=>edgeOf r.qf.qb b.qe.qb b.qn) v=v
  ·rw[hf]
   simp
  ·simp[hf]
theorem rf_l2 (K:List Int→Option (List Int×Int)):∀ (l:List rf3Rule) (k:Nat) (v:List Int) (B:Int),relsR l→in6 v B→0≤B→B+3 * l.length≤1000000 →
  QT K l k v=K (rndE (edgesR l) v)
 | [],k,v,B,_,_,_,_=>by rw[QT];rfl
 | r::l,k,v,B,hr,hv,hB,hl=>by
  have h1:=hr r (List.mem_cons_self ..)
  have hr':relsR l:=fun q hq=>hr q (List.mem_cons_of_mem _ hq)
  rw[List.length_cons]at hl
  have hE:∀ e,e∈r.qd.map (fun b=>edgeOf r.qf.qb b.qe.qb b.qn)→e.ok:=fun e h=>by
   obtain⟨c,hc,rfl⟩:=List.mem_map.1 h;exact XL h1.1 (h1.2.2 c hc)
  have hs:=in6_rnd hE hv hB;rw[List.length_map]at hs;rw[QT,chk_t (qC (by have:=h1.2.1;omega)),rf_l3 r h1.1 _ r.qd 0 v B h1.2.2 hv hB (by have:=h1.2.1;omega)];unfold rf3_Strata_j11;rw[rf_l2 K l (k+1) _ _ hr' hs (by omega) (by have:=h1.2.1;omega),← rnd_append];rfl
theorem YA (E:List Edge):∀ (n:Nat) (v:List Int),iterE E v (n+1)=rndE E (iterE E v n)
 | 0,v=>rfl
 | n+1,v=>by
  show iterE E (rndE E v) (n+1)=_;rw[YA E n];rfl
theorem rf_l1 (l:List rf3Rule) (K:List Int→Option (List Int×Int)) (hl:l.length≤10) (hr:relsR l):∀ (L:List Nat) (k:Nat) (v:List Int) (B:Int),in6 v B→0≤B→B+30 * L.length≤1000 * 1000 - 30 →
  QU l K L k v=K (iterE (edgesR l) v L.length)
 | [],k,v,B,_,_,_=>by rw[QU];rfl
 | x::L,k,v,B,hv,hB,hb=>by
  rw[List.length_cons]at hb;have hs:=in6_rnd (edgesR_ok hr) hv hB;have hlen:=edgesR_len hr;rw[QU,chk_t (qC (by omega)),rf_l2 _ l 0 v B hr hv hB (by omega)];unfold rf3_Strata_j8;rw[rf_l1 l K hl hr L (k+1) _ _ hs (by omega) (by omega)];rfl
end Go.AM
namespace Go.AM
open Go.Proofs
open Classical
theorem max_l1 {l:List Int} (hlen:l.length≤1000):∀ (n k m:Nat) (v:Int),k+n=l.length→n+1≤m→∃ M,jn l jF m v (k:Int)=some M∧v≤M∧(M=v∨M∈l)∧∀ i (h:i<l.length),k≤i→l[i]≤M
  | 0,k,m+1,v,hk,hm=>by
    refine⟨v,?_,Int.le_refl _,.inl rfl,fun i h1 h2=>absurd h1 (by omega)⟩;rw[jn,decide_eq_false (by omega)];rfl
  | n+1,k,m+1,v,hk,hm=>by
    have hkl:k<l.length:=by omega
    have hi:idx l (k:Int)=some l[k]:=by
      unfold idx
      simp[hkl]
    obtain⟨M,h1,h2,h3,h4⟩:=max_l1 hlen n (k+1) m (if l[k] > v then l[k] else v) (by omega) (by omega)
    have e:IntKind.wrap .i64 ((k:Int)+1)=((k+1:Nat):Int):=by rw[wrap64 (by omega) (by omega)];omega
    refine⟨M,?_,?_,?_,fun i g1 g2=>?_⟩
    · rw[jn,decide_eq_true (by omega:(k:Int)<(l.length:Int)),cond_true,hi]
      simp only[Option.bind_some];rw[e];exact h1
    · split at h2 <;> omega
    · rcases h3 with h3 | h3
      · split at h3
        · exact .inr (by rw[h3];exact List.getElem_mem _)
        · exact .inl h3
      · exact .inr h3
    · by_cases hik:i=k
      · subst hik
        split at h2 <;> omega
      · exact h4 i g1 (by omega)
theorem max6_val {fuel:Nat} (hf:10≤fuel) {l:List Int} (h6:l.length=6):∃ M,Jr fuel l=some M∧M∈l∧∀ i,i<6→l.getD i 0≤M:=by
  have hi:idx l 0=some l[0]:=by
    unfold idx
    simp[h6]
  obtain⟨M,h1,h2,h3,h4⟩:=max_l1 (l:=l) (by omega) 5 1 fuel l[0] (by omega) (by omega);refine⟨M,?_,?_,fun i hi6=>?_⟩
  · unfold Jr
    rw[decide_eq_false (by omega),cond_false,hi];exact h1
  · rcases h3 with h3 | h3
    · rw[h3];exact List.getElem_mem _
    · exact h3
  · rw[List.getD_eq_getElem?_getD,List.getElem?_eq_getElem (by omega)]
    show l[i]≤M
    by_cases h0:i=0
    · subst h0;exact h2
    · exact h4 i (by omega) (by omega)
theorem snap6 {v:List Int} (h:v.length=6):snap 0 (Int.toNat 6) v=v:=by
  unfold snap;rw[show Int.toNat 6=6 from rfl,List.drop_zero];exact List.take_of_length_le (by omega)
theorem iter_len (E:List Edge):∀ (n:Nat) (v:List Int),(iterE E v n).length=v.length
  | 0,v=>rfl
  | n+1,v=>by rw[YA,rndE_len,iter_len E n]
theorem iter_le {E:List Edge} (hE:∀ e,e∈E→e.ok) {v:List Int} (hv:v.length=6) {s:Nat}:∀ (t:Nat),s≤t→∀ i,(iterE E v s).getD i 0≤(iterE E v t).getD i 0
  | 0,h,i=>by
    have:s=0:=by omega
    subst this;exact Int.le_refl _
  | t+1,h,i=>by
    by_cases hs:s=t+1
    · subst hs;exact Int.le_refl _
    · have h1:=iter_le hE hv (s:=s) t (by omega) i
      have h2:=rndE_le hE (v:=iterE E v t) (by rw[iter_len,hv]) i;rw[YA];omega
theorem iter_fix {E:List Edge} {v:List Int} {s:Nat} (hs:rndE E (iterE E v s)=iterE E v s):∀ (t:Nat),s≤t→iterE E v t=iterE E v s
  | 0,h=>by
    have:s=0:=by omega
    subst this;rfl
  | t+1,h=>by
    by_cases he:s=t+1
    · subst he;rfl
    · rw[YA,iter_fix hs t (by omega),hs]
theorem iter_pre {E:List Edge} (hE:∀ e,e∈E→e.ok) {p:Nat→Int} (hp:preE E p) {v:List Int} (hv:v.length=6) (h:∀ i,v.getD i 0≤p i):∀ (n:Nat) (i:Nat),(iterE E v n).getD i 0≤p i
  | 0,i=>h i
  | n+1,i=>by
    rw[YA];exact rndE_pre hE hp (by rw[iter_len,hv]) (iter_pre hE hp hv h n) i
theorem sum6_le {v:List Int} (h:in6 v 6):sum6 v≤36:=by
  have:=h.2 0;have:=h.2 1;have:=h.2 2;have:=h.2 3;have:=h.2 4;have:=h.2 5;unfold sum6;omega
theorem in6_of {v:List Int} {B C:Int} (h:in6 v B) (hC:0≤C) (hm:∀ i,i<6→v.getD i 0≤C):in6 v C:=by
  refine⟨h.1,fun i=>⟨(h.2 i).1,?_⟩⟩
  by_cases hi:i<6
  · exact hm i hi
  · rw[List.getD_eq_getElem?_getD,List.getElem?_eq_none (by rw[h.1];omega)]
    exact hC
theorem ru_l1 {fuel:Nat} (hf:10≤fuel) {l:List ruRule} (hl:l.length≤10) (hr:relsU l):∀ (d m:Nat) (v:List Int) (c:Nat),in6 v 6→37≤sum6 v+d→d≤m→c+d≤100 →
    ∃ t,t≤d∧((qr fuel l m v (c:Int)=some (iterE (edgesU l) v t,true)∧rndE (edgesU l) (iterE (edgesU l) v t)=iterE (edgesU l) v t∧in6 (iterE (edgesU l) v t) 6)∨(qr fuel l m v (c:Int)=some ([],false)∧∃ i,i<6∧(iterE (edgesU l) v t).getD i 0 > 6))
  | 0,m,v,c,hv,hs,hm,hc=>by have:=sum6_le hv;omega
  | d+1,0,v,c,hv,hs,hm,hc=>by omega
  | d+1,m+1,v,c,hv,hs,hm,hc=>by
    have hE:=edgesU_ok hr;have hlen:=edgesU_len hr;obtain⟨ch,h1,h2⟩:=ru_l2 (qB fuel (c:Int) (qr fuel l m)) l 0 v false 6 hr hv (by omega) (by omega);have hw:=in6_rnd hE hv (by omega)
    have e0:qr fuel l (m+1) v (c:Int)=qB fuel (c:Int) (qr fuel l m) (rndE (edgesU l) v) ch:=by
      rw[qr,chk_t (qC (by omega)),h1]
    rw[e0];unfold qB;rw[snap6 hw.1]
    by_cases hfix:rndE (edgesU l) v=v
    · have:ch=false:=by
        cases ch with
        | false=>rfl
        | true =>
         rcases h2.1 rfl with h | h
         · cases h
         · exact absurd hfix h
      rw[this];refine⟨0,by omega,.inl ⟨?_,hfix,hv⟩⟩;show some (rndE (edgesU l) v,true)=some (v,true);rw[hfix]
    · have:ch=true:=h2.2 (.inr hfix)
      rw[this];simp only[Bool.not_true,cond_false];obtain⟨M,m1,m2,m3⟩:=max6_val hf hw.1;rw[m1];simp only[Option.bind_some]
      by_cases hM:M > 6
      · rw[decide_eq_true hM,cond_true]
        refine⟨1,by omega,.inr ⟨rfl,?_⟩⟩;obtain⟨i,hi,he⟩:=List.getElem_of_mem m2;refine⟨i,by rw[← hw.1];exact hi,?_⟩;show (rndE (edgesU l) v).getD i 0 > 6;rw[List.getD_eq_getElem?_getD,List.getElem?_eq_getElem hi];show (rndE (edgesU l) v)[i] > 6;omega
      · rw[decide_eq_false hM,cond_false]
        have hw6:in6 (rndE (edgesU l) v) 6:=in6_of hw (by omega) fun i hi=>by have:=m3 i hi;omega
        have hsum:=rndE_sum hE hv.1 hfix
        have ec:IntKind.wrap .i64 ((c:Int)+1)=((c+1:Nat):Int):=by rw[wrap64 (by omega) (by omega)];omega
        rw[ec];obtain⟨t,ht,h⟩:=ru_l1 hf hl hr d m (rndE (edgesU l) v) (c+1) hw6 (by omega) (by omega) (by omega);exact⟨t+1,by omega,h⟩
theorem rf_l4 {v:List Int} (hv:v.length=6) (K:Option (List Int×Int)):∀ (L:List Nat) (k:Nat),k+L.length=6→QS v K L k=if ∃ i,k≤i∧i<6∧v.getD i 0 > 5 then some ([],8) else K
  | [],k,h=>by
    rw[QS,if_neg]
    rintro⟨i,h1,h2,_⟩
    simp at h;omega
  | x::L,k,h=>by
    rw[List.length_cons]at h
    have hk:v[0+Int.toNat (k:Int)]? = some (v.getD k 0):=by
      rw[Nat.zero_add,Int.toNat_natCast,List.getD_eq_getElem?_getD,List.getElem?_eq_getElem (by omega)];rfl
    rw[QS,chk_t (decide_eq_true ⟨by omega,by rw[show (((Int.toNat 6):Nat):Int)=6 from rfl];omega⟩),hk];simp only[Option.bind_some]
    by_cases h5:v.getD k 0 > 5
    · rw[decide_eq_true h5,cond_true,if_pos ⟨k,by omega,by omega,h5⟩]
      rfl
    · rw[decide_eq_false h5,cond_false,rf_l4 hv K L (k+1) (by omega)]
      by_cases hq:∃ i,k+1≤i∧i<6∧v.getD i 0 > 5
      · rw[if_pos hq]
        obtain⟨i,a,b,c⟩:=hq;rw[if_pos ⟨i,by omega,b,c⟩]
      · rw[if_neg hq,if_neg]
        rintro⟨i,a,b,c⟩
        by_cases hik:i=k
        · subst hik;exact h5 c
        · exact hq ⟨i,by omega,b,c⟩
theorem rf_strata_val {l:List rf3Rule} (hl:l.length≤10) (hr:relsR l):Yu l=if ∃ i,i<6∧(iterE (edgesR l) (List.replicate 6 0) 60).getD i 0 > 5 then some ([],8) else some (iterE (edgesR l) (List.replicate 6 0) 60,0):=by
  have h0:in6 (List.replicate 6 (0:Int)) 0:=⟨by simp,fun i=>by
    rw[List.getD_eq_getElem?_getD,List.getElem?_replicate]
    split <;> simp⟩
  unfold Yu;rw[chk_t (by decide),chk_t (qC (by simp)),show (List.replicate (Int.toNat 6) (0:Int))=List.replicate 6 0 from rfl,rf_l1 l _ hl hr _ 0 _ 0 h0 (by omega) (by simp)];rw[show (List.range (Int.toNat 60)).length=60 by simp]
  have hlen:(iterE (edgesR l) (List.replicate 6 0) 60).length=6:=by rw[iter_len];simp
  unfold rf3_Strata_j5;rw[chk_t (qC (by simp)),rf_l4 hlen _ _ 0 (by simp)];unfold rf3_Strata_j31;rw[snap6 hlen]
  congr 1
  simp
theorem strata_same {fuel:Nat} (hf:100≤fuel) {l:List rf3Rule} {lu:List ruRule} (hl:l.length≤10) (hlu:lu.length≤10) (hr:relsR l) (hu:relsU lu) (he:edgesU lu=edgesR l) :
    (∃ v,in6 v 5∧preE (edgesR l) (fun i=>v.getD i 0)∧Yu l=some (v,0)∧QH fuel lu=some (v,true))∨(Yu l=some ([],8)∧QH fuel lu=some ([],false)):=by
  have h0:in6 (List.replicate 6 (0:Int)) 6:=⟨by simp,fun i=>by
    rw[List.getD_eq_getElem?_getD,List.getElem?_replicate]
    split <;> simp⟩
  have hE:=edgesR_ok hr
  have eu:QH fuel lu=qr fuel lu fuel (List.replicate 6 0) ((0:Nat):Int):=by
    unfold QH;rw[chk_t (by decide)];rfl
  obtain⟨t,ht,h⟩:=ru_l1 (by omega:10≤fuel) hlu hu 37 fuel (List.replicate 6 0) 0 h0 (by rw[show sum6 (List.replicate 6 0)=0 from rfl];omega) (by omega) (by omega);rw[he]at h;rw[eu,rf_strata_val hl hr]
  rcases h with ⟨h1,h2,h3⟩ | ⟨h1,i,h2,h3⟩
  · left
    rw[iter_fix h2 60 (by omega)];have hpre:=rndE_fix hE h3.1 h2
    have h5:=no_gap h3.1 (fun i=>(h3.2 i).1) hpre (fun p p0 hp i=>iter_pre hE hp (by simp) (fun i=>by
      have:=p0 i;rw[List.getD_eq_getElem?_getD,List.getElem?_replicate]
      split <;> simpa) t i) hE
    refine⟨_,⟨h3.1,fun i=>⟨(h3.2 i).1,h5 i⟩⟩,hpre,?_,h1⟩;rw[if_neg]
    rintro⟨i,hi,hg⟩
    have:=h5 i;omega
  · right
    refine⟨?_,h1⟩;have:=iter_le hE (v:=List.replicate 6 0) (by simp) 60 (show t≤60 by omega) i;rw[if_pos ⟨i,h2,by omega⟩]
end Go.AM
