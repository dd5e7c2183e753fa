/- s -/
import Derived.Test.YtdghpfejmlpjhaaRL6
set_option maxRecDepth 100000
set_option linter.unusedVariables false
set_option linter.unusedSimpArgs false
namespace Go.AM
open Go.Proofs
open Classical
def edgeOf (h b:Int) (n:Bool):Edge:=⟨h.toNat,b.toNat,if n then 1 else 0⟩
def edgesU (l:List ruRule):List Edge:=l.flatMap fun r=>r.qe.map fun b=>edgeOf r.qd.qb b.qc.qb b.qi
def edgesR (l:List rf3Rule):List Edge:=l.flatMap fun r=>r.qe.map fun b=>edgeOf r.qd.qb b.qc.qb b.qi
def rel6 (n:Int):Prop:=0≤n∧n≤5
def in6 (v:List Int) (B:Int):Prop:=v.length=6∧∀ i,0≤v.getD i 0∧v.getD i 0≤B
theorem YC {h b:Int} {n:Bool} (h1:rel6 h) (h2:rel6 b):(edgeOf h b n).ok:=by
 have:=h1.1;have:=h1.2;have:=h2.1;have:=h2.2
 refine⟨?_,?_,?_,?_⟩ <;> unfold edgeOf <;> dsimp only <;> first | omega | (split <;> omega)
theorem get6 {v:List Int} {B:Int} (hv:in6 v B) {n:Int} (h:rel6 n):v[0+Int.toNat n]? = some (v.getD n.toNat 0):=by
 have:=h.1;have:=h.2;rw[Nat.zero_add,List.getD_eq_getElem?_getD,List.getElem?_eq_getElem (by rw[hv.1];omega)];rfl
theorem upd6 {v:List Int} {B:Int} (hv:in6 v B) {n:Int} (h:rel6 n) (x:Int):upd v (0+Int.toNat n) x=some (v.set n.toNat x):=by
 have:=h.1;have:=h.2;unfold upd;rw[Nat.zero_add,if_pos (by rw[hv.1];omega)]
theorem set6 {v:List Int} {B:Int} (hv:in6 v B) {n:Nat}:v.set n (v.getD n 0)=v:=by
 refine List.ext_getElem (by simp) fun i h1 h2=>?_
 rw[List.getElem_set]
 split
 ·rename_i h;subst h;rw[List.getD_eq_getElem?_getD,List.getElem?_eq_getElem h2];rfl
 ·rfl
theorem qcv {v:List Int} {B:Int} (hv:in6 v B) (hB:0≤B) {e:Edge} (he:e.ok):in6 (stepE v e) (B+1):=by
 refine⟨by rw[Xv,hv.1],fun i=>?_⟩;have:=Dc (E:=[e]) (fun f hf=>by simp at hf;subst hf;exact he) hv.1 hB hv.2 i
 simpa[rndE] using this
theorem qfs {E:List Edge} (hE:∀ e,e∈E→e.ok) {e:Edge} (he:e.ok) {v:List Int} (hv:v.length=6):rndE (e::E) v=v↔stepE v e=v∧rndE E v=v:=by
 have e1:rndE (e::E) v=rndE E (stepE v e):=rfl
 constructor
 ·intro h
  have hs:stepE v e=v:=by
   refine VZ (by rw[Xv,hv]) hv fun i _=>?_
   have a:=HJ hv he i;have b:=VS hE (v:=stepE v e) (by rw[Xv,hv]) i;rw[← e1,h]at b;omega
  refine⟨hs,?_⟩;rw[e1,hs]at h;exact h
 ·rintro⟨h1,h2⟩
  rw[e1,h1,h2]
theorem Us (E F:List Edge) (v:List Int):rndE (E++F) v=rndE F (rndE E v):=List.foldl_append ..
theorem Db {E F:List Edge} (hE:∀ e,e∈E→e.ok) (hF:∀ e,e∈F→e.ok) {v:List Int} (hv:v.length=6):rndE (E++F) v=v↔rndE E v=v∧rndE F v=v:=by
 rw[Us]
 constructor
 ·intro h
  have hs:rndE E v=v:=by
   refine VZ (by rw[Vt,hv]) hv fun i _=>?_
   have a:=VS hE hv i;have b:=VS hF (v:=rndE E v) (by rw[Vt,hv]) i;rw[h]at b;omega
  refine⟨hs,?_⟩;rw[hs]at h;exact h
 ·rintro⟨h1,h2⟩
  rw[h1,h2]
theorem relDec {n:Int} (h:rel6 n):decide ((0:Int)≤n∧n<(((Int.toNat 6):Nat):Int))=true:=by
 have:=h.1;have:=h.2;refine decide_eq_true ⟨by omega,?_⟩;rw[show (((Int.toNat 6):Nat):Int)=6 from rfl];omega
theorem qfB (x2:ruRule) (hx:rel6 x2.qd.qb) (K:List Int→Bool→Option (List Int×Bool)):∀ (body:List ruLit) (k:Nat) (v:List Int) (ch:Bool) (B:Int),(∀ b,b∈body→rel6 b.qc.qb)→in6 v B→0≤B→B+body.length≤1000000 →
  ∃ c,jy x2 K body k v ch=K (rndE (body.map fun b=>edgeOf x2.qd.qb b.qc.qb b.qi) v) c∧(c=true↔ch=true∨rndE (body.map fun b=>edgeOf x2.qd.qb b.qc.qb b.qi) v≠v)
 | [],k,v,ch,B,_,_,_,_=>⟨ch,by rw[jy];rfl,by simp[rndE]⟩
 | b::body,k,v,ch,B,hb,hv,hB,hl=>by
  have hbb:=hb b (List.mem_cons_self ..)
  have hb':∀ c,c∈body→rel6 c.qc.qb:=fun c hc=>hb c (List.mem_cons_of_mem _ hc)
  rw[List.length_cons]at hl;have he:=YC (n:=b.qi) hx hbb
  have hE:∀ e,e∈body.map (fun b=>edgeOf x2.qd.qb b.qc.qb b.qi)→e.ok:=fun e h=>by
   obtain⟨c,hc,rfl⟩:=List.mem_map.1 h;exact YC hx (hb' c hc)
  have hs:=qcv hv hB he
  have key:∀ w:Int,w=v.getD b.qc.qb.toNat 0+(edgeOf x2.qd.qb b.qc.qb b.qi).d→∃ c,QG x2 v ch (JQ (jy x2 K body (k+1))) w=K (rndE ((b::body).map fun b=>edgeOf x2.qd.qb b.qc.qb b.qi) v) c∧(c=true↔ch=true∨rndE ((b::body).map fun b=>edgeOf x2.qd.qb b.qc.qb b.qi) v≠v):=fun w hw=>by
   unfold QG JQ;rw[Vj (relDec hx),get6 hv hx];simp only[Option.bind_some];rw[List.map_cons]
   by_cases hgt:w > v.getD x2.qd.qb.toNat 0
   ·rw[decide_eq_true hgt,cond_true,Vj (relDec hx),upd6 hv hx];simp only[Option.bind_some]
    have es:v.set x2.qd.qb.toNat w=stepE v (edgeOf x2.qd.qb b.qc.qb b.qi):=by
     show _=v.set x2.qd.qb.toNat (if v.getD b.qc.qb.toNat 0+_ > v.getD x2.qd.qb.toNat 0 then _ else _);rw[if_pos (by rw[← hw];exact hgt),hw];rfl
    rw[es];obtain⟨c,h1,h2⟩:=qfB x2 hx K body (k+1) (stepE v (edgeOf x2.qd.qb b.qc.qb b.qi)) true (B+1) hb' hs (by omega) (by omega);refine⟨c,h1,?_⟩;have hc:c=true:=h2.2 (.inl rfl);refine⟨fun _=>.inr fun hf=>?_,fun _=>hc⟩;have hf:=((qfs hE he hv.1).1 hf).1;have:=congrArg (fun z=>z.getD x2.qd.qb.toNat 0) hf;replace this:(stepE v (edgeOf x2.qd.qb b.qc.qb b.qi)).getD x2.qd.qb.toNat 0=v.getD x2.qd.qb.toNat 0:=this;rw[ZE hv.1 he,if_pos (show x2.qd.qb.toNat=(edgeOf x2.qd.qb b.qc.qb b.qi).h from rfl)]at this;replace this:(if v.getD b.qc.qb.toNat 0+(edgeOf x2.qd.qb b.qc.qb b.qi).d > v.getD x2.qd.qb.toNat 0 then v.getD b.qc.qb.toNat 0+(edgeOf x2.qd.qb b.qc.qb b.qi).d else v.getD x2.qd.qb.toNat 0)=v.getD x2.qd.qb.toNat 0:=this;rw[← hw,if_pos hgt]at this;omega
   ·rw[decide_eq_false hgt,cond_false]
    have es:stepE v (edgeOf x2.qd.qb b.qc.qb b.qi)=v:=by
     show v.set x2.qd.qb.toNat (if v.getD b.qc.qb.toNat 0+_ > v.getD x2.qd.qb.toNat 0 then _ else _)=v;rw[if_neg (by rw[← hw];exact hgt)];exact set6 hv
    obtain⟨c,h1,h2⟩:=qfB x2 hx K body (k+1) v ch B hb' hv hB (by omega);refine⟨c,?_,?_⟩
    ·rw[h1];show _=K (rndE _ (stepE v _)) c;rw[es]
    ·rw[h2];show _↔ch=true∨rndE _ (stepE v _)≠v;rw[es]
  rw[jy,Vj (relDec hbb),get6 hv hbb];simp only[Option.bind_some];have hg:=hv.2 b.qc.qb.toNat
  cases hn:b.qi with
  | true =>
   rw[cond_true]
   have hw:IntKind.wrap .i64 (v.getD b.qc.qb.toNat 0+1)=v.getD b.qc.qb.toNat 0+(edgeOf x2.qd.qb b.qc.qb b.qi).d:=by
    rw[wrap64 (by omega) (by omega),hn];rfl
   have:=key _ hw;rw[List.map_cons,hn]at this;rw[List.map_cons,hn];exact this
  | false =>
   rw[cond_false]
   have hw:v.getD b.qc.qb.toNat 0=v.getD b.qc.qb.toNat 0+(edgeOf x2.qd.qb b.qc.qb b.qi).d:=by
    rw[hn];show _=_+(0:Int);omega
   have:=key _ hw;rw[List.map_cons,hn]at this;rw[List.map_cons,hn];exact this
theorem qgS (x2:rf3Rule) (hx:rel6 x2.qd.qb) (K:List Int→Option (List Int×Int)):∀ (body:List rf3Lit) (k:Nat) (v:List Int) (B:Int),(∀ b,b∈body→rel6 b.qc.qb)→in6 v B→0≤B→B+body.length≤1000000 →
  jD x2 K body k v=K (rndE (body.map fun b=>edgeOf x2.qd.qb b.qc.qb b.qi) v)
 | [],k,v,B,_,_,_,_=>by rw[jD];rfl
 | b::body,k,v,B,hb,hv,hB,hl=>by
  have hbb:=hb b (List.mem_cons_self ..)
  have hb':∀ c,c∈body→rel6 c.qc.qb:=fun c hc=>hb c (List.mem_cons_of_mem _ hc)
  rw[List.length_cons]at hl;have he:=YC (n:=b.qi) hx hbb;have hs:=qcv hv hB he
  have key:∀ w:Int,w=v.getD b.qc.qb.toNat 0+(edgeOf x2.qd.qb b.qc.qb b.qi).d→Qt x2 v (jD x2 K body (k+1)) w=K (rndE ((b::body).map fun b=>edgeOf x2.qd.qb b.qc.qb b.qi) v):=fun w hw=>by
   unfold Qt;rw[Vj (relDec hx),get6 hv hx];simp only[Option.bind_some];rw[Vj (relDec hx),upd6 hv hx];simp only[Option.bind_some];rw[hw];exact qgS x2 hx K body (k+1) (stepE v (edgeOf x2.qd.qb b.qc.qb b.qi)) (B+1) hb' hs (by omega) (by omega)
  rw[jD,Vj (relDec hbb),get6 hv hbb];simp only[Option.bind_some];have hg:=hv.2 b.qc.qb.toNat
  cases hn:b.qi with
  | true =>
   rw[cond_true]
   have hw:IntKind.wrap .i64 (v.getD b.qc.qb.toNat 0+1)=v.getD b.qc.qb.toNat 0+(edgeOf x2.qd.qb b.qc.qb b.qi).d:=by
    rw[wrap64 (by omega) (by omega),hn];rfl
   exact key _ hw
  | false =>
   rw[cond_false]
   have hw:v.getD b.qc.qb.toNat 0=v.getD b.qc.qb.toNat 0+(edgeOf x2.qd.qb b.qc.qb b.qi).d:=by
    rw[hn];show _=_+(0:Int);omega
   exact key _ hw
def relsU (l:List ruRule):Prop:=∀ r,r∈l→rel6 r.qd.qb∧r.qe.length≤3∧∀ b,b∈r.qe→rel6 b.qc.qb
def relsR (l:List rf3Rule):Prop:=∀ r,r∈l→rel6 r.qd.qb∧r.qe.length≤3∧∀ b,b∈r.qe→rel6 b.qc.qb
theorem qaK {l:List ruRule} (h:relsU l):∀ e,e∈edgesU l→e.ok:=fun e he=>by
 obtain⟨r,hr,he⟩:=List.mem_flatMap.1 he;obtain⟨b,hb,rfl⟩:=List.mem_map.1 he;exact YC (h r hr).1 ((h r hr).2.2 b hb)
theorem qaL {l:List rf3Rule} (h:relsR l):∀ e,e∈edgesR l→e.ok:=fun e he=>by
 obtain⟨r,hr,he⟩:=List.mem_flatMap.1 he;obtain⟨b,hb,rfl⟩:=List.mem_map.1 he;exact YC (h r hr).1 ((h r hr).2.2 b hb)
theorem qdI {l:List ruRule} (h:relsU l):(edgesU l).length≤3 * l.length:=by
 induction l with
 | nil=>simp[edgesU]
 | cons r l ih =>
  have:=ih fun q hq=>h q (List.mem_cons_of_mem _ hq)
  have h1:=(h r (List.mem_cons_self ..)).2.1;have e:edgesU (r::l)=(r.qe.map fun b=>edgeOf r.qd.qb b.qc.qb b.qi)++edgesU l:=rfl;rw[e,List.length_append,List.length_map,List.length_cons];omega
theorem qdJ {l:List rf3Rule} (h:relsR l):(edgesR l).length≤3 * l.length:=by
 induction l with
 | nil=>simp[edgesR]
 | cons r l ih =>
  have:=ih fun q hq=>h q (List.mem_cons_of_mem _ hq)
  have h1:=(h r (List.mem_cons_self ..)).2.1;have e:edgesR (r::l)=(r.qe.map fun b=>edgeOf r.qd.qb b.qc.qb b.qi)++edgesR l:=rfl;rw[e,List.length_append,List.length_map,List.length_cons];omega
theorem Hy {E:List Edge} (hE:∀ e,e∈E→e.ok) {v:List Int} {B:Int} (hv:in6 v B) (hB:0≤B):in6 (rndE E v) (B+E.length) :=
 ⟨by rw[Vt,hv.1],Dc hE hv.1 hB hv.2⟩
theorem qgO (K:List Int→Bool→Option (List Int×Bool)):∀ (l:List ruRule) (k:Nat) (v:List Int) (ch:Bool) (B:Int),relsU l→in6 v B→0≤B→B+3 * l.length≤1000000 →
  ∃ c,qR K l k v ch=K (rndE (edgesU l) v) c∧(c=true↔ch=true∨rndE (edgesU l) v≠v)
 | [],k,v,ch,B,_,_,_,_=>⟨ch,by rw[qR];rfl,by simp[rndE,edgesU]⟩
 | r::l,k,v,ch,B,hr,hv,hB,hl=>by
  have h1:=hr r (List.mem_cons_self ..)
  have hr':relsU l:=fun q hq=>hr q (List.mem_cons_of_mem _ hq)
  rw[List.length_cons]at hl;rw[qR,Vj (jh (by have:=h1.2.1;omega))]
  have hE:∀ e,e∈r.qe.map (fun b=>edgeOf r.qd.qb b.qc.qb b.qi)→e.ok:=fun e h=>by
   obtain⟨c,hc,rfl⟩:=List.mem_map.1 h;exact YC h1.1 (h1.2.2 c hc)
  obtain⟨c,e1,e2⟩:=qfB r h1.1 (jL (qR K l (k+1))) r.qe 0 v ch B h1.2.2 hv hB (by have:=h1.2.1;omega);rw[e1];unfold jL;have hs:=Hy hE hv hB;rw[List.length_map]at hs;obtain⟨d,e3,e4⟩:=qgO K l (k+1) _ c _ hr' hs (by omega) (by have:=h1.2.1;omega);have e:edgesU (r::l)=(r.qe.map fun b=>edgeOf r.qd.qb b.qc.qb b.qi)++edgesU l:=rfl;refine⟨d,by rw[e3,e,Us],?_⟩;rw[e4,e2,e,show (rndE ((r.qe.map fun b=>edgeOf r.qd.qb b.qc.qb b.qi)++edgesU l) v≠v↔¬ (_∧_)) from not_congr (Db hE (qaK hr') hv.1)]
  by_cases hf:rndE (r.qe.map fun b=>edgeOf r.qd.qb b.qc.qb b.qi) v=v
  ·rw[hf]
   simp
  ·simp[hf]
theorem qgT (K:List Int→Option (List Int×Int)):∀ (l:List rf3Rule) (k:Nat) (v:List Int) (B:Int),relsR l→in6 v B→0≤B→B+3 * l.length≤1000000 →
  jc K l k v=K (rndE (edgesR l) v)
 | [],k,v,B,_,_,_,_=>by rw[jc];rfl
 | r::l,k,v,B,hr,hv,hB,hl=>by
  have h1:=hr r (List.mem_cons_self ..)
  have hr':relsR l:=fun q hq=>hr q (List.mem_cons_of_mem _ hq)
  rw[List.length_cons]at hl
  have hE:∀ e,e∈r.qe.map (fun b=>edgeOf r.qd.qb b.qc.qb b.qi)→e.ok:=fun e h=>by
   obtain⟨c,hc,rfl⟩:=List.mem_map.1 h;exact YC h1.1 (h1.2.2 c hc)
  have hs:=Hy hE hv hB;rw[List.length_map]at hs;rw[jc,Vj (jh (by have:=h1.2.1;omega)),qgS r h1.1 _ r.qe 0 v B h1.2.2 hv hB (by have:=h1.2.1;omega)];unfold Jl;rw[qgT K l (k+1) _ _ hr' hs (by omega) (by have:=h1.2.1;omega),← Us];rfl
theorem Zh (E:List Edge):∀ (n:Nat) (v:List Int),iterE E v (n+1)=rndE E (iterE E v n)
 | 0,v=>rfl
 | n+1,v=>by
  show iterE E (rndE E v) (n+1)=_;rw[Zh E n];rfl
theorem qgU (l:List rf3Rule) (K:List Int→Option (List Int×Int)) (hl:l.length≤10) (hr:relsR l):∀ (L:List Nat) (k:Nat) (v:List Int) (B:Int),in6 v B→0≤B→B+30 * L.length≤1000 * 1000 - 30 →
  qx l K L k v=K (iterE (edgesR l) v L.length)
 | [],k,v,B,_,_,_=>by rw[qx];rfl
 | x::L,k,v,B,hv,hB,hb=>by
  rw[List.length_cons]at hb;have hs:=Hy (qaL hr) hv hB;have hlen:=qdJ hr;rw[qx,Vj (jh (by omega)),qgT _ l 0 v B hr hv hB (by omega)];unfold jv;rw[qgU l K hl hr L (k+1) _ _ hs (by omega) (by omega)];rfl
end Go.AM
namespace Go.AM
open Go.Proofs
open Classical
theorem qfO {l:List Int} (hlen:l.length≤1000):∀ (n k m:Nat) (v:Int),k+n=l.length→n+1≤m→∃ M,jY l Ju m v (k:Int)=some M∧v≤M∧(M=v∨M∈l)∧∀ i (h:i<l.length),k≤i→l[i]≤M
  | 0,k,m+1,v,hk,hm=>by
    refine⟨v,?_,Int.le_refl _,.inl rfl,fun i h1 h2=>absurd h1 (by omega)⟩;rw[jY,decide_eq_false (by omega)];rfl
  | n+1,k,m+1,v,hk,hm=>by
    have hkl:k<l.length:=by omega
    have hi:idx l (k:Int)=some l[k]:=by
      unfold idx
      simp[hkl]
    obtain⟨M,h1,h2,h3,h4⟩:=qfO hlen n (k+1) m (if l[k] > v then l[k] else v) (by omega) (by omega)
    have e:IntKind.wrap .i64 ((k:Int)+1)=((k+1:Nat):Int):=by rw[wrap64 (by omega) (by omega)];omega
    refine⟨M,?_,?_,?_,fun i g1 g2=>?_⟩
    · rw[jY,decide_eq_true (by omega:(k:Int)<(l.length:Int)),cond_true,hi]
      simp only[Option.bind_some];rw[e];exact h1
    · split at h2 <;> omega
    · rcases h3 with h3 | h3
      · split at h3
        · exact .inr (by rw[h3];exact List.getElem_mem _)
        · exact .inl h3
      · exact .inr h3
    · by_cases hik:i=k
      · subst hik
        split at h2 <;> omega
      · exact h4 i g1 (by omega)
theorem qfP {fuel:Nat} (hf:10≤fuel) {l:List Int} (h6:l.length=6):∃ M,JZ fuel l=some M∧M∈l∧∀ i,i<6→l.getD i 0≤M:=by
  have hi:idx l 0=some l[0]:=by
    unfold idx
    simp[h6]
  obtain⟨M,h1,h2,h3,h4⟩:=qfO (l:=l) (by omega) 5 1 fuel l[0] (by omega) (by omega);refine⟨M,?_,?_,fun i hi6=>?_⟩
  · unfold JZ
    rw[decide_eq_false (by omega),cond_false,hi];exact h1
  · rcases h3 with h3 | h3
    · rw[h3];exact List.getElem_mem _
    · exact h3
  · rw[List.getD_eq_getElem?_getD,List.getElem?_eq_getElem (by omega)]
    show l[i]≤M
    by_cases h0:i=0
    · subst h0;exact h2
    · exact h4 i (by omega) (by omega)
theorem snap6 {v:List Int} (h:v.length=6):snap 0 (Int.toNat 6) v=v:=by
  unfold snap;rw[show Int.toNat 6=6 from rfl,List.drop_zero];exact List.take_of_length_le (by omega)
theorem UZ (E:List Edge):∀ (n:Nat) (v:List Int),(iterE E v n).length=v.length
  | 0,v=>rfl
  | n+1,v=>by rw[Zh,Vt,UZ E n]
theorem qen {E:List Edge} (hE:∀ e,e∈E→e.ok) {v:List Int} (hv:v.length=6) {s:Nat}:∀ (t:Nat),s≤t→∀ i,(iterE E v s).getD i 0≤(iterE E v t).getD i 0
  | 0,h,i=>by
    have:s=0:=by omega
    subst this;exact Int.le_refl _
  | t+1,h,i=>by
    by_cases hs:s=t+1
    · subst hs;exact Int.le_refl _
    · have h1:=qen hE hv (s:=s) t (by omega) i
      have h2:=VS hE (v:=iterE E v t) (by rw[UZ,hv]) i;rw[Zh];omega
theorem qcs {E:List Edge} {v:List Int} {s:Nat} (hs:rndE E (iterE E v s)=iterE E v s):∀ (t:Nat),s≤t→iterE E v t=iterE E v s
  | 0,h=>by
    have:s=0:=by omega
    subst this;rfl
  | t+1,h=>by
    by_cases he:s=t+1
    · subst he;rfl
    · rw[Zh,qcs hs t (by omega),hs]
theorem qcr {E:List Edge} (hE:∀ e,e∈E→e.ok) {p:Nat→Int} (hp:preE E p) {v:List Int} (hv:v.length=6) (h:∀ i,v.getD i 0≤p i):∀ (n:Nat) (i:Nat),(iterE E v n).getD i 0≤p i
  | 0,i=>h i
  | n+1,i=>by
    rw[Zh];exact qfE hE hp (by rw[UZ,hv]) (qcr hE hp hv h n) i
theorem qgB {v:List Int} (h:in6 v 6):sum6 v≤36:=by
  have:=h.2 0;have:=h.2 1;have:=h.2 2;have:=h.2 3;have:=h.2 4;have:=h.2 5;unfold sum6;omega
theorem qha {v:List Int} {B C:Int} (h:in6 v B) (hC:0≤C) (hm:∀ i,i<6→v.getD i 0≤C):in6 v C:=by
  refine⟨h.1,fun i=>⟨(h.2 i).1,?_⟩⟩
  by_cases hi:i<6
  · exact hm i hi
  · rw[List.getD_eq_getElem?_getD,List.getElem?_eq_none (by rw[h.1];omega)]
    exact hC
theorem qgP {fuel:Nat} (hf:10≤fuel) {l:List ruRule} (hl:l.length≤10) (hr:relsU l):∀ (d m:Nat) (v:List Int) (c:Nat),in6 v 6→37≤sum6 v+d→d≤m→c+d≤100 →
    ∃ t,t≤d∧((qv fuel l m v (c:Int)=some (iterE (edgesU l) v t,true)∧rndE (edgesU l) (iterE (edgesU l) v t)=iterE (edgesU l) v t∧in6 (iterE (edgesU l) v t) 6)∨(qv fuel l m v (c:Int)=some ([],false)∧∃ i,i<6∧(iterE (edgesU l) v t).getD i 0 > 6))
  | 0,m,v,c,hv,hs,hm,hc=>by have:=qgB hv;omega
  | d+1,0,v,c,hv,hs,hm,hc=>by omega
  | d+1,m+1,v,c,hv,hs,hm,hc=>by
    have hE:=qaK hr;have hlen:=qdI hr;obtain⟨ch,h1,h2⟩:=qgO (qO fuel (c:Int) (qv fuel l m)) l 0 v false 6 hr hv (by omega) (by omega);have hw:=Hy hE hv (by omega)
    have e0:qv fuel l (m+1) v (c:Int)=qO fuel (c:Int) (qv fuel l m) (rndE (edgesU l) v) ch:=by
      rw[qv,Vj (jh (by omega)),h1]
    rw[e0];unfold qO;rw[snap6 hw.1]
    by_cases hfix:rndE (edgesU l) v=v
    · have:ch=false:=by
        cases ch with
        | false=>rfl
        | true =>
         rcases h2.1 rfl with h | h
         · cases h
         · exact absurd hfix h
      rw[this];refine⟨0,by omega,.inl ⟨?_,hfix,hv⟩⟩;show some (rndE (edgesU l) v,true)=some (v,true);rw[hfix]
    · have:ch=true:=h2.2 (.inr hfix)
      rw[this];simp only[Bool.not_true,cond_false];obtain⟨M,m1,m2,m3⟩:=qfP hf hw.1;rw[m1];simp only[Option.bind_some]
      by_cases hM:M > 6
      · rw[decide_eq_true hM,cond_true]
        refine⟨1,by omega,.inr ⟨rfl,?_⟩⟩;obtain⟨i,hi,he⟩:=List.getElem_of_mem m2;refine⟨i,by rw[← hw.1];exact hi,?_⟩;show (rndE (edgesU l) v).getD i 0 > 6;rw[List.getD_eq_getElem?_getD,List.getElem?_eq_getElem hi];show (rndE (edgesU l) v)[i] > 6;omega
      · rw[decide_eq_false hM,cond_false]
        have hw6:in6 (rndE (edgesU l) v) 6:=qha hw (by omega) fun i hi=>by have:=m3 i hi;omega
        have hsum:=qfD hE hv.1 hfix
        have ec:IntKind.wrap .i64 ((c:Int)+1)=((c+1:Nat):Int):=by rw[wrap64 (by omega) (by omega)];omega
        rw[ec];obtain⟨t,ht,h⟩:=qgP hf hl hr d m (rndE (edgesU l) v) (c+1) hw6 (by omega) (by omega) (by omega);exact⟨t+1,by omega,h⟩
theorem qgR {v:List Int} (hv:v.length=6) (K:Option (List Int×Int)):∀ (L:List Nat) (k:Nat),k+L.length=6→Jw v K L k=if ∃ i,k≤i∧i<6∧v.getD i 0 > 5 then some ([],8) else K
  | [],k,h=>by
    rw[Jw,if_neg]
    rintro⟨i,h1,h2,_⟩
    simp at h;omega
  | x::L,k,h=>by
    rw[List.length_cons]at h
    have hk:v[0+Int.toNat (k:Int)]? = some (v.getD k 0):=by
      rw[Nat.zero_add,Int.toNat_natCast,List.getD_eq_getElem?_getD,List.getElem?_eq_getElem (by omega)];rfl
    rw[Jw,Vj (decide_eq_true ⟨by omega,by rw[show (((Int.toNat 6):Nat):Int)=6 from rfl];omega⟩),hk];simp only[Option.bind_some]
    by_cases h5:v.getD k 0 > 5
    · rw[decide_eq_true h5,cond_true,if_pos ⟨k,by omega,by omega,h5⟩]
      rfl
    · rw[decide_eq_false h5,cond_false,qgR hv K L (k+1) (by omega)]
      by_cases hq:∃ i,k+1≤i∧i<6∧v.getD i 0 > 5
      · rw[if_pos hq]
        obtain⟨i,a,b,c⟩:=hq;rw[if_pos ⟨i,by omega,b,c⟩]
      · rw[if_neg hq,if_neg]
        rintro⟨i,a,b,c⟩
        by_cases hik:i=k
        · subst hik;exact h5 c
        · exact hq ⟨i,by omega,b,c⟩
theorem DO {l:List rf3Rule} (hl:l.length≤10) (hr:relsR l):QV l=if ∃ i,i<6∧(iterE (edgesR l) (List.replicate 6 0) 60).getD i 0 > 5 then some ([],8) else some (iterE (edgesR l) (List.replicate 6 0) 60,0):=by
  have h0:in6 (List.replicate 6 (0:Int)) 0:=⟨by simp,fun i=>by
    rw[List.getD_eq_getElem?_getD,List.getElem?_replicate]
    split <;> simp⟩
  unfold QV;rw[Vj (by decide),Vj (jh (by simp)),show (List.replicate (Int.toNat 6) (0:Int))=List.replicate 6 0 from rfl,qgU l _ hl hr _ 0 _ 0 h0 (by omega) (by simp)];rw[show (List.range (Int.toNat 60)).length=60 by simp]
  have hlen:(iterE (edgesR l) (List.replicate 6 0) 60).length=6:=by rw[UZ];simp
  unfold qJ;rw[Vj (jh (by simp)),qgR hlen _ _ 0 (by simp)];unfold JW;rw[snap6 hlen]
  congr 1
  simp
theorem qbR {fuel:Nat} (hf:100≤fuel) {l:List rf3Rule} {lu:List ruRule} (hl:l.length≤10) (hlu:lu.length≤10) (hr:relsR l) (hu:relsU lu) (he:edgesU lu=edgesR l) :
    (∃ v,in6 v 5∧preE (edgesR l) (fun i=>v.getD i 0)∧QV l=some (v,0)∧Xz fuel lu=some (v,true))∨(QV l=some ([],8)∧Xz fuel lu=some ([],false)):=by
  have h0:in6 (List.replicate 6 (0:Int)) 6:=⟨by simp,fun i=>by
    rw[List.getD_eq_getElem?_getD,List.getElem?_replicate]
    split <;> simp⟩
  have hE:=qaL hr
  have eu:Xz fuel lu=qv fuel lu fuel (List.replicate 6 0) ((0:Nat):Int):=by
    unfold Xz;rw[Vj (by decide)];rfl
  obtain⟨t,ht,h⟩:=qgP (by omega:10≤fuel) hlu hu 37 fuel (List.replicate 6 0) 0 h0 (by rw[show sum6 (List.replicate 6 0)=0 from rfl];omega) (by omega) (by omega);rw[he]at h;rw[eu,DO hl hr]
  rcases h with ⟨h1,h2,h3⟩ | ⟨h1,i,h2,h3⟩
  · left
    rw[qcs h2 60 (by omega)];have hpre:=qfF hE h3.1 h2
    have h5:=qgZ h3.1 (fun i=>(h3.2 i).1) hpre (fun p p0 hp i=>qcr hE hp (by simp) (fun i=>by
      have:=p0 i;rw[List.getD_eq_getElem?_getD,List.getElem?_replicate]
      split <;> simpa) t i) hE
    refine⟨_,⟨h3.1,fun i=>⟨(h3.2 i).1,h5 i⟩⟩,hpre,?_,h1⟩;rw[if_neg]
    rintro⟨i,hi,hg⟩
    have:=h5 i;omega
  · right
    refine⟨?_,h1⟩;have:=qen hE (v:=List.replicate 6 0) (by simp) 60 (show t≤60 by omega) i;rw[if_pos ⟨i,h2,by omega⟩]
end Go.AM
