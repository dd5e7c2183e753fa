/- s -/
import Derived.Test.YtdghpfejmlpjhaaRL6
set_option maxRecDepth 100000
set_option linter.unusedVariables false
set_option linter.unusedSimpArgs false
namespace Go.AM
open Go.Proofs
open Classical
def edgeOf (h b:Int) (n:Bool):Edge:=⟨h.toNat,b.toNat,if n then 1 else 0⟩
def edgesU (l:List ruRule):List Edge:=l.flatMap fun r=>r.qe.map fun b=>edgeOf r.qf.qb b.qd.qb b.qp
def edgesR (l:List rf3Rule):List Edge:=l.flatMap fun r=>r.qe.map fun b=>edgeOf r.qf.qb b.qd.qb b.qp
def rel6 (n:Int):Prop:=0≤n∧n≤5
def in6 (v:List Int) (B:Int):Prop:=v.length=6∧∀ i,0≤v.getD i 0∧v.getD i 0≤B
theorem UJ {h b:Int} {n:Bool} (h1:rel6 h) (h2:rel6 b):(edgeOf h b n).ok:=by
 have:=h1.1;have:=h1.2;have:=h2.1;have:=h2.2
 refine⟨?_,?_,?_,?_⟩ <;> unfold edgeOf <;> dsimp only <;> first | omega | (split <;> omega)
theorem get6 {v:List Int} {B:Int} (hv:in6 v B) {n:Int} (h:rel6 n):v[0+Int.toNat n]? = some (v.getD n.toNat 0):=by
 have:=h.1;have:=h.2;rw[Nat.zero_add,List.getD_eq_getElem?_getD,List.getElem?_eq_getElem (by rw[hv.1];omega)];rfl
theorem upd6 {v:List Int} {B:Int} (hv:in6 v B) {n:Int} (h:rel6 n) (x:Int):upd v (0+Int.toNat n) x=some (v.set n.toNat x):=by
 have:=h.1;have:=h.2;unfold upd;rw[Nat.zero_add,if_pos (by rw[hv.1];omega)]
theorem set6 {v:List Int} {B:Int} (hv:in6 v B) {n:Nat}:v.set n (v.getD n 0)=v:=by
 refine List.ext_getElem (by simp) fun i h1 h2=>?_
 rw[List.getElem_set]
 split
 ·rename_i h;subst h;rw[List.getD_eq_getElem?_getD,List.getElem?_eq_getElem h2];rfl
 ·rfl
theorem qhy {v:List Int} {B:Int} (hv:in6 v B) (hB:0≤B) {e:Edge} (he:e.ok):in6 (stepE v e) (B+1):=by
 refine⟨by rw[YY,hv.1],fun i=>?_⟩;have:=qaa (E:=[e]) (fun f hf=>by simp at hf;subst hf;exact he) hv.1 hB hv.2 i
 simpa[rndE] using this
theorem qgU {E:List Edge} (hE:∀ e,e∈E→e.ok) {e:Edge} (he:e.ok) {v:List Int} (hv:v.length=6):rndE (e::E) v=v↔stepE v e=v∧rndE E v=v:=by
 have e1:rndE (e::E) v=rndE E (stepE v e):=rfl
 constructor
 ·intro h
  have hs:stepE v e=v:=by
   refine qbz (by rw[YY,hv]) hv fun i _=>?_
   have a:=qdf hv he i;have b:=qcx hE (v:=stepE v e) (by rw[YY,hv]) i;rw[← e1,h]at b;omega
  refine⟨hs,?_⟩;rw[e1,hs]at h;exact h
 ·rintro⟨h1,h2⟩
  rw[e1,h1,h2]
theorem DY (E F:List Edge) (v:List Int):rndE (E++F) v=rndE F (rndE E v):=List.foldl_append ..
theorem DX {E F:List Edge} (hE:∀ e,e∈E→e.ok) (hF:∀ e,e∈F→e.ok) {v:List Int} (hv:v.length=6):rndE (E++F) v=v↔rndE E v=v∧rndE F v=v:=by
 rw[DY]
 constructor
 ·intro h
  have hs:rndE E v=v:=by
   refine qbz (by rw[DZ,hv]) hv fun i _=>?_
   have a:=qcx hE hv i;have b:=qcx hF (v:=rndE E v) (by rw[DZ,hv]) i;rw[h]at b;omega
  refine⟨hs,?_⟩;rw[hs]at h;exact h
 ·rintro⟨h1,h2⟩
  rw[h1,h2]
theorem relDec {n:Int} (h:rel6 n):decide ((0:Int)≤n∧n<(((Int.toNat 6):Nat):Int))=true:=by
 have:=h.1;have:=h.2;refine decide_eq_true ⟨by omega,?_⟩;rw[show (((Int.toNat 6):Nat):Int)=6 from rfl];omega
theorem qhd (x2:ruRule) (hx:rel6 x2.qf.qb) (K:List Int→Bool→Option (List Int×Bool)):∀ (body:List ruLit) (k:Nat) (v:List Int) (ch:Bool) (B:Int),(∀ b,b∈body→rel6 b.qd.qb)→in6 v B→0≤B→B+body.length≤1000000 →
  ∃ c,jp x2 K body k v ch=K (rndE (body.map fun b=>edgeOf x2.qf.qb b.qd.qb b.qp) v) c∧(c=true↔ch=true∨rndE (body.map fun b=>edgeOf x2.qf.qb b.qd.qb b.qp) v≠v)
 | [],k,v,ch,B,_,_,_,_=>⟨ch,by rw[jp];rfl,by simp[rndE]⟩
 | b::body,k,v,ch,B,hb,hv,hB,hl=>by
  have hbb:=hb b (List.mem_cons_self ..)
  have hb':∀ c,c∈body→rel6 c.qd.qb:=fun c hc=>hb c (List.mem_cons_of_mem _ hc)
  rw[List.length_cons]at hl;have he:=UJ (n:=b.qp) hx hbb
  have hE:∀ e,e∈body.map (fun b=>edgeOf x2.qf.qb b.qd.qb b.qp)→e.ok:=fun e h=>by
   obtain⟨c,hc,rfl⟩:=List.mem_map.1 h;exact UJ hx (hb' c hc)
  have hs:=qhy hv hB he
  have key:∀ w:Int,w=v.getD b.qd.qb.toNat 0+(edgeOf x2.qf.qb b.qd.qb b.qp).d→∃ c,QG x2 v ch (JN (jp x2 K body (k+1))) w=K (rndE ((b::body).map fun b=>edgeOf x2.qf.qb b.qd.qb b.qp) v) c∧(c=true↔ch=true∨rndE ((b::body).map fun b=>edgeOf x2.qf.qb b.qd.qb b.qp) v≠v):=fun w hw=>by
   unfold QG JN;rw[VK (relDec hx),get6 hv hx];simp only[Option.bind_some];rw[List.map_cons]
   by_cases hgt:w > v.getD x2.qf.qb.toNat 0
   ·rw[decide_eq_true hgt,cond_true,VK (relDec hx),upd6 hv hx];simp only[Option.bind_some]
    have es:v.set x2.qf.qb.toNat w=stepE v (edgeOf x2.qf.qb b.qd.qb b.qp):=by
     show _=v.set x2.qf.qb.toNat (if v.getD b.qd.qb.toNat 0+_ > v.getD x2.qf.qb.toNat 0 then _ else _);rw[if_pos (by rw[← hw];exact hgt),hw];rfl
    rw[es];obtain⟨c,h1,h2⟩:=qhd x2 hx K body (k+1) (stepE v (edgeOf x2.qf.qb b.qd.qb b.qp)) true (B+1) hb' hs (by omega) (by omega);refine⟨c,h1,?_⟩;have hc:c=true:=h2.2 (.inl rfl);refine⟨fun _=>.inr fun hf=>?_,fun _=>hc⟩;have hf:=((qgU hE he hv.1).1 hf).1;have:=congrArg (fun z=>z.getD x2.qf.qb.toNat 0) hf;replace this:(stepE v (edgeOf x2.qf.qb b.qd.qb b.qp)).getD x2.qf.qb.toNat 0=v.getD x2.qf.qb.toNat 0:=this;rw[Hj hv.1 he,if_pos (show x2.qf.qb.toNat=(edgeOf x2.qf.qb b.qd.qb b.qp).h from rfl)]at this;replace this:(if v.getD b.qd.qb.toNat 0+(edgeOf x2.qf.qb b.qd.qb b.qp).d > v.getD x2.qf.qb.toNat 0 then v.getD b.qd.qb.toNat 0+(edgeOf x2.qf.qb b.qd.qb b.qp).d else v.getD x2.qf.qb.toNat 0)=v.getD x2.qf.qb.toNat 0:=this;rw[← hw,if_pos hgt]at this;omega
   ·rw[decide_eq_false hgt,cond_false]
    have es:stepE v (edgeOf x2.qf.qb b.qd.qb b.qp)=v:=by
     show v.set x2.qf.qb.toNat (if v.getD b.qd.qb.toNat 0+_ > v.getD x2.qf.qb.toNat 0 then _ else _)=v;rw[if_neg (by rw[← hw];exact hgt)];exact set6 hv
    obtain⟨c,h1,h2⟩:=qhd x2 hx K body (k+1) v ch B hb' hv hB (by omega);refine⟨c,?_,?_⟩
    ·rw[h1];show _=K (rndE _ (stepE v _)) c;rw[es]
    ·rw[h2];show _↔ch=true∨rndE _ (stepE v _)≠v;rw[es]
  rw[jp,VK (relDec hbb),get6 hv hbb];simp only[Option.bind_some];have hg:=hv.2 b.qd.qb.toNat
  cases hn:b.qp with
  | true =>
   rw[cond_true]
   have hw:IntKind.wrap .i64 (v.getD b.qd.qb.toNat 0+1)=v.getD b.qd.qb.toNat 0+(edgeOf x2.qf.qb b.qd.qb b.qp).d:=by
    rw[wrap64 (by omega) (by omega),hn];rfl
   have:=key _ hw;rw[List.map_cons,hn]at this;rw[List.map_cons,hn];exact this
  | false =>
   rw[cond_false]
   have hw:v.getD b.qd.qb.toNat 0=v.getD b.qd.qb.toNat 0+(edgeOf x2.qf.qb b.qd.qb b.qp).d:=by
    rw[hn];show _=_+(0:Int);omega
   have:=key _ hw;rw[List.map_cons,hn]at this;rw[List.map_cons,hn];exact this
def relsU (l:List ruRule):Prop:=∀ r,r∈l→rel6 r.qf.qb∧r.qe.length≤3∧∀ b,b∈r.qe→rel6 b.qd.qb
theorem qgC {l:List ruRule} (h:relsU l):∀ e,e∈edgesU l→e.ok:=fun e he=>by
 obtain⟨r,hr,he⟩:=List.mem_flatMap.1 he;obtain⟨b,hb,rfl⟩:=List.mem_map.1 he;exact UJ (h r hr).1 ((h r hr).2.2 b hb)
theorem qip {E:List Edge} (hE:∀ e,e∈E→e.ok) {v:List Int} {B:Int} (hv:in6 v B) (hB:0≤B):in6 (rndE E v) (B+E.length) :=
 ⟨by rw[DZ,hv.1],qaa hE hv.1 hB hv.2⟩
theorem qiw (K:List Int→Bool→Option (List Int×Bool)):∀ (l:List ruRule) (k:Nat) (v:List Int) (ch:Bool) (B:Int),relsU l→in6 v B→0≤B→B+3 * l.length≤1000000 →
  ∃ c,qN K l k v ch=K (rndE (edgesU l) v) c∧(c=true↔ch=true∨rndE (edgesU l) v≠v)
 | [],k,v,ch,B,_,_,_,_=>⟨ch,by rw[qN];rfl,by simp[rndE,edgesU]⟩
 | r::l,k,v,ch,B,hr,hv,hB,hl=>by
  have h1:=hr r (List.mem_cons_self ..)
  have hr':relsU l:=fun q hq=>hr q (List.mem_cons_of_mem _ hq)
  rw[List.length_cons]at hl;rw[qN,VK (qM (by have:=h1.2.1;omega))]
  have hE:∀ e,e∈r.qe.map (fun b=>edgeOf r.qf.qb b.qd.qb b.qp)→e.ok:=fun e h=>by
   obtain⟨c,hc,rfl⟩:=List.mem_map.1 h;exact UJ h1.1 (h1.2.2 c hc)
  obtain⟨c,e1,e2⟩:=qhd r h1.1 (jA (qN K l (k+1))) r.qe 0 v ch B h1.2.2 hv hB (by have:=h1.2.1;omega);rw[e1];unfold jA;have hs:=qip hE hv hB;rw[List.length_map]at hs;obtain⟨d,e3,e4⟩:=qiw K l (k+1) _ c _ hr' hs (by omega) (by have:=h1.2.1;omega);have e:edgesU (r::l)=(r.qe.map fun b=>edgeOf r.qf.qb b.qd.qb b.qp)++edgesU l:=rfl;refine⟨d,by rw[e3,e,DY],?_⟩;rw[e4,e2,e,show (rndE ((r.qe.map fun b=>edgeOf r.qf.qb b.qd.qb b.qp)++edgesU l) v≠v↔¬ (_∧_)) from not_congr (DX hE (qgC hr') hv.1)]
  by_cases hf:rndE (r.qe.map fun b=>edgeOf r.qf.qb b.qd.qb b.qp) v=v
  ·rw[hf]
   simp
  ·simp[hf]
end Go.AM
namespace Go.AM
open Go.Proofs
open Classical
theorem qhp {l:List Int} (hlen:l.length≤1000):∀ (n k m:Nat) (v:Int),k+n=l.length→n+1≤m→∃ M,jL l Jj m v (k:Int)=some M∧v≤M∧(M=v∨M∈l)∧∀ i (h:i<l.length),k≤i→l[i]≤M
  | 0,k,m+1,v,hk,hm=>by
    refine⟨v,?_,Int.le_refl _,.inl rfl,fun i h1 h2=>absurd h1 (by omega)⟩;rw[jL,decide_eq_false (by omega)];rfl
  | n+1,k,m+1,v,hk,hm=>by
    have hkl:k<l.length:=by omega
    have hi:idx l (k:Int)=some l[k]:=by
      unfold idx
      simp[hkl]
    obtain⟨M,h1,h2,h3,h4⟩:=qhp hlen n (k+1) m (if l[k] > v then l[k] else v) (by omega) (by omega)
    have e:IntKind.wrap .i64 ((k:Int)+1)=((k+1:Nat):Int):=by rw[wrap64 (by omega) (by omega)];omega
    refine⟨M,?_,?_,?_,fun i g1 g2=>?_⟩
    · rw[jL,decide_eq_true (by omega:(k:Int)<(l.length:Int)),cond_true,hi]
      simp only[Option.bind_some];rw[e];exact h1
    · split at h2 <;> omega
    · rcases h3 with h3 | h3
      · split at h3
        · exact .inr (by rw[h3];exact List.getElem_mem _)
        · exact .inl h3
      · exact .inr h3
    · by_cases hik:i=k
      · subst hik
        split at h2 <;> omega
      · exact h4 i g1 (by omega)
theorem qhq {fuel:Nat} (hf:10≤fuel) {l:List Int} (h6:l.length=6):∃ M,JW fuel l=some M∧M∈l∧∀ i,i<6→l.getD i 0≤M:=by
  have hi:idx l 0=some l[0]:=by
    unfold idx
    simp[h6]
  obtain⟨M,h1,h2,h3,h4⟩:=qhp (l:=l) (by omega) 5 1 fuel l[0] (by omega) (by omega);refine⟨M,?_,?_,fun i hi6=>?_⟩
  · unfold JW
    rw[decide_eq_false (by omega),cond_false,hi];exact h1
  · rcases h3 with h3 | h3
    · rw[h3];exact List.getElem_mem _
    · exact h3
  · rw[List.getD_eq_getElem?_getD,List.getElem?_eq_getElem (by omega)]
    show l[i]≤M
    by_cases h0:i=0
    · subst h0;exact h2
    · exact h4 i (by omega) (by omega)
theorem snap6 {v:List Int} (h:v.length=6):snap 0 (Int.toNat 6) v=v:=by
  unfold snap;rw[show Int.toNat 6=6 from rfl,List.drop_zero];exact List.take_of_length_le (by omega)
end Go.AM
namespace Go.AM
open Go.Proofs
open Classical
structure okU1 (f:rufact):Prop where
 r0:0≤f.qn
 r5:f.qn≤5
 a1:1≤f.f_a
 a6:f.f_a≤6
 b0:0≤f.f_b
 b6:f.f_b≤6
def argsF (f:rufact):List Int:=if f.f_b=0 then [f.f_a] else [f.f_a,f.f_b]
def codeF (f:rufact):Nat:=(f.qn * 42+(if f.f_b=0 then f.f_a - 1 else f.f_a * 6+f.f_b - 1)).toNat
def decF (n:Nat):rufact:=if n % 42<6 then ⟨(n / 42:Nat),(n % 42+1:Nat),0⟩ else ⟨(n / 42:Nat),(n % 42 / 6:Nat),(n % 42 % 6+1:Nat)⟩
theorem Zw {f:rufact} (h:okU1 f):codeF f<252:=by
 have:=h.r0;have:=h.r5;have:=h.a1;have:=h.a6;have:=h.b0;have:=h.b6;unfold codeF;split <;> omega
theorem qit {n:Nat} (h:n<252):okU1 (decF n):=by
 unfold decF
 split <;> refine⟨?_,?_,?_,?_,?_,?_⟩ <;> simp only <;> omega
theorem qaB {f:rufact} (h:okU1 f):decF (codeF f)=f:=by
 have:=h.r0;have:=h.r5;have:=h.a1;have:=h.a6;have:=h.b0;have:=h.b6;obtain⟨r,a,b⟩:=f;simp only at *;unfold decF codeF
 simp only
 by_cases hb:b=0
 ·subst hb;rw[if_pos rfl]
  have e1:(r * 42+(a - 1)).toNat % 42=(a - 1).toNat:=by omega
  have e2:(r * 42+(a - 1)).toNat / 42=r.toNat:=by omega
  rw[if_pos (by omega),e1,e2]
  congr 1 <;> omega
 ·rw[if_neg hb]
  have e1:(r * 42+(a * 6+b - 1)).toNat % 42=(a * 6+b - 1).toNat:=by omega
  have e2:(r * 42+(a * 6+b - 1)).toNat / 42=r.toNat:=by omega
  rw[if_neg (by omega),e1,e2]
  congr 1 <;> omega
theorem qhN {n:Nat} (h:n<252):codeF (decF n)=n:=by
 unfold decF
 split
 ·unfold codeF;simp only;rw[if_pos trivial];omega
 ·unfold codeF;simp only;rw[if_neg (by omega)];omega
theorem qbW {f g:rufact} (hf:okU1 f) (hg:okU1 g) (h:codeF f=codeF g):f=g:=by
 rw[← qaB hf,← qaB hg,h]
theorem qaC {f:rufact} (h:okU1 f):YN f.qn (argsF f)=some (codeF f:Int):=by
 have:=h.r0;have:=h.r5;have:=h.a1;have:=h.a6;have:=h.b0;have:=h.b6;unfold YN argsF codeF
 by_cases hb:f.f_b=0
 ·rw[if_pos hb,if_pos hb];show some _=some _;rw[wrap64 (n:=f.qn * 42) (by omega) (by omega),wrap64 (n:=f.qn * 42+f.f_a) (by omega) (by omega),wrap64 (by omega) (by omega)]
  congr 1;omega
 ·rw[if_neg hb,if_neg hb];show some _=some _;rw[wrap64 (n:=f.qn * 42) (by omega) (by omega),wrap64 (n:=f.f_a * 6) (by omega) (by omega),wrap64 (n:=f.qn * 42+f.f_a * 6) (by omega) (by omega),wrap64 (n:=f.qn * 42+f.f_a * 6+f.f_b) (by omega) (by omega),wrap64 (by omega) (by omega)]
  congr 1;omega
theorem UN (f:rufact):apiF f=⟨f.qn,argsF f⟩:=by
 unfold apiF argsF;split <;> rfl
theorem qhX {n:Nat} (h:n<252):qac (n:Int)=some (apiF (decF n)):=by
 have e1:(n:Int).tmod 42=((n % 42:Nat):Int):=by
  rw[Int.tmod_eq_emod_of_nonneg (by omega)];omega
 have e2:(n:Int).tdiv 42=((n / 42:Nat):Int):=by
  rw[Int.tdiv_eq_ediv_of_nonneg (by omega)];omega
 unfold qac;rw[e1,e2]
 have e3:((n % 42:Nat):Int).tdiv 6=((n % 42 / 6:Nat):Int):=by
  rw[Int.tdiv_eq_ediv_of_nonneg (by omega)];omega
 have e4:((n % 42:Nat):Int).tmod 6=((n % 42 % 6:Nat):Int):=by
  rw[Int.tmod_eq_emod_of_nonneg (by omega)];omega
 rw[e3,e4,wrap64 (n:=((n / 42:Nat):Int)) (by omega) (by omega),wrap64 (n:=((n % 42 / 6:Nat):Int)) (by omega) (by omega),wrap64 (n:=((n % 42 % 6:Nat):Int)+1) (by omega) (by omega),wrap64 (n:=((n % 42:Nat):Int)+1) (by omega) (by omega)];unfold decF apiF
 by_cases h6:n % 42<6
 ·rw[decide_eq_false (by omega),cond_false,if_pos h6];show _=some (if (0:Int)=0 then _ else _);rw[if_pos rfl];rfl
 ·rw[decide_eq_true (by omega),cond_true,if_neg h6];show _=some (if ((n % 42 % 6+1:Nat):Int)=0 then _ else _);rw[if_neg (by omega)];rfl
theorem qim {f:rufact}:ZM (apiF f)=some f:=by
 obtain⟨r,a,b⟩:=f;unfold apiF ZM
 by_cases hb:b=0
 ·subst hb;rfl
 ·rw[if_neg hb];rfl
def fitA:List Int→List Int→List Int→Option (List Int)
 | v,[],_=>some v
 | v,_::_,[]=>none
 | v,x::xs,e::es=>if x<0 then (if 0 - x=e then fitA v xs es else none) else if v.getD x.toNat 0≠0∧v.getD x.toNat 0≠e then none else fitA (v.set x.toNat e) xs es
def arg7 (args:List Int):Prop:=∀ x,x∈args → -6≤x∧x≤7
theorem qax:∀ {v xs es u:List Int},fitA v xs es=some u→u.length=v.length
 | v,[],es,u,h=>by cases h;rfl
 | v,x::xs,[],u,h=>by cases h
 | v,x::xs,e::es,u,h=>by
  unfold fitA at h
  split at h
  ·split at h
   ·exact qax h
   ·cases h
  ·split at h
   ·cases h
   ·rw[qax h,List.length_set]
theorem get8 {v:List Int} (hv:v.length=8) {x:Int} (h0:0≤x) (h7:x≤7):v[0+Int.toNat x * 1]? = some (v.getD x.toNat 0):=by
 rw[Nat.zero_add,Nat.mul_one,List.getD_eq_getElem?_getD,List.getElem?_eq_getElem (by omega)];rfl
theorem dec8 {x:Int} (h0:0≤x) (h7:x≤7):decide ((0:Int)≤x∧x<((8:Nat):Int)∧0<1)=true:=decide_eq_true ⟨h0,by omega,by omega⟩
theorem set8 {v:List Int} {n:Nat} {e:Int} (h:v.getD n 0=e):v.set n e=v:=by
 refine List.ext_getElem (by simp) fun i h1 h2=>?_
 rw[List.getElem_set]
 split
 ·rename_i hi;subst hi;rw[← h,List.getD_eq_getElem?_getD,List.getElem?_eq_getElem h2];rfl
 ·rfl
theorem qaw (f:rufact) (a:ql) (hrel:(a.qb == f.qn)=true):∀ (args:List Int) (k:Nat) (v:List Int),arg7 args→k+args.length≤2→v.length=8 →
  match fitA v args (([f.f_a,f.f_b]:List Int).drop k) with
  | some u=>qo f (qv a f) args k v (List.replicate 8 0)=some (u,true)
  | none=>∃ u,qo f (qv a f) args k v (List.replicate 8 0)=some (u,false)
 | [],k,v,_,_,hv=>by
  rw[fitA];show qo f (qv a f) [] k v (List.replicate 8 0)=_;rw[qo];unfold qv;rw[VK (decide_eq_true hv),VK (decide_eq_true ⟨hv,by simp⟩),VK (decide_eq_true hv),hrel]
 | x::args,k,v,ha,hk,hv=>by
  rw[List.length_cons]at hk;have hx:=ha x (List.mem_cons_self ..)
  have ha':arg7 args:=fun y hy=>ha y (List.mem_cons_of_mem _ hy)
  obtain⟨e,he,hd⟩:∃ e,([f.f_a,f.f_b]:List Int)[Int.toNat (k:Int) * 1]? = some e∧([f.f_a,f.f_b]:List Int).drop k=e::([f.f_a,f.f_b]:List Int).drop (k+1):=by
   match k,hk with
   | 0,_=>exact⟨f.f_a,rfl,rfl⟩
   | 1,_=>exact⟨f.f_b,rfl,rfl⟩
   | k+2,hk=>omega
  rw[qo,VK (decide_eq_true ⟨by omega,by omega⟩),he,hd];simp only[Option.bind_some];unfold fitA
  by_cases hneg:x<0
  ·rw[decide_eq_true hneg,cond_true,if_pos hneg,decide_eq_false (show ¬ x ≥ 0 by omega),cond_false,wrap64 (by omega) (by omega)]
   by_cases hq:0 - x=e
   ·rw[if_pos hq,show ((0 - x) != e)=false by rw[hq];exact bne_self_eq_false ..,  cond_false];unfold qw qx;rw[cond_false,decide_eq_false (show ¬ x ≥ 0 by omega),cond_false];exact qaw f a hrel args (k+1) v ha' (by omega) hv
   ·rw[if_neg hq,show ((0 - x) != e)=true from bne_iff_ne.2 hq,cond_true];unfold qw;rw[cond_true,VK (decide_eq_true hv),VK (decide_eq_true ⟨hv,by simp⟩),VK (decide_eq_true hv)];exact⟨_,rfl⟩
  ·rw[decide_eq_false hneg,cond_false,if_neg hneg,decide_eq_true (show x ≥ 0 by omega),cond_true,VK (dec8 (by omega) hx.2),get8 hv (by omega) hx.2];simp only[Option.bind_some]
   have go:qw x v (List.replicate 8 0) e (qx (List.replicate 8 0) (qo f (qv a f) args (k+1))) false=qo f (qv a f) args (k+1) (v.set x.toNat e) (List.replicate 8 0):=by
    unfold qw qx;rw[cond_false,decide_eq_true (show x ≥ 0 by omega),cond_true,VK (dec8 (by omega) hx.2),VK (decide_eq_true (by omega)),Nat.zero_add,Nat.mul_one]
   have hrec:=qaw f a hrel args (k+1) (v.set x.toNat e) ha' (by omega) (by rw[List.length_set,hv])
   by_cases hz:v.getD x.toNat 0=0
   ·rw[show (v.getD x.toNat 0 != 0)=false by simp only[hz,bne_self_eq_false],cond_false,go,if_neg (fun h=>h.1 hz)];exact hrec
   ·rw[show (v.getD x.toNat 0 != 0)=true from bne_iff_ne.2 hz,cond_true,VK (dec8 (by omega) hx.2)]
    by_cases hq:v.getD x.toNat 0=e
    ·rw[show (v.getD x.toNat 0 != e)=false by simp only[hq,bne_self_eq_false],go,if_neg (fun h=>h.2 hq)];exact hrec
    ·rw[show (v.getD x.toNat 0 != e)=true from bne_iff_ne.2 hq,if_pos ⟨hz,hq⟩];unfold qw;rw[cond_true,VK (decide_eq_true hv),VK (decide_eq_true ⟨hv,by simp⟩),VK (decide_eq_true hv)];exact⟨_,rfl⟩
theorem qgy {f:rufact} {a:ql} (hrel:a.qb=f.qn) {v:List Int} (hv:v.length=8) (ha:arg7 a.qa) (hl:a.qa.length≤2) :
  ∃ p,Jr v a f=some p∧(p.2=true↔(fitA v a.qa [f.f_a,f.f_b]).isSome=true)∧∀ u,fitA v a.qa [f.f_a,f.f_b]=some u→p.1=u:=by
 have h:=qaw f a (by simp[hrel]) a.qa 0 v ha (by omega) hv
 have e:Jr v a f=qo f (qv a f) a.qa 0 v (List.replicate 8 0):=by
  unfold Jr;rw[VK (by cases v <;> simp_all),VK (qM (by omega))]
 rw[List.drop_zero]at h;rw[e]
 cases hf:fitA v a.qa [f.f_a,f.f_b] with
 | some u =>
  rw[hf]at h;exact⟨_,h,by simp,fun w hw=>by cases hw;rfl⟩
 | none =>
  rw[hf]at h;obtain⟨u,hu⟩:=h;exact⟨_,hu,by simp,fun w hw=>by cases hw⟩
def groundA (v args:List Int):List Int:=args.map fun x=>if x<0 then 0 - x else v.getD x.toNat 0
def mkF (rel:Int) (g:List Int):rufact:=⟨rel,g.getD 0 0,g.getD 1 0⟩
def groundF (v:List Int) (a:ql):rufact:=mkF a.qb (groundA v a.qa)
theorem Dh {v:List Int} (hv:v.length=8) {a:ql} (ha:arg7 a.qa) (hl:a.qa.length≤2):qU v a=some (groundF v a):=by
 have step:∀ (x:Int) (r:List Int) (k:Nat) (w:List Int) (K:List Int→Option rufact),-6≤x∧x≤7→k<2→w.length=2→qy v K (x::r) k w=qy v K r (k+1) (w.set k (if x<0 then 0 - x else v.getD x.toNat 0)):=by
  intro x r k w K hx hk hw;rw[qy]
  by_cases hneg:x<0
  ·rw[decide_eq_true hneg,cond_true,if_pos hneg,VK (decide_eq_true ⟨by omega,by omega,by omega⟩),VK (decide_eq_true (by simp;omega)),wrap64 (by omega) (by omega)];unfold jQ
   simp
  ·rw[decide_eq_false hneg,cond_false,if_neg hneg,VK (dec8 (by omega) hx.2),get8 hv (by omega) hx.2];simp only[Option.bind_some];rw[VK (decide_eq_true ⟨by omega,by omega,by omega⟩),VK (decide_eq_true (by simp;omega))];unfold jQ
   simp
 unfold qU;rw[VK (by cases v <;> simp_all),VK (qM (by omega))];obtain⟨rel,args⟩:=a;simp only at ha hl
 match args,ha,hl with
 | [],_,_=>rfl
 | [x],ha,_ =>
  show qy v _ [x] 0 (List.replicate 2 0)=_;rw[step x [] 0 _ _ (ha x (by simp)) (by omega) (by simp)];rfl
 | [x,y],ha,_ =>
  show qy v _ [x,y] 0 (List.replicate 2 0)=_;rw[step x [y] 0 _ _ (ha x (by simp)) (by omega) (by simp),step y [] 1 _ _ (ha y (by simp)) (by omega) (by simp)];rfl
 | x::y::z::r,_,hl=>simp at hl
end Go.AM
