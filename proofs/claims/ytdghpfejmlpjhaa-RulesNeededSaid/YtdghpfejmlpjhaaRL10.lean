/- s -/
import Derived.Test.YtdghpfejmlpjhaaRL7
set_option maxRecDepth 100000
set_option linter.unusedVariables false
set_option linter.unusedSimpArgs false
namespace Go.AM
open Go.Proofs
open Classical
theorem qfP {l:List Int} (hlen:l.length≤1000):∀ (n k m:Nat) (v:Int),k+n=l.length→n+1≤m→∃ M,jy l jX m v (k:Int)=some M∧v≤M∧(M=v∨M∈l)∧∀ i (h:i<l.length),k≤i→l[i]≤M
  | 0,k,m+1,v,hk,hm=>by
    refine⟨v,?_,Int.le_refl _,.inl rfl,fun i h1 h2=>absurd h1 (by omega)⟩;rw[jy,decide_eq_false (by omega)];rfl
  | n+1,k,m+1,v,hk,hm=>by
    have hkl:k<l.length:=by omega
    have hi:idx l (k:Int)=some l[k]:=by
      unfold idx
      simp[hkl]
    obtain⟨M,h1,h2,h3,h4⟩:=qfP hlen n (k+1) m (if l[k] > v then l[k] else v) (by omega) (by omega)
    have e:IntKind.wrap .i64 ((k:Int)+1)=((k+1:Nat):Int):=by rw[wrap64 (by omega) (by omega)];omega
    refine⟨M,?_,?_,?_,fun i g1 g2=>?_⟩
    · rw[jy,decide_eq_true (by omega:(k:Int)<(l.length:Int)),cond_true,hi]
      simp only[Option.bind_some];rw[e];exact h1
    · split at h2 <;> omega
    · rcases h3 with h3 | h3
      · split at h3
        · exact .inr (by rw[h3];exact List.getElem_mem _)
        · exact .inl h3
      · exact .inr h3
    · by_cases hik:i=k
      · subst hik
        split at h2 <;> omega
      · exact h4 i g1 (by omega)
theorem qbX {fuel:Nat} (hf:10≤fuel) {l:List Int} (h6:l.length=6):∃ M,JA fuel l=some M∧M∈l∧∀ i,i<6→l.getD i 0≤M:=by
  have hi:idx l 0=some l[0]:=by
    unfold idx
    simp[h6]
  obtain⟨M,h1,h2,h3,h4⟩:=qfP (l:=l) (by omega) 5 1 fuel l[0] (by omega) (by omega);refine⟨M,?_,?_,fun i hi6=>?_⟩
  · unfold JA
    rw[decide_eq_false (by omega),cond_false,hi];exact h1
  · rcases h3 with h3 | h3
    · rw[h3];exact List.getElem_mem _
    · exact h3
  · rw[List.getD_eq_getElem?_getD,List.getElem?_eq_getElem (by omega)]
    show l[i]≤M
    by_cases h0:i=0
    · subst h0;exact h2
    · exact h4 i (by omega) (by omega)
theorem snap6 {v:List Int} (h:v.length=6):snap 0 (Int.toNat 6) v=v:=by
  unfold snap;rw[show Int.toNat 6=6 from rfl,List.drop_zero];exact List.take_of_length_le (by omega)
theorem UL (E:List Edge):∀ (n:Nat) (v:List Int),(iterE E v n).length=v.length
  | 0,v=>rfl
  | n+1,v=>by rw[YA,ZX,UL E n]
theorem qek {E:List Edge} (hE:∀ e,e∈E→e.ok) {v:List Int} (hv:v.length=6) {s:Nat}:∀ (t:Nat),s≤t→∀ i,(iterE E v s).getD i 0≤(iterE E v t).getD i 0
  | 0,h,i=>by
    have:s=0:=by omega
    subst this;exact Int.le_refl _
  | t+1,h,i=>by
    by_cases hs:s=t+1
    · subst hs;exact Int.le_refl _
    · have h1:=qek hE hv (s:=s) t (by omega) i
      have h2:=Vy hE (v:=iterE E v t) (by rw[UL,hv]) i;rw[YA];omega
theorem qca {E:List Edge} {v:List Int} {s:Nat} (hs:rndE E (iterE E v s)=iterE E v s):∀ (t:Nat),s≤t→iterE E v t=iterE E v s
  | 0,h=>by
    have:s=0:=by omega
    subst this;rfl
  | t+1,h=>by
    by_cases he:s=t+1
    · subst he;rfl
    · rw[YA,qca hs t (by omega),hs]
theorem HK {E:List Edge} (hE:∀ e,e∈E→e.ok) {p:Nat→Int} (hp:preE E p) {v:List Int} (hv:v.length=6) (h:∀ i,v.getD i 0≤p i):∀ (n:Nat) (i:Nat),(iterE E v n).getD i 0≤p i
  | 0,i=>h i
  | n+1,i=>by
    rw[YA];exact qfG hE hp (by rw[UL,hv]) (HK hE hp hv h n) i
theorem qgB {v:List Int} (h:in6 v 6):sum6 v≤36:=by
  have:=h.2 0;have:=h.2 1;have:=h.2 2;have:=h.2 3;have:=h.2 4;have:=h.2 5;unfold sum6;omega
theorem qhe {v:List Int} {B C:Int} (h:in6 v B) (hC:0≤C) (hm:∀ i,i<6→v.getD i 0≤C):in6 v C:=by
  refine⟨h.1,fun i=>⟨(h.2 i).1,?_⟩⟩
  by_cases hi:i<6
  · exact hm i hi
  · rw[List.getD_eq_getElem?_getD,List.getElem?_eq_none (by rw[h.1];omega)]
    exact hC
theorem qgT {fuel:Nat} (hf:10≤fuel) {l:List ruRule} (hl:l.length≤10) (hr:relsU l):∀ (d m:Nat) (v:List Int) (c:Nat),in6 v 6→37≤sum6 v+d→d≤m→c+d≤100 →
    ∃ t,t≤d∧((qx fuel l m v (c:Int)=some (iterE (edgesU l) v t,true)∧rndE (edgesU l) (iterE (edgesU l) v t)=iterE (edgesU l) v t∧in6 (iterE (edgesU l) v t) 6)∨(qx fuel l m v (c:Int)=some ([],false)∧∃ i,i<6∧(iterE (edgesU l) v t).getD i 0 > 6))
  | 0,m,v,c,hv,hs,hm,hc=>by have:=qgB hv;omega
  | d+1,0,v,c,hv,hs,hm,hc=>by omega
  | d+1,m+1,v,c,hv,hs,hm,hc=>by
    have hE:=qau hr;have hlen:=qdC hr;obtain⟨ch,h1,h2⟩:=qgS (qI fuel (c:Int) (qx fuel l m)) l 0 v false 6 hr hv (by omega) (by omega);have hw:=Hk hE hv (by omega)
    have e0:qx fuel l (m+1) v (c:Int)=qI fuel (c:Int) (qx fuel l m) (rndE (edgesU l) v) ch:=by
      rw[qx,ZJ (qN (by omega)),h1]
    rw[e0];unfold qI;rw[snap6 hw.1]
    by_cases hfix:rndE (edgesU l) v=v
    · have:ch=false:=by
        cases ch with
        | false=>rfl
        | true =>
         rcases h2.1 rfl with h | h
         · cases h
         · exact absurd hfix h
      rw[this];refine⟨0,by omega,.inl ⟨?_,hfix,hv⟩⟩;show some (rndE (edgesU l) v,true)=some (v,true);rw[hfix]
    · have:ch=true:=h2.2 (.inr hfix)
      rw[this];simp only[Bool.not_true,cond_false];obtain⟨M,m1,m2,m3⟩:=qbX hf hw.1;rw[m1];simp only[Option.bind_some]
      by_cases hM:M > 6
      · rw[decide_eq_true hM,cond_true]
        refine⟨1,by omega,.inr ⟨rfl,?_⟩⟩;obtain⟨i,hi,he⟩:=List.getElem_of_mem m2;refine⟨i,by rw[← hw.1];exact hi,?_⟩;show (rndE (edgesU l) v).getD i 0 > 6;rw[List.getD_eq_getElem?_getD,List.getElem?_eq_getElem hi];show (rndE (edgesU l) v)[i] > 6;omega
      · rw[decide_eq_false hM,cond_false]
        have hw6:in6 (rndE (edgesU l) v) 6:=qhe hw (by omega) fun i hi=>by have:=m3 i hi;omega
        have hsum:=qfF hE hv.1 hfix
        have ec:IntKind.wrap .i64 ((c:Int)+1)=((c+1:Nat):Int):=by rw[wrap64 (by omega) (by omega)];omega
        rw[ec];obtain⟨t,ht,h⟩:=qgT hf hl hr d m (rndE (edgesU l) v) (c+1) hw6 (by omega) (by omega) (by omega);exact⟨t+1,by omega,h⟩
theorem qgV {v:List Int} (hv:v.length=6) (K:Option (List Int×Int)):∀ (L:List Nat) (k:Nat),k+L.length=6→QY v K L k=if ∃ i,k≤i∧i<6∧v.getD i 0 > 5 then some ([],8) else K
  | [],k,h=>by
    rw[QY,if_neg]
    rintro⟨i,h1,h2,_⟩
    simp at h;omega
  | x::L,k,h=>by
    rw[List.length_cons]at h
    have hk:v[0+Int.toNat (k:Int)]? = some (v.getD k 0):=by
      rw[Nat.zero_add,Int.toNat_natCast,List.getD_eq_getElem?_getD,List.getElem?_eq_getElem (by omega)];rfl
    rw[QY,ZJ (decide_eq_true ⟨by omega,by rw[show (((Int.toNat 6):Nat):Int)=6 from rfl];omega⟩),hk];simp only[Option.bind_some]
    by_cases h5:v.getD k 0 > 5
    · rw[decide_eq_true h5,cond_true,if_pos ⟨k,by omega,by omega,h5⟩]
      rfl
    · rw[decide_eq_false h5,cond_false,qgV hv K L (k+1) (by omega)]
      by_cases hq:∃ i,k+1≤i∧i<6∧v.getD i 0 > 5
      · rw[if_pos hq]
        obtain⟨i,a,b,c⟩:=hq;rw[if_pos ⟨i,by omega,b,c⟩]
      · rw[if_neg hq,if_neg]
        rintro⟨i,a,b,c⟩
        by_cases hik:i=k
        · subst hik;exact h5 c
        · exact hq ⟨i,by omega,b,c⟩
theorem VQ {l:List rf3Rule} (hl:l.length≤10) (hr:relsR l):XM l=if ∃ i,i<6∧(iterE (edgesR l) (List.replicate 6 0) 60).getD i 0 > 5 then some ([],8) else some (iterE (edgesR l) (List.replicate 6 0) 60,0):=by
  have h0:in6 (List.replicate 6 (0:Int)) 0:=⟨by simp,fun i=>by
    rw[List.getD_eq_getElem?_getD,List.getElem?_replicate]
    split <;> simp⟩
  unfold XM;rw[ZJ (by decide),ZJ (qN (by simp)),show (List.replicate (Int.toNat 6) (0:Int))=List.replicate 6 0 from rfl,qgY l _ hl hr _ 0 _ 0 h0 (by omega) (by simp)];rw[show (List.range (Int.toNat 60)).length=60 by simp]
  have hlen:(iterE (edgesR l) (List.replicate 6 0) 60).length=6:=by rw[UL];simp
  unfold VT;rw[ZJ (qN (by simp)),qgV hlen _ _ 0 (by simp)];unfold ZY;rw[snap6 hlen]
  congr 1
  simp
theorem ZQ {fuel:Nat} (hf:100≤fuel) {l:List rf3Rule} {lu:List ruRule} (hl:l.length≤10) (hlu:lu.length≤10) (hr:relsR l) (hu:relsU lu) (he:edgesU lu=edgesR l) :
    (∃ v,in6 v 5∧preE (edgesR l) (fun i=>v.getD i 0)∧XM l=some (v,0)∧QO fuel lu=some (v,true))∨(XM l=some ([],8)∧QO fuel lu=some ([],false)):=by
  have h0:in6 (List.replicate 6 (0:Int)) 6:=⟨by simp,fun i=>by
    rw[List.getD_eq_getElem?_getD,List.getElem?_replicate]
    split <;> simp⟩
  have hE:=Nz hr
  have eu:QO fuel lu=qx fuel lu fuel (List.replicate 6 0) ((0:Nat):Int):=by
    unfold QO;rw[ZJ (by decide)];rfl
  obtain⟨t,ht,h⟩:=qgT (by omega:10≤fuel) hlu hu 37 fuel (List.replicate 6 0) 0 h0 (by rw[show sum6 (List.replicate 6 0)=0 from rfl];omega) (by omega) (by omega);rw[he]at h;rw[eu,VQ hl hr]
  rcases h with ⟨h1,h2,h3⟩ | ⟨h1,i,h2,h3⟩
  · left
    rw[qca h2 60 (by omega)];have hpre:=qfH hE h3.1 h2
    have h5:=qhd h3.1 (fun i=>(h3.2 i).1) hpre (fun p p0 hp i=>HK hE hp (by simp) (fun i=>by
      have:=p0 i;rw[List.getD_eq_getElem?_getD,List.getElem?_replicate]
      split <;> simpa) t i) hE
    refine⟨_,⟨h3.1,fun i=>⟨(h3.2 i).1,h5 i⟩⟩,hpre,?_,h1⟩;rw[if_neg]
    rintro⟨i,hi,hg⟩
    have:=h5 i;omega
  · right
    refine⟨?_,h1⟩;have:=qek hE (v:=List.replicate 6 0) (by simp) 60 (show t≤60 by omega) i;rw[if_pos ⟨i,h2,by omega⟩]
end Go.AM
namespace Go.AM
open Go.Proofs
open Classical
structure okU1 (f:rufact):Prop where
 r0:0≤f.ql
 r5:f.ql≤5
 a1:1≤f.f_a
 a6:f.f_a≤6
 b0:0≤f.f_b
 b6:f.f_b≤6
def argsF (f:rufact):List Int:=if f.f_b=0 then [f.f_a] else [f.f_a,f.f_b]
def codeF (f:rufact):Nat:=(f.ql * 42+(if f.f_b=0 then f.f_a - 1 else f.f_a * 6+f.f_b - 1)).toNat
def decF (n:Nat):rufact:=if n % 42<6 then ⟨(n / 42:Nat),(n % 42+1:Nat),0⟩ else ⟨(n / 42:Nat),(n % 42 / 6:Nat),(n % 42 % 6+1:Nat)⟩
theorem Df {f:rufact} (h:okU1 f):codeF f<252:=by
 have:=h.r0;have:=h.r5;have:=h.a1;have:=h.a6;have:=h.b0;have:=h.b6;unfold codeF;split <;> omega
theorem qcn {f:rufact} (h:okU1 f):decF (codeF f)=f:=by
 have:=h.r0;have:=h.r5;have:=h.a1;have:=h.a6;have:=h.b0;have:=h.b6;obtain⟨r,a,b⟩:=f;simp only at *;unfold decF codeF
 simp only
 by_cases hb:b=0
 ·subst hb;rw[if_pos rfl]
  have e1:(r * 42+(a - 1)).toNat % 42=(a - 1).toNat:=by omega
  have e2:(r * 42+(a - 1)).toNat / 42=r.toNat:=by omega
  rw[if_pos (by omega),e1,e2]
  congr 1 <;> omega
 ·rw[if_neg hb]
  have e1:(r * 42+(a * 6+b - 1)).toNat % 42=(a * 6+b - 1).toNat:=by omega
  have e2:(r * 42+(a * 6+b - 1)).toNat / 42=r.toNat:=by omega
  rw[if_neg (by omega),e1,e2]
  congr 1 <;> omega
theorem qay {f g:rufact} (hf:okU1 f) (hg:okU1 g) (h:codeF f=codeF g):f=g:=by
 rw[← qcn hf,← qcn hg,h]
theorem qgi {f:rufact} (h:okU1 f):UC f.ql (argsF f)=some (codeF f:Int):=by
 have:=h.r0;have:=h.r5;have:=h.a1;have:=h.a6;have:=h.b0;have:=h.b6;unfold UC argsF codeF
 by_cases hb:f.f_b=0
 ·rw[if_pos hb,if_pos hb];show some _=some _;rw[wrap64 (n:=f.ql * 42) (by omega) (by omega),wrap64 (n:=f.ql * 42+f.f_a) (by omega) (by omega),wrap64 (by omega) (by omega)]
  congr 1;omega
 ·rw[if_neg hb,if_neg hb];show some _=some _;rw[wrap64 (n:=f.ql * 42) (by omega) (by omega),wrap64 (n:=f.f_a * 6) (by omega) (by omega),wrap64 (n:=f.ql * 42+f.f_a * 6) (by omega) (by omega),wrap64 (n:=f.ql * 42+f.f_a * 6+f.f_b) (by omega) (by omega),wrap64 (by omega) (by omega)]
  congr 1;omega
theorem NG (f:rufact):apiF f=⟨f.ql,argsF f⟩:=by
 unfold apiF argsF;split <;> rfl
theorem qgI {f:rufact}:ZW (apiF f)=some f:=by
 obtain⟨r,a,b⟩:=f;unfold apiF ZW
 by_cases hb:b=0
 ·subst hb;rfl
 ·rw[if_neg hb];rfl
def fitA:List Int→List Int→List Int→Option (List Int)
 | v,[],_=>some v
 | v,_::_,[]=>none
 | v,x::xs,e::es=>if x<0 then (if 0 - x=e then fitA v xs es else none) else if v.getD x.toNat 0≠0∧v.getD x.toNat 0≠e then none else fitA (v.set x.toNat e) xs es
def arg7 (args:List Int):Prop:=∀ x,x∈args → -6≤x∧x≤7
theorem get8 {v:List Int} (hv:v.length=8) {x:Int} (h0:0≤x) (h7:x≤7):v[0+Int.toNat x * 1]? = some (v.getD x.toNat 0):=by
 rw[Nat.zero_add,Nat.mul_one,List.getD_eq_getElem?_getD,List.getElem?_eq_getElem (by omega)];rfl
theorem dec8 {x:Int} (h0:0≤x) (h7:x≤7):decide ((0:Int)≤x∧x<((8:Nat):Int)∧0<1)=true:=decide_eq_true ⟨h0,by omega,by omega⟩
theorem Da (f:rufact) (a:qj) (hrel:(a.qb == f.ql)=true):∀ (args:List Int) (k:Nat) (v:List Int),arg7 args→k+args.length≤2→v.length=8 →
  match fitA v args (([f.f_a,f.f_b]:List Int).drop k) with
  | some u=>qm f (qr a f) args k v (List.replicate 8 0)=some (u,true)
  | none=>∃ u,qm f (qr a f) args k v (List.replicate 8 0)=some (u,false)
 | [],k,v,_,_,hv=>by
  rw[fitA];show qm f (qr a f) [] k v (List.replicate 8 0)=_;rw[qm];unfold qr;rw[ZJ (decide_eq_true hv),ZJ (decide_eq_true ⟨hv,by simp⟩),ZJ (decide_eq_true hv),hrel]
 | x::args,k,v,ha,hk,hv=>by
  rw[List.length_cons]at hk;have hx:=ha x (List.mem_cons_self ..)
  have ha':arg7 args:=fun y hy=>ha y (List.mem_cons_of_mem _ hy)
  obtain⟨e,he,hd⟩:∃ e,([f.f_a,f.f_b]:List Int)[Int.toNat (k:Int) * 1]? = some e∧([f.f_a,f.f_b]:List Int).drop k=e::([f.f_a,f.f_b]:List Int).drop (k+1):=by
   match k,hk with
   | 0,_=>exact⟨f.f_a,rfl,rfl⟩
   | 1,_=>exact⟨f.f_b,rfl,rfl⟩
   | k+2,hk=>omega
  rw[qm,ZJ (decide_eq_true ⟨by omega,by omega⟩),he,hd];simp only[Option.bind_some];unfold fitA
  by_cases hneg:x<0
  ·rw[decide_eq_true hneg,cond_true,if_pos hneg,decide_eq_false (show ¬ x ≥ 0 by omega),cond_false,wrap64 (by omega) (by omega)]
   by_cases hq:0 - x=e
   ·rw[if_pos hq,show ((0 - x) != e)=false by rw[hq];exact bne_self_eq_false ..,  cond_false];unfold qu qy;rw[cond_false,decide_eq_false (show ¬ x ≥ 0 by omega),cond_false];exact Da f a hrel args (k+1) v ha' (by omega) hv
   ·rw[if_neg hq,show ((0 - x) != e)=true from bne_iff_ne.2 hq,cond_true];unfold qu;rw[cond_true,ZJ (decide_eq_true hv),ZJ (decide_eq_true ⟨hv,by simp⟩),ZJ (decide_eq_true hv)];exact⟨_,rfl⟩
  ·rw[decide_eq_false hneg,cond_false,if_neg hneg,decide_eq_true (show x ≥ 0 by omega),cond_true,ZJ (dec8 (by omega) hx.2),get8 hv (by omega) hx.2];simp only[Option.bind_some]
   have go:qu x v (List.replicate 8 0) e (qy (List.replicate 8 0) (qm f (qr a f) args (k+1))) false=qm f (qr a f) args (k+1) (v.set x.toNat e) (List.replicate 8 0):=by
    unfold qu qy;rw[cond_false,decide_eq_true (show x ≥ 0 by omega),cond_true,ZJ (dec8 (by omega) hx.2),ZJ (decide_eq_true (by omega)),Nat.zero_add,Nat.mul_one]
   have hrec:=Da f a hrel args (k+1) (v.set x.toNat e) ha' (by omega) (by rw[List.length_set,hv])
   by_cases hz:v.getD x.toNat 0=0
   ·rw[show (v.getD x.toNat 0 != 0)=false by simp only[hz,bne_self_eq_false],cond_false,go,if_neg (fun h=>h.1 hz)];exact hrec
   ·rw[show (v.getD x.toNat 0 != 0)=true from bne_iff_ne.2 hz,cond_true,ZJ (dec8 (by omega) hx.2)]
    by_cases hq:v.getD x.toNat 0=e
    ·rw[show (v.getD x.toNat 0 != e)=false by simp only[hq,bne_self_eq_false],go,if_neg (fun h=>h.2 hq)];exact hrec
    ·rw[show (v.getD x.toNat 0 != e)=true from bne_iff_ne.2 hq,if_pos ⟨hz,hq⟩];unfold qu;rw[cond_true,ZJ (decide_eq_true hv),ZJ (decide_eq_true ⟨hv,by simp⟩),ZJ (decide_eq_true hv)];exact⟨_,rfl⟩
theorem qeU {f:rufact} {a:qj} (hrel:a.qb=f.ql) {v:List Int} (hv:v.length=8) (ha:arg7 a.qa) (hl:a.qa.length≤2) :
  ∃ p,Jb v a f=some p∧(p.2=true↔(fitA v a.qa [f.f_a,f.f_b]).isSome=true)∧∀ u,fitA v a.qa [f.f_a,f.f_b]=some u→p.1=u:=by
 have h:=Da f a (by simp[hrel]) a.qa 0 v ha (by omega) hv
 have e:Jb v a f=qm f (qr a f) a.qa 0 v (List.replicate 8 0):=by
  unfold Jb;rw[ZJ (by cases v <;> simp_all),ZJ (qN (by omega))]
 rw[List.drop_zero]at h;rw[e]
 cases hf:fitA v a.qa [f.f_a,f.f_b] with
 | some u =>
  rw[hf]at h;exact⟨_,h,by simp,fun w hw=>by cases hw;rfl⟩
 | none =>
  rw[hf]at h;obtain⟨u,hu⟩:=h;exact⟨_,hu,by simp,fun w hw=>by cases hw⟩
def groundA (v args:List Int):List Int:=args.map fun x=>if x<0 then 0 - x else v.getD x.toNat 0
def mkF (rel:Int) (g:List Int):rufact:=⟨rel,g.getD 0 0,g.getD 1 0⟩
def groundF (v:List Int) (a:qj):rufact:=mkF a.qb (groundA v a.qa)
theorem NM {v:List Int} (hv:v.length=8) {a:qj} (ha:arg7 a.qa) (hl:a.qa.length≤2):qQ v a=some (groundF v a):=by
 have step:∀ (x:Int) (r:List Int) (k:Nat) (w:List Int) (K:List Int→Option rufact),-6≤x∧x≤7→k<2→w.length=2→qA v K (x::r) k w=qA v K r (k+1) (w.set k (if x<0 then 0 - x else v.getD x.toNat 0)):=by
  intro x r k w K hx hk hw;rw[qA]
  by_cases hneg:x<0
  ·rw[decide_eq_true hneg,cond_true,if_pos hneg,ZJ (decide_eq_true ⟨by omega,by omega,by omega⟩),ZJ (decide_eq_true (by simp;omega)),wrap64 (by omega) (by omega)];unfold jE
   simp
  ·rw[decide_eq_false hneg,cond_false,if_neg hneg,ZJ (dec8 (by omega) hx.2),get8 hv (by omega) hx.2];simp only[Option.bind_some];rw[ZJ (decide_eq_true ⟨by omega,by omega,by omega⟩),ZJ (decide_eq_true (by simp;omega))];unfold jE
   simp
 unfold qQ;rw[ZJ (by cases v <;> simp_all),ZJ (qN (by omega))];obtain⟨rel,args⟩:=a;simp only at ha hl
 match args,ha,hl with
 | [],_,_=>rfl
 | [x],ha,_ =>
  show qA v _ [x] 0 (List.replicate 2 0)=_;rw[step x [] 0 _ _ (ha x (by simp)) (by omega) (by simp)];rfl
 | [x,y],ha,_ =>
  show qA v _ [x,y] 0 (List.replicate 2 0)=_;rw[step x [y] 0 _ _ (ha x (by simp)) (by omega) (by simp),step y [] 1 _ _ (ha y (by simp)) (by omega) (by simp)];rfl
 | x::y::z::r,_,hl=>simp at hl
end Go.AM
namespace Go.AM
open Go.Proofs
open Classical
def toA (a:rf2Atom):qj:=⟨a.qb,a.qa⟩
def toL (x:rf3Lit):ruLit:=⟨x.qn,toA x.qe⟩
def toR (r:rf3Rule):ruRule:=⟨toA r.qc,r.qd.map toL⟩
theorem qgg {a:rf2Atom} (h:fitP a.qb a.qa):cvA a=toA a:=by
 unfold cvA toA;rw[VD h]
theorem qge {r:rf3Rule} (h:okR r):cvR r=toR r:=by
 unfold cvR toR;rw[qgg h.1,List.take_of_length_le (by have:=h.2.1;omega)]
 congr 1
 refine List.map_congr_left fun x hx=>?_
 unfold cvL toL;rw[qgg (h.2.2.1 x hx)]
def InstP (P:rufact→Prop):List ruLit→List Int→List Int→Prop
 | [],v,w=>w=v
 | x::body,v,w=>(x.qn=true∧InstP P body v w)∨(x.qn=false∧∃ g u,P g∧g.ql=x.qe.qb∧(argsF g).length=x.qe.qa.length∧fitA v x.qe.qa (argsF g)=some u∧InstP P body u w)
def setB (S:List Bool) (g:rufact):Prop:=okU1 g∧S.getD (codeF g) false=true
end Go.AM
