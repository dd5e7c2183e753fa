import Derived.Test.YtoiejpkfpjingaaASimG
set_option linter.all false
open Nat renaming eq_of_beq_eq_true→A0, le_refl→A2, le_of_ble_eq_true→A5, zero_add→A6, mul_le_mul_right→A7, add_mul→B7, lt_add_of_pos_left→E0
open List renaming eq_nil_of_length_eq_zero→A1, getElem?_take→A3, getElem?_append_left→A8, getElem?_drop→A9, append_assoc→B5, length_append→B6, getElem?_eq_getElem→B9, getElem?_append_right→C4, take_left→C6, size_toArray→C7, nil_append→C8, mem_of_getElem?→D0, mem_append_left→D7, mem_of_mem_drop→D8, mem_of_mem_take→D9
open Bool renaming and_eq_true→A4
open Array renaming ext'→C5, toList_append→D5, length_toList→D6, getElem?_push→E8, getElem?_modify→E9
open Go.Sem renaming run_bind→D1
open Option renaming map_eq_some_iff→D2
open Go.World renaming grownBy_alloc→D3
open Go.MapKept renaming run_getObj_map→D4, run_setObj_map→E7
namespace Go.AM
open Go.RowKit
section
variable {bs:Base} {n:Nat} {M:Mem} {O:Gh} {env:Env} {a:Act} {w:World} {P:Program}
def addPart (M:Mem) (g len:Nat) (us:Array Value):Mem:=fun b o=>if b=g∧o<len then cellsAt us o else M b o
theorem Hu (xs ys:List AV):flat (xs++ys)=flat xs++flat ys:=by simp[flat]
theorem NX (w:World) (t ty e:TypeId) (i:TypeInfo) (ht:P.underlying t=some (.slice e)) (hi:P.info? e=some i)
  (g off sLen sCap:Nat) (cur:Array Value) (hg:w.heap[g]? = some (.cells cur e (0,0)))
  (a:Addr) (m c:Nat) (news:List Value) (hl:news.length=m * i.size) (hnews:∀ j u,news[j]? = some u→w.cell? (a.add j)=some u) (h1:∀ u∈news,u.oneCell'=true)
  (hroom:sLen+m≤sCap) (hfit:off+sLen * i.size+news.length≤cur.size) :
  (Builtin.append_ #[t,t] ty #[.slice (some ⟨g,off,none⟩) sLen sCap,.slice (some a) m c]).run P w =
   .ok (.slice (some ⟨g,off,none⟩) (sLen+m) sCap) (w.setRow g (cur.toList.take (off+sLen * i.size)++news++cur.toList.drop (off+sLen * i.size+news.length)).toArray):=by
 have hf:=run_firstCells_some (P:=P) w i.size m a m c news hl hnews;have hst:=run_storeCells_at P g (off+sLen * i.size) e news 0 cur w hg (by simpa using hfit) h1;simp only[Nat.add_zero]at hst;simp[Builtin.append_,run_underlying ht,sizeOf,typeInfo,hi,Builtin.lenOf,hroom,hf,Addr.add_lit,hst]
theorem NF {t e:Nat} {i:TypeInfo} {z:Value} {s:Nat} (ty:Nat) (ht:P.underlying t=some (.slice e)) (hi:P.info? e=some i) (hz:i.zero=some z) (hsz:i.size=s) (hs0:0<s) (hzs:z.cells.size=s)
  {sv yv:Value} {xn m:Nat} {olds news:List Value} (hol:olds.length=xn * s) (hnl:news.length=m * s)
  (hsv:(sv=.slice none 0 0∧xn=0)∨∃ g off cap cur,sv=.slice (some ⟨g,off,none⟩) xn cap∧w.heap[g]? = some (.cells cur e (0,0))∧cur.size=off+cap * s∧xn≤cap∧cap≤maxLen∧(cur.toList.drop off).take (xn * s)=olds)
  (hyv:(yv=.slice none 0 0∧m=0)∨∃ ad c,yv=.slice (some ad) m c∧∀ (j:Nat) u,news[j]? = some u→w.cell? (ad.add j)=some u)
  (h1:∀ u∈news,u.oneCell'=true) (hb1:(xn+m) * i.bytes≤140737488355328) (hb2:xn+m≤140737488355328) :
  ∃ v' w',(Builtin.append_ #[t,t] ty #[sv,yv]).run P w=.ok v' w' ∧
   ((v'=.slice none 0 0∧xn+m=0∧w'=w) ∨
    (∃ g off cap cur cur',sv=.slice (some ⟨g,off,none⟩) xn cap∧w.heap[g]? = some (.cells cur e (0,0))∧v'=.slice (some ⟨g,off,none⟩) (xn+m) cap∧w'=w.setRow g cur'∧cur'.size=off+cap * s∧xn+m≤cap∧cap≤maxLen∧(cur'.toList.drop off).take ((xn+m) * s)=olds++news∧cur'.toList.take off=cur.toList.take off) ∨
    (∃ cap cur',v'=.slice (some ⟨w.heap.size,0,none⟩) (xn+m) cap∧w'=w.drew.alloc (.cells cur' e)∧cur'.size=cap * s∧xn+m≤cap∧cap≤maxLen∧cur'.toList.take ((xn+m) * s)=olds++news)):=by
 subst hsz
 have hmax:xn+m≤maxLen:=by unfold maxLen;omega
 rcases hyv with ⟨rfl,rfl⟩ | ⟨ad,c,rfl,hnews'⟩
 ·
  have hn:news=[]:=A1 (by simpa using hnl);subst hn
  rcases hsv with ⟨rfl,rfl⟩ | ⟨g,off,cap,cur,rfl,hg,hcs,hxc,hcm,htk⟩
  ·refine⟨.slice none 0 0,w,?_,.inl ⟨rfl,rfl,rfl⟩⟩;simp[Builtin.append_,run_underlying ht,sizeOf,typeInfo,hi,Builtin.lenOf,Builtin.firstCells]
  ·refine⟨.slice (some ⟨g,off,none⟩) xn cap,w,?_,.inr (.inl ⟨g,off,cap,cur,cur,rfl,hg,rfl,?_,hcs,hxc,hcm,by simpa using htk,rfl⟩)⟩
   ·simp[Builtin.append_,run_underlying ht,sizeOf,typeInfo,hi,Builtin.lenOf,Builtin.firstCells,hxc,storeCells]
   ·rw[setRow_self w g cur e (0,0) hg]
 ·have htake:∀ (k:Nat),(olds.toArray++news.toArray++Builtin.zeroCells z.cells k).toList.take ((xn+m) * i.size)=olds++news:=by
   intro k;simp only[D5,B5];rw[← B5]
   have:(xn+m) * i.size=(olds++news).length:=by rw[B6,hol,hnl,B7]
   rw[this];exact C6
  have hsize:∀ (k:Nat),(olds.toArray++news.toArray++Builtin.zeroCells z.cells k).size=(xn+m+k) * i.size:=by
   intro k;simp only[Array.size_append,C7,size_zeroCells,hzs,hol,hnl,B7]
  rcases hsv with ⟨rfl,rfl⟩ | ⟨g,off,cap,cur,rfl,hg,hcs,hxc,hcm,htk⟩
  ·have ho:olds=[]:=A1 (by simpa using hol);subst ho;by_cases hm:m=0
   ·subst hm;have hn:news=[]:=A1 (by simpa using hnl);subst hn;refine⟨.slice none 0 0,w,?_,.inl ⟨rfl,rfl,rfl⟩⟩;simp[Builtin.append_,run_underlying ht,sizeOf,typeInfo,hi,Builtin.lenOf,Builtin.firstCells,loadCells,loadCellsFrom]
   ·have hr:=run_append_nil (P:=P) w t ty e i z ht hi hz ad m c news hnl hnews' (by omega) (by unfold maxLen at hmax;omega) (by simp only[A6]at hb1;omega);have hge:=grownCap_ge w m 0 e;have hcm:=grownCap_le_maxLen w m 0 e (by simpa using hmax);refine⟨_,_,hr,.inr (.inr ⟨_,_,by rw[A6],rfl,?_,by rw[A6];exact hge,hcm,?_⟩)⟩
    ·have:=hsize (grownCap w m 0 e - m);simp only[A6]at this
     have e1:m+(grownCap w m 0 e - m)=grownCap w m 0 e:=by omega
     rw[e1]at this
     simpa using this
    ·simpa using htake (grownCap w m 0 e - m)
  ·by_cases hroom:xn+m≤cap
   ·have hfit0:xn * i.size+news.length≤cap * i.size:=by rw[hnl,← B7];exact A7 _ hroom
    have hfit:off+xn * i.size+news.length≤cur.size:=by rw[hcs];omega
    have hr:=NX (P:=P) w t ty e i ht hi g off xn cap cur hg ad m c news hnl hnews' h1 hroom hfit
    have hcut:cur.toList.take (off+xn * i.size)=cur.toList.take off++olds:=by rw[List.take_add,htk]
    have hoff:(cur.toList.take off).length=off:=by rw[List.length_take,D6];omega
    refine⟨_,_,hr,.inr (.inl ⟨g,off,cap,cur,_,rfl,hg,rfl,rfl,?_,hroom,hcm,?_,?_⟩)⟩
    ·simp only[C7,B6,List.length_take,List.length_drop,D6];omega
    ·rw[hcut];simp only[B5];rw[List.drop_append_of_le_length (by omega),List.drop_eq_nil_of_le (by omega),C8,← B5]
     have:(xn+m) * i.size=(olds++news).length:=by rw[B6,hol,hnl,B7]
     rw[this];exact C6
    ·rw[hcut];simp only[B5];rw[List.take_append_of_le_length (by omega),List.take_of_length_le (by omega)]
   ·have holds:∀ (j:Nat) u,olds[j]? = some u→w.cell? ((⟨g,off,none⟩:Addr).add j)=some u:=by
     intro j u hu;rw[QN];unfold World.cell?;rw[hg];rw[← htk,A3]at hu;split at hu
     ·rw[A9]at hu
      simpa using hu
     ·cases hu
    have hr:=run_append_grow (P:=P) w t ty e i z ht hi hz ⟨g,off,none⟩ xn cap olds hol holds ad m c news hnl hnews' (by omega) (by unfold maxLen at hmax;omega) (growslice_fits (by omega) hb1);have hge:=grownCap_ge w (xn+m) cap e;have hcm':=grownCap_le_maxLen w (xn+m) cap e hmax;refine⟨_,_,hr,.inr (.inr ⟨_,_,rfl,rfl,?_,hge,hcm',htake _⟩)⟩;rw[hsize]
    congr 1
    omega
theorem HU {t e:Nat} {i:TypeInfo} {z:Value} {s:Nat} (ty:Nat) (ht:P.underlying t=some (.slice e)) (hi:P.info? e=some i) (hz:i.zero=some z) (hsz:i.size=s) (hs0:0<s) (hzs:z.cells.size=s)
  {sv yv:Value} {xn m:Nat} {olds news:List Value} (hol:olds.length=xn * s) (hnl:news.length=m * s)
  (hsv:(sv=.slice none 0 0∧xn=0)∨∃ g cap cur,sv=.slice (some ⟨g,0,none⟩) xn cap∧w.heap[g]? = some (.cells cur e (0,0))∧cur.size=cap * s∧xn≤cap∧cap≤maxLen∧cur.toList.take (xn * s)=olds)
  (hyv:(yv=.slice none 0 0∧m=0)∨∃ ad c,yv=.slice (some ad) m c∧∀ (j:Nat) u,news[j]? = some u→w.cell? (ad.add j)=some u)
  (h1:∀ u∈news,u.oneCell'=true) (hb1:(xn+m) * i.bytes≤140737488355328) (hb2:xn+m≤140737488355328) :
  ∃ v' w',(Builtin.append_ #[t,t] ty #[sv,yv]).run P w=.ok v' w' ∧
   ((v'=.slice none 0 0∧xn+m=0∧w'=w) ∨
    (∃ g cap cur cur',sv=.slice (some ⟨g,0,none⟩) xn cap∧w.heap[g]? = some (.cells cur e (0,0))∧v'=.slice (some ⟨g,0,none⟩) (xn+m) cap∧w'=w.setRow g cur'∧cur'.size=cap * s∧xn+m≤cap∧cap≤maxLen∧cur'.toList.take ((xn+m) * s)=olds++news) ∨
    (∃ cap cur',v'=.slice (some ⟨w.heap.size,0,none⟩) (xn+m) cap∧w'=w.drew.alloc (.cells cur' e)∧cur'.size=cap * s∧xn+m≤cap∧cap≤maxLen∧cur'.toList.take ((xn+m) * s)=olds++news)):=by
 obtain⟨v',w',h,hw⟩:=NF (w:=w) (P:=P) ty ht hi hz hsz hs0 hzs (sv:=sv) hol hnl (by
  rcases hsv with hsv | ⟨g,cap,cur,q1,q2,q3,q4,q5,q6⟩
  ·exact .inl hsv
  ·exact .inr ⟨g,0,cap,cur,q1,q2,by omega,q4,q5,by simpa using q6⟩) hyv h1 hb1 hb2
 refine⟨v',w',h,?_⟩
 rcases hw with hw | ⟨g,off,cap,cur,cur',q1,q2,q3,q4,q5,q6,q7,q8,_⟩ | hw
 ·exact .inl hw
 ·rcases hsv with ⟨rfl,_⟩ | ⟨g0,cap0,cur0,p1,_⟩
  ·cases q1
  ·rw[p1]at q1;cases q1;exact .inr (.inl ⟨g,cap,cur,cur',p1,q2,q3,q4,by omega,q6,q7,by simpa using q8⟩)
 ·exact .inr (.inr hw)
theorem NG {t e:Nat} {i:TypeInfo} {z:Value} {s:Nat} (ty:Nat) (ht:P.underlying t=some (.slice e)) (hi:P.info? e=some i) (hz:i.zero=some z) (hsz:i.size=s) (hs0:0<s) (hzs:z.cells.size=s)
  {ad:Option Addr} {yv:Value} {m:Nat} {news:List Value} (hnl:news.length=m * s)
  (hyv:(yv=.slice none 0 0∧m=0)∨∃ ad c,yv=.slice (some ad) m c∧∀ (j:Nat) u,news[j]? = some u→w.cell? (ad.add j)=some u)
  (h1:∀ u∈news,u.oneCell'=true) (hb1:(0+m) * i.bytes≤140737488355328) (hb2:0+m≤140737488355328) :
  ∃ v' w',(Builtin.append_ #[t,t] ty #[.slice ad 0 0,yv]).run P w=.ok v' w' ∧
   ((m=0∧(∃ ad,v'=.slice ad 0 0)∧w'=w) ∨
    (∃ cap cur',v'=.slice (some ⟨w.heap.size,0,none⟩) (0+m) cap∧w'=w.drew.alloc (.cells cur' e)∧cur'.size=cap * s∧0+m≤cap∧cap≤maxLen∧cur'.toList.take ((0+m) * s)=[]++news)):=by
 cases ad with
 | none =>
  obtain⟨v',w',hr,hw⟩:=HU (w:=w) (P:=P) (olds:=[]) ty ht hi hz hsz hs0 hzs (by simp) hnl (.inl ⟨rfl,rfl⟩) hyv h1 hb1 hb2;refine⟨v',w',hr,?_⟩
  rcases hw with ⟨q1,q2,q3⟩ | ⟨g,cap,cur,cur',q1,_⟩ | q
  ·exact .inl ⟨by omega,⟨none,q1⟩,q3⟩
  ·cases q1
  ·exact .inr q
 | some ad =>
  subst hsz;by_cases hm:m=0
  ·subst hm;have hn:news=[]:=A1 (by simpa using hnl);subst hn;refine⟨.slice (some ad) 0 0,w,?_,.inl ⟨rfl,⟨_,rfl⟩,rfl⟩⟩
   rcases hyv with ⟨rfl,_⟩ | ⟨ad',c,rfl,_⟩
   ·simp[Builtin.append_,run_underlying ht,sizeOf,typeInfo,hi,Builtin.lenOf,Builtin.firstCells,storeCells]
   ·simp[Builtin.append_,run_underlying ht,sizeOf,typeInfo,hi,Builtin.lenOf,Builtin.firstCells,loadCells,loadCellsFrom,storeCells]
  ·rcases hyv with ⟨_,h0⟩ | ⟨ad',c,rfl,hnews'⟩
   ·exact absurd h0 hm
   have hr:=run_append_grow (P:=P) w t ty e i z ht hi hz ad 0 0 [] (by simp) (by simp) ad' m c news hnl hnews' (by omega) (by omega) (growslice_fits (by omega) (by simpa using hb1));have hge:=grownCap_ge w m 0 e;have hcm:=grownCap_le_maxLen w m 0 e (by unfold maxLen;omega);refine⟨_,_,hr,.inr ⟨_,_,rfl,rfl,?_,by simpa using hge,by simpa using hcm,?_⟩⟩
   ·simp only[Array.size_append,C7,size_zeroCells,hzs,hnl,C8,A6,List.length_nil];rw[← B7]
    congr 1
    omega
   ·simp only[D5,C8,A6];rw[← hnl];exact C6
theorem UN {d:Nat} {env:Env} (hn:labIn d env=false) {t:Nat} {x:AV} (h:look env t=some x):x.hasLabB d=false:=by
 obtain⟨q,hq,_,h2⟩:=Vb h;unfold labIn at hn;rw[List.any_eq_false]at hn;have:=hn q hq;rw[h2]at this
 simpa using this
theorem Inv.setOwn (h:Inv bs n M O env a w) {d g:Nat} (hn:labIn d env=false) (hd:O false d=none) (hg:∀ i c,O i c≠some g) (hB:¬ bs.D g) (hs:g<w.heap.size):Inv bs n M (setO O false d (some g)) env a w:=by
 have hmono:∀ i c g',O i c=some g'→setO O false d (some g) i c=some g':=by
  intro i c g' hg';rw[Jw];split
  ·rename_i e;rw[e.1,e.2,hd]at hg';cases hg'
  ·exact hg'
 refine⟨h.size,h.defers,h.below,h.hB,h.cons,h.ext,h.old,?_,?_,⟨h.fix.1,fun c k1 k2=>?_⟩,fun t x hx=>(h.slots t x hx).change (Sub.refl M) (JL O d (some g)) fun i c g' hg'=>⟨hmono i c g' hg',rfl,fun _ hm=>hm⟩⟩
 ·intro i c g' hg';rw[Jw]at hg';split at hg'
  ·cases hg';exact⟨hB,hs⟩
  ·exact h.own i c g' hg'
 ·intro i i' c c' g' h1 h2;rw[Jw]at h1 h2;split at h1 <;> split at h2
  ·rename_i e1 e2;exact⟨e1.1.trans e2.1.symm,e1.2.trans e2.2.symm⟩
  ·cases h1;exact absurd h2 (hg i' c')
  ·cases h2;exact absurd h1 (hg i c)
  ·exact h.inj i i' c c' g' h1 h2
 ·obtain⟨e1,e2,e3⟩:=h.fix.2 c k1 k2;exact⟨(JL O d (some g) c).1.trans e1,e2,e3⟩
theorem mcRow {w:World} {g o:Nat} {cur:Array Value} {e:Nat} {fr:Nat×Nat} (h:w.heap[g]? = some (.cells cur e fr)):mc w g o=cellsAt cur o:=by
 unfold mc;rw[h]
theorem mcRowAt {w:World} {g o e:Nat} {cur:Array Value} (h:RowAt w g cur e):mc w g o=cellsAt cur o:=by
 obtain⟨el,fz,h1,_⟩:=h;exact mcRow h1
theorem UG {us us':Array Value} {o:Nat} (h:us[o]? = us'[o]?):cellsAt us o=cellsAt us' o:=by
 unfold cellsAt;rw[h]
theorem Vc {xs:List AV} (h:∀ x,x∈xs→x.cells.all AV.one=true) {j:Nat} {c:AV} (hc:(flat xs)[j]? = some c):c.one=true:=by
 obtain⟨x,hx,hcx⟩:=List.mem_flatMap.1 (D0 hc);exact List.all_eq_true.1 (h x hx) c hcx
theorem qao (h:Inv bs n M O env a w) {d e s:Nat} (hn:labIn d env=false) (hd:O false d=none) {xs ys:List AV} {olds news:List Value} {w':World} {v':Value} {cur':Array Value} {g off cap:Nat} {row:Option Nat}
  (hrow:∀ k,row=some k→k=g) (hfresh:g<w.heap.size→row=some g) (hw:w.grownBy w' row) (hB:¬ bs.D g) (hg:∀ i c,O i c≠some g) (hg':w'.heap[g]? = some (.cells cur' e (0,0))) (hsz:cur'.size=off+cap * s) (hcap:xs.length+ys.length≤cap) (hmax:cap≤maxLen)
  (htake:(cur'.toList.drop off).take ((xs.length+ys.length) * s)=olds++news) (hol:olds.length=xs.length * s)
  (hMg:∀ o,M g o=none∨(o<off+xs.length * s∧M g o=cellsAt cur' o))
  (hxs:∀ x,x∈xs++ys→x.cells.length=s) (hx1:∀ x,x∈xs++ys→x.cells.all AV.one=true)
  (hro:∀ (j:Nat) c u,(flat xs)[j]? = some c→olds[j]? = some u→R M c u) (hrn:∀ (j:Nat) c u,(flat ys)[j]? = some c→news[j]? = some u→R M c u) (hdn:d<n) (hv:v'=.slice (some ⟨g,off,none⟩) (xs.length+ys.length) cap) :
  ∃ M' O',Inv bs n M' O' (ins d (.lst e s (some d) (xs++ys)) env) (a.put (some d) v') w':=by
 subst hv;have hgs:g<w'.heap.size:=(Array.getElem?_eq_some_iff.1 hg').1
 have hle:off+(xs.length+ys.length) * s≤cur'.size:=by rw[hsz];exact Nat.add_le_add_left (A7 _ hcap) _
 have hmul:xs.length * s≤(xs.length+ys.length) * s:=A7 _ (Nat.le_add_right _ _)
 have hcur:∀ j,j<(xs.length+ys.length) * s→cur'[off+j]? = (olds++news)[j]?:=by
  intro j hj;rw[← htake,A3,if_pos hj,A9];simp
 have hM':Sub M (addPart M g (off+(xs.length+ys.length) * s) cur'):=by
  intro b o u hu;unfold addPart;split
  ·rename_i hc;obtain⟨rfl,hlt⟩:=hc
   rcases hMg o with h1 | ⟨h1,h2⟩
   ·rw[h1]at hu;cases hu
   ·rw[← h2];exact hu
  ·exact hu
 have hC:Cons (addPart M g (off+(xs.length+ys.length) * s) cur') w':=by
  intro b o u hu;unfold addPart at hu;split at hu
  ·rename_i hc;obtain⟨rfl,hlt⟩:=hc;rw[mcRow hg'];exact hu
  ·rename_i hc;have hb:=VE (h.cons b o u hu);by_cases hbg:b=g
   ·subst hbg
    rcases hMg o with h1 | ⟨h1,h2⟩
    ·rw[h1]at hu;cases hu
    ·exact absurd ⟨rfl,by omega⟩ hc
   ·rw[Xq (hw.block b hb (fun e=>hbg (hrow b e.symm)))];exact h.cons b o u hu
 have h2:=h.grown (row:=row) (M':=addPart M g (off+(xs.length+ys.length) * s) cur') (fun k hk=>by rw[hrow k hk];exact⟨hB,hg⟩) hw hM' hC (fun b o hb hne=>by
  unfold addPart;rw[if_neg]
  rintro⟨rfl,_⟩
  exact hne (hfresh hb).symm)
 have h3:=h2.setOwn hn hd hg hB hgs
 have hP1:∀ o,o<off+(xs.length+ys.length) * s→addPart M g (off+(xs.length+ys.length) * s) cur' g o=cellsAt cur' o:=by
  intro o ho;unfold addPart;rw[if_pos ⟨rfl,ho⟩]
 have hP2:∀ o,off+(xs.length+ys.length) * s≤o→addPart M g (off+(xs.length+ys.length) * s) cur' g o=M g o:=by
  intro o ho;unfold addPart;rw[if_neg (by omega)]
 generalize addPart M g (off+(xs.length+ys.length) * s) cur'=M' at hM' hC h2 h3 hP1 hP2;refine⟨_,_,h3.put hdn (x:=.lst e s (some d) (xs++ys)) ⟨?_,?_⟩⟩
 ·have hlen:xs.length+ys.length=(xs++ys).length:=by simp
  rw[hlen];have hfl:=Jc hxs
  have hRR:∀ (j:Nat) c,(flat (xs++ys))[j]? = some c→R M' c (cur'.getD (off+j) undef):=by
   intro j c hc;have hj:=(List.getElem?_eq_some_iff.1 hc).1;rw[hfl,← hlen]at hj
   have hjc:off+j<cur'.size:=by omega
   have e1:cur'[off+j]? = some (cur'.getD (off+j) undef):=by simp[hjc]
   rw[hcur j hj]at e1;rw[Hu]at hc
   have hfx:(flat xs).length=xs.length * s:=Jc fun x hx=>hxs x (D7 _ hx)
   by_cases hjx:j<xs.length * s
   ·rw[A8 (by rw[hfx];exact hjx)]at hc;rw[A8 (by rw[hol];exact hjx)]at e1;exact (hro j c _ hc e1).mono hM'
   ·rw[C4 (by rw[hfx];omega),hfx]at hc;rw[C4 (by rw[hol];omega),hol]at e1;exact (hrn _ c _ hc e1).mono hM'
  refine R.lst (fun j=>cur'.getD (off+j) undef) (by rw[← hlen];exact hcap) hxs hx1 (fun j c hc=>?_) hRR;have hj:=(List.getElem?_eq_some_iff.1 hc).1;rw[hfl,← hlen]at hj;rw[hP1 (off+j) (by omega)]
  have:off+j<cur'.size:=by omega
  exact JQ (by simp[this]) (XJ ((hRR j c hc).one (Vc hx1 hc)))
 ·have hlen:xs.length+ys.length=(xs++ys).length:=by simp
  rw[hlen];refine .inr ⟨g,off,cap,cur',rfl,by simp[setO],hg',hsz,by rw[← hlen];exact hcap,hmax,fun o ho=>?_⟩;rw[← hlen]at ho;rw[hP2 o ho]
  rcases hMg o with h1 | ⟨h1,_⟩
  ·exact h1
  ·omega
theorem qgN {l:Nat} {m:Option Nat}:∀ i c g,relO O l m i c=some g→∃ c',O i c'=some g∧(i=false→(c'=l∧m=some c)∨(c'=c∧c≠l∧m≠some c))∧(i=true→c'=c):=by
 intro i c g hg
 cases i with
 | true=>rw[qfC]at hg;exact⟨c,hg,(fun e=>by cases e),fun _=>rfl⟩
 | false =>
  cases m with
  | none =>
   simp only[relO,setO]at hg;split at hg
   ·cases hg
   ·rename_i hne;exact⟨c,hg,(fun _=>.inr ⟨rfl,(fun e=>hne ⟨trivial,e⟩),(fun e=>by cases e)⟩),fun _=>rfl⟩
  | some c1 =>
   simp only[relO,setO]at hg;split at hg
   ·cases hg
   ·rename_i hne;split at hg
    ·rename_i he;exact⟨l,hg,(fun _=>.inl ⟨rfl,by rw[he.2]⟩),fun e=>by cases e⟩
    ·rename_i he;exact⟨c,hg,(fun _=>.inr ⟨rfl,(fun e=>hne ⟨trivial,e⟩),(fun e=>he ⟨trivial,by cases e;rfl⟩)⟩),fun _=>rfl⟩
theorem qaH (h:Inv bs n M O env a w) {o:Oper} {args:Array Operand} {ats:Array TypeId} (ho:o.op=.call { callee:=.builtin .append,args:=args,argTypes:=ats }) {env':Env} (he:astep P n o env=some env')
  (hO:∀ (x y:Operand) (t t' d id ex kx off m:Nat) (q:AV),args.toList=[x,y]→ats.toList=[t,t']→o.dst=some d→aop env x=some (.sb id ex kx off m)→aop env y=some q→ZE P n t t' d (.sb id ex kx off m) q env=some env'→Leads P bs n o a w env'):Leads P bs n o a w env':=by
 unfold astep at he;rw[ho]at he;simp only at he;split at he
 case h_2=>cases he
 rename_i x y t t' d ha ht hd;split at he
 case h_3=>cases he
 case h_1 =>
  rename_i id ex kx off m q hp hq;exact hO x y t t' d id ex kx off m q ha ht hd hp hq he
 rename_i p q hns hp hq;split at he
 case h_2=>cases he
 rename_i r env1 hap
 have ea:args=#[x,y]:=by apply C5;simpa using ha
 have et:ats=#[t,t']:=by apply C5;simpa using ht
 subst ea;subst et;have hxv:=qD h hp;have hyv:=qD h hq;unfold aappend at hap;split at hap
 case h_2=>cases hap
 rename_i e s hse;obtain⟨hu,hs⟩:=JK hse;split at hap
 ·cases hap
 rename_i hc;simp only[A4]at hc;obtain⟨⟨hc1,hc2⟩,hc3⟩:=hc;have hc1:=A0 hc1;subst hc1;have hc2:0<s:=A5 hc2
 obtain⟨ie,hie,hsz⟩:∃ ie,P.info? e=some ie∧ie.size=s:=by
  unfold tSize at hs
  cases hi:P.info? e with
  | none=>rw[hi]at hs;cases hs
  | some ie=>rw[hi]at hs;exact⟨ie,rfl,Option.some.inj hs⟩
 obtain⟨z,hz,hzs⟩:∃ z,ie.zero=some z∧z.cells.size=s:=by
  rw[hie]at hc3;simp only[Option.bind_some]at hc3
  cases hz:ie.zero with
  | none=>rw[hz]at hc3;cases hc3
  | some z=>rw[hz]at hc3;exact⟨z,rfl,A0 hc3⟩
 have hexec:∀ v' w',(Builtin.append_ #[t,t] o.type #[a.eval x,a.eval y]).run P w=.ok v' w'→(execOp a.eval o).run P w=.ok (.value v') w':=by
  intro v' w' hr;unfold execOp;rw[ho];simp only[resolve,invoke,builtin,D1,Sem.run_pure,Result.andThen_ok,List.map_toArray,List.map_cons,List.map_nil,hr]
 split at hap
 ·cases hap
 case h_3=>cases hap
 rename_i ey ky lab ys;split at hap
 ·cases hap
 rename_i hky;have hky:=A0 hky;subst hky
 obtain⟨news,hnl,hnv,hn1,hnr,hyc,hyo⟩:∃ news:List Value,news.length=ys.length * ky∧((a.eval y=.slice none 0 0∧ys.length=0)∨∃ ad c,a.eval y=.slice (some ad) ys.length c∧∀ (j:Nat) u,news[j]? = some u→w.cell? (ad.add j)=some u)∧(∀ u∈news,u.oneCell'=true)∧(∀ (j:Nat) c u,(flat ys)[j]? = some c→news[j]? = some u→R M c u)∧(∀ x,x∈ys→x.cells.length=ky)∧(∀ x,x∈ys→x.cells.all AV.one=true):=by
  rcases hyv.1.lst_inv with ⟨rfl,hv | ⟨ad,cap,hv⟩⟩ | ⟨b,off,cap,us,hv,h1,h2,h3,h4,h5⟩
  ·exact⟨[],by simp,.inl ⟨hv,rfl⟩,by simp,by simp[flat],by simp,by simp⟩
  ·exact⟨[],by simp,.inr ⟨ad,cap,hv,by simp⟩,by simp,by simp[flat],by simp,by simp⟩
  ·have hfl:=Jc h2;refine⟨(List.range (ys.length * ky)).map us,by simp,.inr ⟨_,cap,hv,fun j u hu=>?_⟩,?_,?_,h2,h5⟩
   ·rw[QN];rw[Qa]at hu;split at hu
    ·rename_i hj;cases hu;have hcj:(flat ys)[j]? = some ((flat ys)[j]'(by rw[hfl];exact hj)):=B9 (by rw[hfl];exact hj);exact YL (h.cons _ _ _ (h3 j _ hcj)) (XJ ((h4 j _ hcj).one (Vc h5 hcj)))
    ·cases hu
   ·intro u hu;obtain⟨j,hj,rfl⟩:=List.mem_map.1 hu
    have hj':j<(flat ys).length:=by rw[hfl];exact List.mem_range.1 hj
    have hjg:=B9 hj';refine (h4 j _ hjg).one ?_;have hm:=D0 hjg;unfold flat at hm;obtain⟨x',hx',hcx⟩:=List.mem_flatMap.1 hm;have:=h5 x' hx';rw[List.all_eq_true]at this;exact this _ hcx
   ·intro j c u hc hu;rw[Qa]at hu;split at hu
    ·cases hu;exact h4 j c hc
    ·cases hu
 have core:∀ (O2:Gh) (env2:Env) (xs:List AV) (olds:List Value),Inv bs n M O2 env2 a w→labIn d env2=false→O2 false d=none →
   olds.length=xs.length * ky→(∀ x,x∈xs→x.cells.length=ky)→(∀ x,x∈xs→x.cells.all AV.one=true)→(∀ (j:Nat) c u,(flat xs)[j]? = some c→olds[j]? = some u→R M c u) →
   (((∃ ad,a.eval x=.slice ad 0 0)∧xs.length=0)∨∃ g off cap cur,a.eval x=.slice (some ⟨g,off,none⟩) xs.length cap∧w.heap[g]? = some (.cells cur e (0,0))∧cur.size=off+cap * ky∧xs.length≤cap∧cap≤maxLen∧(cur.toList.drop off).take (xs.length * ky)=olds∧¬ bs.D g∧(∀ i c,O2 i c≠some g)∧∀ o,M g o=none∨(o<off+xs.length * ky∧M g o=cellsAt cur o)) →
   (xs.length+ys.length) * ie.bytes≤140737488355328→xs.length+ys.length≤140737488355328→eput n o.dst (.lst e ky (some d) (xs++ys)) env2=some env'→Leads P bs n o a w env':=by
  intro O2 env2 xs olds h2 hn2 hd2 hol hxc hxo hro hx2 hb1 hb2 he2;rw[hd]at he2;obtain⟨hdn,rfl⟩:=ZA he2;have hBle:¬ bs.D w.heap.size:=h.fresh (A2 _)
  have hxs:∀ x,x∈xs++ys→x.cells.length=ky:=fun x hx=>(List.mem_append.1 hx).elim (hxc x) (hyc x)
  have hxo':∀ x,x∈xs++ys→x.cells.all AV.one=true:=fun x hx=>(List.mem_append.1 hx).elim (hxo x) (hyo x)
  have grow:∀ v' w',(Builtin.append_ #[t,t] o.type #[a.eval x,a.eval y]).run P w=.ok v' w'→(∃ cap cur',v'=.slice (some ⟨w.heap.size,0,none⟩) (xs.length+ys.length) cap∧w'=w.drew.alloc (.cells cur' e)∧cur'.size=cap * ky∧xs.length+ys.length≤cap∧cap≤maxLen∧cur'.toList.take ((xs.length+ys.length) * ky)=olds++news)→Leads P bs n o a w (ins d (.lst e ky (some d) (xs++ys)) env2):=by
   rintro v' w' hrun ⟨cap,cur',rfl,rfl,k5,k6,k7,k8⟩
   obtain⟨M',O',hfin⟩:=qao h2 (row:=none) hn2 hd2 (xs:=xs) (ys:=ys) (olds:=olds) (news:=news) (g:=w.heap.size) (w':=w.drew.alloc (.cells cur' e)) (fun k hk=>by cases hk) (fun hlt=>by omega) ⟨rfl,rfl,rfl,by simp,fun k hk _=>heap_alloc_old w.drew _ hk⟩ hBle
    (fun i c hc=>by have:=(h2.own i c _ hc).2;omega) (heap_alloc_new w.drew _) (off:=0) (by rw[A6];exact k5) k6 k7 (by rw[List.drop_zero];exact k8) hol (fun o=>.inl (Xg h.cons (A2 _) o)) hxs hxo' hro hnr hdn rfl
   exact⟨_,_,M',O',.inl (hexec _ _ hrun),by rw[hd];exact hfin⟩
  rcases hx2 with ⟨⟨ad,hxa⟩,hx0⟩ | hx2
  ·have hx0':xs=[]:=A1 hx0;subst hx0';have ho0:olds=[]:=A1 (by simpa using hol);subst ho0;obtain⟨v',w',hrun,hways⟩:=NG (w:=w) (P:=P) (t:=t) (e:=e) (i:=ie) (z:=z) (s:=ky) (ad:=ad) o.type hu hie hz hsz hc2 hzs (yv:=a.eval y) hnl hnv hn1 (by simpa using hb1) (by simpa using hb2);rw[← hxa]at hrun
   rcases hways with ⟨hz0,⟨ad',rfl⟩,rfl⟩ | hw
   ·have hy0:ys=[]:=A1 hz0;subst hy0;refine⟨_,_,M,O2,.inl (hexec _ _ hrun),?_⟩;rw[hd];refine h2.put hdn ⟨?_,.inl ⟨ad',rfl⟩⟩
    cases ad' with
    | none=>exact R.lstn e ky (some d)
    | some ad'=>exact R.lste e ky (some d) ad' 0
   ·exact grow v' w' hrun hw
  obtain⟨v',w',hrun,hways⟩:=NF (w:=w) (P:=P) (t:=t) (e:=e) (i:=ie) (z:=z) (s:=ky) o.type hu hie hz hsz hc2 hzs (sv:=a.eval x) (yv:=a.eval y) hol hnl
   (by
    obtain⟨g,off,cap,cur,k1,k2,k3,k4,k5,k6,_⟩:=hx2
    exact .inr ⟨g,off,cap,cur,k1,k2,k3,k4,k5,k6⟩) hnv hn1 hb1 hb2
  rcases hways with ⟨rfl,hz0,rfl⟩ | ⟨g,off,cap,cur,cur',k1,k2,rfl,rfl,k5,k6,k7,k8,k9⟩ | hw
  ·have hx0:xs=[]:=A1 (by omega);have hy0:ys=[]:=A1 (by omega);subst hx0;subst hy0;refine⟨_,_,M,O2,.inl (hexec _ _ hrun),?_⟩;rw[hd];exact h2.put hdn ⟨R.lstn e ky (some d),.inl ⟨none,rfl⟩⟩
  ·obtain⟨g',off',cap',cur1,q1,q2,q3,q4,q5,q6,q7,q8,q9⟩:=hx2
   ·rw[q1]at k1;cases k1
    have q9':∀ o,M g o=none∨(o<off+xs.length * ky∧M g o=cellsAt cur' o):=by
     rw[k2]at q2;cases q2;intro o
     rcases q9 o with h0 | ⟨h0,h0'⟩
     ·exact .inl h0
     ·refine .inr ⟨h0,h0'.trans ?_⟩;by_cases ho:o<off
      ·have e1:=congrArg (fun l=>l[o]?) k9;simp only[A3,if_pos ho]at e1;exact UG (by simpa using e1.symm)
      ·have e1:=congrArg (fun l=>l[o - off]?) q6;have e2:=congrArg (fun l=>l[o - off]?) k8
       have hlt1:o - off<xs.length * ky:=by omega
       have hlt2:o - off<(xs.length+ys.length) * ky:=Nat.lt_of_lt_of_le hlt1 (A7 _ (Nat.le_add_right _ _));simp only[A3,if_pos hlt1,A9]at e1;simp only[A3,if_pos hlt2,A9]at e2;rw[A8 (by omega),← e1]at e2
       have e3:off+(o - off)=o:=by omega
       rw[e3]at e2;exact UG (by simpa using e2.symm)
    obtain⟨M',O',hfin⟩:=qao h2 (row:=some g) hn2 hd2 (xs:=xs) (ys:=ys) (olds:=olds) (news:=news) (fun k hk=>by cases hk;rfl) (fun _=>rfl) (Xi w g cur') q7 q8 (setRow_heap w g cur cur' e _ k2) k5 k6 k7 k8 hol q9' hxs hxo' hro hnr hdn rfl;exact⟨_,_,M',O',.inl (hexec _ _ hrun),by rw[hd];exact hfin⟩
  ·exact grow v' w' hrun hw
 have hbytes:((P.info? e).map (·.bytes)).getD 0=ie.bytes:=by rw[hie];rfl
 split at hap
 ·
  split at hap
  case isFalse=>cases hap
  rename_i hb;cases hap;rw[hbytes]at hb
  have hx0:a.eval x=.slice none 0 0:=by
   have:=hxv.1;generalize a.eval x=yy at this;cases this;rfl
  have h1:=h.relab d none (fun c e=>by cases e);exact core _ _ [] [] h1 (Yn d env) (by simp[relO,setO]) (by simp) (by simp) (by simp) (by simp[flat]) (.inl ⟨⟨none,hx0⟩,rfl⟩) (by simpa using hb.1) (by simpa using hb.2) (by simpa using he)
 ·rename_i ex kx c xs;split at hap
  ·cases hap
  rename_i hk;simp only[A4]at hk;obtain⟨hk1,hk2⟩:=hk;have hk1:=A0 hk1;have hk2:=A0 hk2;subst hk1;subst hk2;split at hap
  case isFalse=>cases hap
  rename_i hb;cases hap;rw[hbytes]at hb;have h1:=h.relab c none (fun c e=>by cases e);have h2:=h1.relab d none (fun c e=>by cases e)
  have hO2:∀ i c' g,relO (relO O c none) d none i c'=some g→O i c'=some g∧¬ (i=false∧c'=c):=by
   intro i c' g hg;obtain⟨c1,g1,f1,t1⟩:=qgN i c' g hg;obtain⟨c2,g2,f2,t2⟩:=qgN i c1 g g1
   cases i with
   | true =>
    rw[t1 rfl]at t2;rw[t2 rfl]at g2;exact⟨g2,fun e=>by cases e.1⟩
   | false =>
    rcases f1 rfl with ⟨_,e⟩ | ⟨e1,_,_⟩
    ·cases e
    rcases f2 rfl with ⟨_,e⟩ | ⟨e2,e3,_⟩
    ·cases e
    rw[e1]at e2 e3;rw[e2]at g2;exact⟨g2,fun e=>e3 e.2⟩
  have hd2:relO (relO O c none) d none false d=none:=by simp[relO,setO]
  have hinv:=hxv.1.lst_inv
  rcases hxv.2 with hv | ⟨g,off,cap,cur,q1,q2,q3,q4,q5,q6,q7⟩
  ·have hx0:xs=[]:=by
    rcases hinv with ⟨e1,_⟩ | ⟨b,off2,cap,us,hv',_⟩
    ·exact e1
    ·obtain⟨ad,hv⟩:=hv;rw[hv]at hv';have:xs.length=0:=(Value.slice.inj hv').2.1.symm;exact A1 this
   subst hx0;exact core _ _ [] [] h2 (Yn d _) hd2 (by simp) (by simp) (by simp) (by simp[flat]) (.inl ⟨hv,rfl⟩) hb.1 hb.2 (by simpa using he)
  ·have known:∀ o,M g o=none∨(o<off+xs.length * kx∧M g o=cellsAt cur o):=by
    intro o;by_cases ho:o<off+xs.length * kx
    ·cases hm:M g o with
     | none=>exact .inl rfl
     | some u =>
      refine .inr ⟨ho,?_⟩;have:=h.cons _ _ _ hm;rw[mcRow q3]at this;exact this.symm
    ·exact .inl (q7 o (by omega))
   rcases hinv with ⟨hx0,hv'⟩ | ⟨b,off2,cap',us,hv',g1,g2,g3,g4,g5⟩
   ·subst hx0;refine core _ _ [] [] h2 (Yn d _) hd2 (by simp) (by simp) (by simp) (by simp[flat]) (.inr ⟨g,off,cap,cur,q1,q3,q4,q5,q6,by simp,(h.own _ _ _ q2).1,fun i c' hc'=>?_,fun o=>?_⟩) hb.1 hb.2 (by simpa using he)
    ·obtain⟨k1,k2⟩:=hO2 i c' g hc';exact k2 (h.inj _ _ _ _ g k1 q2)
    ·exact known o
   ·rw[q1]at hv';cases hv';have hfl:=Jc g2
    have hle:off+xs.length * kx≤cur.size:=by rw[q4];exact Nat.add_le_add_left (A7 _ q5) _
    have hcell:∀ j,j<xs.length * kx→cur[off+j]? = some (us j):=by
     intro j hj;have hm:=g3 j _ (B9 (by rw[hfl];exact hj));have:=h.cons _ _ _ hm;rw[mcRow q3]at this;exact (YY this).1
    have hold:∀ (j:Nat),((cur.toList.drop off).take (xs.length * kx))[j]? = if j<xs.length * kx then some (us j) else none:=by
     intro j;rw[A3];by_cases hj:j<xs.length * kx
     ·rw[if_pos hj,if_pos hj,A9]
      simpa using hcell j hj
     ·rw[if_neg hj,if_neg hj]
    refine core _ _ xs ((cur.toList.drop off).take (xs.length * kx)) h2 (Yn d _) hd2 (by simp;omega) g2 g5 (fun j c' u hc' hu=>?_) (.inr ⟨g,off,cap,cur,q1,q3,q4,q5,q6,rfl,(h.own _ _ _ q2).1,fun i c' hc'=>?_,known⟩) hb.1 hb.2 he
    ·rw[hold]at hu;split at hu
     ·cases hu;exact g4 j c' hc'
     ·cases hu
    ·obtain⟨k1,k2⟩:=hO2 i c' g hc';exact k2 (h.inj _ _ _ _ g k1 q2)
 ·cases hap
end
end Go.AM
namespace Go.AM
open Go.RowKit
section
variable {bs:Base} {n:Nat} {M:Mem} {O:Gh} {env:Env} {a:Act} {w:World} {P:Program}
theorem YP {s:Nat} (h:usable s=true):¬ (2000000≤s∧s<3000000):=by
 unfold usable at h;simp only[Bool.or_eq_true]at h
 rcases h with h | h
 ·have:s<2000000:=A5 h;omega
 ·have:=A5 h;omega
theorem QE {s t:Nat} {x:AV}:∀ {env:Env},look (env.filter fun p=>!Nat.beq p.1 s) t=some x→t≠s∧look env t=some x
 | [],h=>by simp[look]at h
 | (k,y)::r,h=>by
  simp only[List.filter_cons]at h;split at h
  ·rename_i hk;simp only[look]at h ⊢;split at h
   ·rename_i hb;have:=A0 hb;subst this;refine⟨fun e=>?_,h⟩;subst e;simp at hk
   ·exact QE h
  ·rename_i hk;obtain⟨h1,h2⟩:=QE h;refine⟨h1,?_⟩;simp only[look];split
   ·rename_i hb;have:=A0 hb;subst this;exfalso;simp at hk;exact h1 hk
   ·exact h2
theorem Yd {s t:Nat} {x:AV} (h:look (forget s env) t=some x):t≠s∧∃ y,look env t=some y∧x=killRef s y:=by
 unfold forget at h;rw[Yj (killRef s)]at h
 cases hy:look (env.filter fun p=>!Nat.beq p.1 s) t with
 | none=>rw[hy]at h;cases h
 | some y =>
  rw[hy]at h;obtain⟨h1,h2⟩:=QE hy;exact⟨h1,y,h2,(Option.some.inj h).symm⟩
theorem Inv.dropO (h:Inv bs n M O env a w) {s:Nat} (hu:usable s=true) {env':Env} (hl:∀ t x,look env' t=some x→∃ y,look env t=some y∧x=killRef s y∧(x.ent=true→t≠s)):Inv bs n M (setO O true s none) env' a w:=by
 have hsub:∀ i c g,(setO O true s none) i c=some g→O i c=some g:=by
  intro i c g hg;rw[Jw]at hg;split at hg
  ·cases hg
  ·exact hg
 refine⟨h.size,h.defers,h.below,h.hB,h.cons,h.ext,h.old,fun i c g hg=>h.own i c g (hsub i c g hg),fun i i' c c' g h1 h2=>h.inj i i' c c' g (hsub _ _ _ h1) (hsub _ _ _ h2),⟨h.fix.1,fun c k1 k2=>?_⟩,fun t x hx=>?_⟩
 ·obtain⟨e1,e2,e3⟩:=h.fix.2 c k1 k2
  have hne:c≠s:=fun e=>YP hu ⟨by omega,by omega⟩
  exact⟨(jY (O:=O) (v:=none) hne).1.trans e1,e2,e3⟩
 ·obtain⟨y,h1,rfl,h2⟩:=hl t x hx
  refine ((h.slots t y h1).kill s).change2 (Sub.refl M) (fun he=>jY (h2 he)) (fun c hc=>jY fun e=>?_) (fun g _ _=>⟨rfl,fun _ hm=>hm⟩) fun c g hg=>⟨by simp[Jw,hg],rfl,fun _ hm=>hm⟩
  rw[e,Zf]at hc;cases hc
theorem Inv.forget (h:Inv bs n M O env a w) {s:Nat} (hu:usable s=true):Inv bs n M (setO O true s none) (forget s env) a w:=by
 refine h.dropO hu fun t x hx=>?_
 obtain⟨h1,y,h2,h3⟩:=Yd hx;exact⟨y,h2,h3,fun _=>h1⟩
def setR (O:Gh) (t:Nat) (v:Option Nat) (len siz:Nat):Gh :=
 ⟨fun i c=>if i=true∧c=t then v else O.o i c,fun c=>if c=t then len else O.len c,fun c=>if c=t then siz else O.siz c⟩
theorem Qm (O:Gh) (t:Nat) (v:Option Nat) (len siz:Nat) (i:Bool) (c:Nat):(setR O t v len siz).o i c=if i=true∧c=t then v else O.o i c:=rfl
theorem Vn {O:Gh} {d t len siz:Nat} {v:Option Nat} (h:t≠d):Gh.Eq1 O (setR O d v len siz) t:=⟨by simp[Qm,h],by simp[setR,h],by simp[setR,h]⟩
theorem Inv.claim (h:Inv bs n M O env a w) {t:Nat} (hc:∀ s x,look env s=some x→x.refs t=false) (ht:t<2000000) (v:Option Nat) (len siz:Nat) {x:AV}
  (hv:∀ g,v=some g→¬ bs.D g∧g<w.heap.size∧∀ i c,O i c=some g→i=true∧c=t) (hx:Sat (setR O t v len siz) M w t x (a.tmps.getD t undef)):Inv bs n M (setR O t v len siz) (ins t x env) a w:=by
 refine⟨h.size,h.defers,h.below,h.hB,h.cons,h.ext,h.old,?_,?_,⟨h.fix.1,fun c k1 k2=>?_⟩,?_⟩
 ·intro i c g hg;rw[Qm]at hg;split at hg
  ·exact⟨(hv g hg).1,(hv g hg).2.1⟩
  ·exact h.own i c g hg
 ·intro i i' c c' g hg hg';rw[Qm]at hg hg';split at hg <;> split at hg'
  ·rename_i e1 e2;exact⟨e1.1.trans e2.1.symm,e1.2.trans e2.2.symm⟩
  ·rename_i e1 e2;exact absurd ((hv g hg).2.2 i' c' hg') e2
  ·rename_i e1 e2;exact absurd ((hv g hg').2.2 i c hg) e1
  ·exact h.inj i i' c c' g hg hg'
 ·obtain⟨e1,e2,e3⟩:=h.fix.2 c k1 k2
  have hne:c≠t:=by omega
  obtain⟨f1,f2,f3⟩:=Vn (O:=O) (v:=v) (len:=len) (siz:=siz) hne;exact⟨f1.trans e1,f2.trans e2,f3.trans e3⟩
 ·intro s y hy;rw[jq]at hy;by_cases hst:s=t
  ·subst hst;rw[if_pos rfl]at hy;cases hy;exact hx
  ·rw[if_neg hst]at hy
   refine (h.slots s y hy).change2 (Sub.refl M) (fun _=>Vn hst) (fun c hcc=>Vn fun e=>?_) (fun g _ _=>⟨rfl,fun _ hm=>hm⟩) fun c g hg=>⟨by simp[Qm,hg],rfl,fun _ hm=>hm⟩
   rw[e,hc s y hy]at hcc;cases hcc
theorem qcr {z:List AV} {s:Nat} (hz:z.length=s) (h1:z.all AV.one=true):(elemOf z s).cells=z:=by
 unfold elemOf;split
 ·rename_i x
  have:x.one=true:=by simpa using h1
  exact YH this
 ·rfl
theorem Yi {t d:Nat} {x y:AV} (h:t≠d) (env:Env) (s:Nat):look (ins t x (ins d y env)) s=look (ins d y (ins t x env)) s:=by
 simp only[jq];by_cases h1:s=t
 ·subst h1;simp[h]
 ·simp[h1]
theorem Inv.looks (h:Inv bs n M O env a w) {env':Env} (he:∀ s,look env' s=look env s):Inv bs n M O env' a w :=
 h.sub fun t x hx=>.inl (by rw[← he];exact hx)
theorem Inv.newRow (h:Inv bs n M O env a w) {d e k cap g:Nat} (hd:d<n) (hdent:∀ x,look env d=some x→x.ent=false) (hc:clearOf (1000000+d) env=true) {xs:List AV} {v:Value} {cur:Array Value} (hk:0<k)
  (hxs:∀ x,x∈xs→x.cells.length=k∧x.cells.all AV.one=true)
  (hv:(xs=[]∧∃ ad,v=.slice ad 0 0)∨(v=.slice (some ⟨g,0,none⟩) xs.length cap∧¬ bs.D g∧g<w.heap.size∧(∀ i c,O i c≠some g)∧w.heap[g]? = some (.cells cur e (0,0))∧cur.size=cap * k∧xs.length≤cap∧cap≤maxLen∧(∀ o,M g o=none) ∧
   ∀ (j:Nat) c u,(flat xs)[j]? = some c→cur[j]? = some u→R M c u)) :
  ∃ O',Inv bs n M O' (ins (1000000+d) (.obj e k xs) (ins d (.sb (1000000+d) e k 0 xs.length) env)) (a.put (some d) v) w:=by
 obtain⟨c1,c2⟩:=JP hc;have hn:=h.fix.1
 have hne:1000000+d≠d:=by omega
 rcases hv with ⟨rfl,ad,rfl⟩ | ⟨rfl,k1,k2,k3,k4,k5,k6,k7,k8,k9⟩
 ·refine⟨setR O (1000000+d) none 0 0,?_⟩;have h1:=h.claim (t:=1000000+d) (x:=.obj e k []) c2 (by omega) none 0 0 (fun g e=>by cases e) ⟨hk,hxs,by simp[setR],.inl ⟨rfl,by simp[Qm]⟩⟩;have h2:=h1.put (d:=d) (x:=.sb (1000000+d) e k 0 0) (v:=.slice ad 0 0) hd ⟨by simp,.inl ⟨rfl,ad,rfl⟩⟩
  exact h2.looks fun s=>Yi hne env s
 ·refine⟨setR O (1000000+d) (some g) xs.length cur.size,?_⟩;have h1:=h.claim (t:=1000000+d) (x:=.obj e k xs) c2 (by omega) (some g) xs.length cur.size (fun g' e=>by cases e;exact⟨k1,k2,fun i c hh=>absurd hh (k3 i c)⟩)
   ⟨hk,hxs,by simp[setR],.inr ⟨g,cur,by simp[Qm],RowAt.of k4,by simp[setR],by rw[k5];exact A7 _ k6,k8,k9⟩⟩
  have h2:=h1.put (d:=d) (x:=.sb (1000000+d) e k 0 xs.length) (v:=.slice (some ⟨g,0,none⟩) xs.length cap) hd ⟨by simp[setR],.inr ⟨g,cap,by simp,by simp[Qm],by simp[setR,k5],k6,by simpa using k7⟩⟩
  exact h2.looks fun s=>Yi hne env s
theorem Zz {d:Nat} {x:AV} {env env':Env} (he:eput n (some d) x env=some env'):d<n∧env'=ins d x env∧∀ y,look env d=some y→y.ent=false:=by
 unfold eput at he;simp only at he;split at he
 ·rename_i hc;cases he;simp only[A4]at hc;refine⟨A5 hc.1,rfl,fun y hy=>?_⟩;rw[hy]at hc
  cases y <;> first | rfl | cases hc.2
 ·cases he
theorem Dg (h:Inv bs n M O env a w) {o:Oper} {t:TypeId} {l c:Operand} (ho:o.op=.makeSlice t l c) {env':Env} (he:astep P n o env=some env'):Leads P bs n o a w env':=by
 unfold astep at he;rw[ho]at he;simp only at he;split at he
 case h_2=>cases he
 rename_i d k1 m k2 m' e s hd hl hcc hse;obtain⟨hu,hs⟩:=JK hse;split at he
 case h_2=>cases he
 rename_i z hz hcl;simp only[A4]at hcl;obtain⟨hcl,hs0⟩:=hcl;have hs0:0<s:=A5 hs0;split at he
 case h_2=>cases he
 rename_i hzl;simp only[A4]at hzl;obtain⟨hz1,hz2⟩:=hzl;have hz1:=A0 hz1;split at he
 case isFalse=>cases he
 rename_i hb;obtain⟨rfl,b1,b2,b3⟩:=hb;rw[D2]at he;obtain⟨env1,he1,rfl⟩:=he;rw[hd]at he1;obtain⟨hdn,rfl,hdent⟩:=Zz he1;have e1:=(qD h hl).1.int_inv;have e2:=(qD h hcc).1.int_inv;obtain⟨it,zv,hi,hzz,hzr,hzo⟩:=Xn (M:=M) hz
 have hsz:it.size=s:=by
  unfold tSize at hs;rw[hi]at hs;exact Option.some.inj hs
 have hby:((P.info? e).map (·.bytes)).getD 0=it.bytes:=by rw[hi];rfl
 rw[hby]at b2;obtain⟨q,rfl⟩:∃ q:Nat,m=q:=⟨m.toNat,by omega⟩
 have hb2:(it.bytes:Int) * q≤281474976710656:=by rw[Int.mul_comm];exact b2
 have hrun:=run_make (P:=P) w t e it zv hu hi hzz k1 k2 (q:Int) (q:Int) b1 (Int.le_refl _) hb2 b3;simp only[Int.toNat_natCast,hsz]at hrun
 have hex:(execOp a.eval o).run P w=.ok (.value (.slice (some ⟨w.heap.size,0,none⟩) q q)) (w.alloc (.cells (madeCells zv.cells (q * s)) e)):=by
  have:execOp a.eval o=vS (Instr.makeSlice t (a.eval l) (a.eval c)):=by unfold execOp;rw[ho];rfl
  rw[this,e1,e2];exact VD hrun
 have h':=h.grown (row:=none) (fun g e=>by cases e) (D3 w (.cells (madeCells zv.cells (q * s)) e) none) (Sub.refl M) (YF h.cons _) (fun b o _ _=>rfl);have hzc:=qcr hz1 hz2
 have hty:∀ x,x∈List.replicate q (elemOf z s)→x.cells.length=s∧x.cells.all AV.one=true:=by
  intro x hx;have:=List.eq_of_mem_replicate hx;subst this;rw[hzc];exact⟨hz1,hz2⟩
 obtain⟨O',hfin⟩:=h'.newRow (d:=d) (e:=e) (k:=s) (cap:=q) (g:=w.heap.size) (xs:=List.replicate q (elemOf z s)) (v:=.slice (some ⟨w.heap.size,0,none⟩) q q) (cur:=madeCells zv.cells (q * s)) hdn hdent hcl hs0 hty
  (.inr ⟨by simp,h.fresh (A2 _),by simp,fun i c hg=>by have:=(h.own i c _ hg).2;omega,heap_alloc_new w _,size_madeCells _ _,by simp,by unfold maxLen;omega,fun o=>Xg h.cons (A2 _) o,fun j cc u hj huu=>by
   have hlt:=(List.getElem?_eq_some_iff.1 hj).1;have hfl:=Jc (fun x hx=>(hty x hx).1);rw[hfl]at hlt;simp only[List.length_replicate]at hlt;have hd1:j / s<q:=Nat.div_lt_of_lt_mul (by rw[Nat.mul_comm];exact hlt);have hm1:j % s<s:=Nat.mod_lt _ hs0;have hg:=Yq (fun x hx=>(hty x hx).1) (i:=j / s) (x:=elemOf z s) (by simp[hd1]) (j % s) hm1
   have e3:j / s * s+j % s=j:=by rw[Nat.mul_comm];exact Nat.div_add_mod j s
   rw[e3,hj,hzc]at hg
   have hzs:zv.cells.size=s:=by rw[← hzr.1,hz1]
   have hu2:zv.cells[j % s]? = some u:=by
    unfold madeCells at huu;simp only[Array.getElem?_map,Array.getElem?_range,hlt,if_true,Option.map_some,Option.some.injEq,hzs]at huu
    have:j % s<zv.cells.size:=by omega
    rw[getElem!_pos zv.cells (j % s) this]at huu;rw[← huu];exact Array.getElem?_eq_getElem this
   exact hzr.2 _ _ _ hg.symm hu2⟩)
 refine⟨_,_,M,O',.inl hex,?_⟩;rw[hd]
 simpa using hfin
end
end Go.AM
namespace Go.AM
open Go.RowKit
section
variable {bs:Base} {n:Nat} {M:Mem} {O:Gh} {env:Env} {a:Act} {w:World} {P:Program}
theorem qaD (h:Inv bs n M O env a w) {x:AV} {v:Value} (hx:ValOk O M w x v) {k:Nat} {ys:List AV} (hc:content env x=some (k,ys)) :
  (∀ y,y∈ys→y.cells.length=k∧y.cells.all AV.one=true)∧((ys=[]∧∃ ad c,v=.slice ad 0 c)∨∃ (b off cap:Nat) (us:Nat→Value),v=.slice (some ⟨b,off,none⟩) ys.length cap∧ys.length≤cap∧∀ (j:Nat) c,(flat ys)[j]? = some c→w.cell? ⟨b,off+j,none⟩=some (us j)∧R M c (us j)):=by
 cases x with
 | lst e k' l xs =>
  simp only[content,Option.some.injEq,Prod.mk.injEq]at hc;obtain⟨rfl,rfl⟩:=hc
  rcases hx.1.lst_inv with ⟨rfl,rfl | ⟨ad,cap,rfl⟩⟩ | ⟨b,off,cap,us,rfl,g1,g2,g3,g4,g5⟩
  ·exact⟨by simp,.inl ⟨rfl,_,_,rfl⟩⟩
  ·exact⟨by simp,.inl ⟨rfl,_,_,rfl⟩⟩
  ·exact⟨fun y hy=>⟨g2 y hy,g5 y hy⟩,.inr ⟨b,off,cap,us,rfl,g1,fun j c hj=>⟨YL (h.cons _ _ _ (g3 j c hj)) (XJ ((g4 j c hj).one (Vc g5 hj))),g4 j c hj⟩⟩⟩
 | sb id e k' off m =>
  simp only[content]at hc;split at hc
  case h_2=>cases hc
  rename_i e' k2 xs hl;split at hc
  case h_2=>cases hc
  rename_i hk;have hk:=A0 hk;subst hk;simp only[Option.some.injEq,Prod.mk.injEq]at hc;obtain⟨rfl,rfl⟩:=hc;obtain⟨h0,h3,h4,h5⟩:=h.slots id _ hl;obtain⟨q1,q2⟩:=hx
  have hsub:∀ y,y∈snapA off m xs→y∈xs:=fun y hy=>D8 (D9 hy)
  refine⟨fun y hy=>h3 y (hsub y hy),?_⟩
  have hlen:(snapA off m xs).length=m:=by unfold snapA;simp;omega
  rcases q2 with ⟨rfl,ad,rfl⟩ | ⟨g,cap,rfl,k1,k2,k3,k4⟩
  ·exact .inl ⟨by simp[snapA],ad,0,rfl⟩
  ·rcases h5 with ⟨rfl,hn⟩ | ⟨g',cur,f1,f2,f3,f4,f5,f6⟩
   ·rw[hn]at k1;cases k1
   have:g'=g:=by rw[f1]at k1;exact Option.some.inj k1
   subst this
   have hty:∀ y,y∈xs→y.cells.length=k':=fun y hy=>(h3 y hy).1
   refine .inr ⟨g',off * k',cap,fun j=>cur.getD (off * k'+j) undef,by rw[hlen],by rw[hlen];exact k3,fun j c hj=>?_⟩
   have hj2:(flat xs)[off * k'+j]? = some c:=by
    unfold snapA at hj;rw[YC (k:=k') m (fun y hy=>hty y (D8 hy)),YD off hty,A3]at hj;split at hj
    ·rw[A9]at hj;exact hj
    ·cases hj
   have hlt:=(List.getElem?_eq_some_iff.1 hj2).1;rw[Jc hty]at hlt
   have e1:cur[off * k'+j]? = some (cur.getD (off * k'+j) undef):=by
    have:off * k'+j<cur.size:=by omega
    simp[this]
   exact⟨by rw[f2.cell];exact e1,f6 _ _ _ hj2 e1⟩
 | _=>simp[content]at hc
theorem qaI (h:Inv bs n M O env a w) {o:Oper} {args:Array Operand} {ats:Array TypeId} (ho:o.op=.call { callee:=.builtin .append,args:=args,argTypes:=ats })
  {x y:Operand} {t t' d id ex kx off m:Nat} {q:AV} (ha:args.toList=[x,y]) (ht:ats.toList=[t,t']) (hd:o.dst=some d) (hp:aop env x=some (.sb id ex kx off m)) (hq:aop env y=some q) {env':Env} (he:ZE P n t t' d (.sb id ex kx off m) q env=some env'):Leads P bs n o a w env':=by
 have ea:args=#[x,y]:=by apply C5;simpa using ha
 have et:ats=#[t,t']:=by apply C5;simpa using ht
 subst ea;subst et;have hxv:=qD h hp;have hyv:=qD h hq;unfold ZE at he;split at he
 case h_2=>cases he
 rename_i e s hse;obtain⟨hu,hs⟩:=JK hse;split at he
 ·cases he
 rename_i hc;simp only[A4]at hc;obtain⟨⟨hc1,hc2⟩,hc3⟩:=hc;have hc1:=A0 hc1;subst hc1;have hc2:0<s:=A5 hc2
 obtain⟨ie,hie,hsz⟩:∃ ie,P.info? e=some ie∧ie.size=s:=by
  unfold tSize at hs
  cases hi:P.info? e with
  | none=>rw[hi]at hs;cases hs
  | some ie=>rw[hi]at hs;exact⟨ie,rfl,Option.some.inj hs⟩
 obtain⟨z,hz,hzs⟩:∃ z,ie.zero=some z∧z.cells.size=s:=by
  rw[hie]at hc3;simp only[Option.bind_some]at hc3
  cases hz:ie.zero with
  | none=>rw[hz]at hc3;cases hc3
  | some z=>rw[hz]at hc3;exact⟨z,rfl,A0 hc3⟩
 simp only at he;split at he
 case h_2=>cases he
 rename_i e' k' xs ky ys hl hcon;split at he
 case h_2=>cases he
 rename_i hk;simp only[A4]at hk;obtain⟨⟨⟨⟨⟨⟨hk1,hk2⟩,hk3⟩,hk4⟩,hk5⟩,hk6⟩,hus,hbig⟩:=hk;have hbig:=A5 hbig;have hk1:=A0 hk1;have hk2:=A0 hk2;have hk3:=A0 hk3;have hk4:=A0 hk4;have hk5:=A0 hk5;have hk6:=A0 hk6;subst hk1;subst hk2;subst hk3;subst hk4;subst hk5;subst hk6;split at he
 case h_2=>cases he
 rename_i hcl;simp only[A4]at hcl;obtain⟨⟨hcl,hdent⟩,hdn⟩:=hcl;have hdn:d<n:=A5 hdn;split at he
 case isFalse=>cases he
 rename_i hb;cases he
 have hby:((P.info? e').map (·.bytes)).getD 0=ie.bytes:=by rw[hie];rfl
 rw[hby]at hb;obtain⟨hy1,hy2⟩:=qaD h hyv hcon;obtain⟨h0,h3,h4,h5⟩:=h.slots id _ hl;obtain⟨q1,q2⟩:=hxv
 have hm:m≤xs.length:=by omega
 have hty:∀ z,z∈xs→z.cells.length=ky:=fun z hz=>(h3 z hz).1
 have hx':snapA 0 m xs=xs.take m:=by simp[snapA]
 have hlen:(snapA 0 m xs).length=m:=by rw[hx'];simp;omega
 have hyc:∀ y,y∈ys→y.cells.length=ky:=fun y hy=>(hy1 y hy).1
 obtain⟨news,hnl,hnv,hn1,hnr⟩:∃ news:List Value,news.length=ys.length * ky∧((a.eval y=.slice none 0 0∧ys.length=0)∨∃ ad c,a.eval y=.slice (some ad) ys.length c∧∀ (j:Nat) u,news[j]? = some u→w.cell? (ad.add j)=some u) ∧
   (∀ u∈news,u.oneCell'=true)∧∀ (j:Nat) c u,(flat ys)[j]? = some c→news[j]? = some u→R M c u:=by
  rcases hy2 with ⟨rfl,ad,c,e1⟩ | ⟨b,off,cap,us,e1,e2,e3⟩
  ·cases ad with
   | none =>
    refine⟨[],by simp,?_,by simp,by simp⟩;refine .inl ⟨?_,rfl⟩;have h1:=hyv;rw[e1]at h1 ⊢
    have:c=0:=by
     cases q with
     | lst e k l xs =>
      have h2:=h1.1
      cases h2 with
      | lstn=>rfl
     | sb id e k off m =>
      obtain⟨_,h2⟩:=h1
      rcases h2 with ⟨_,ad,h2⟩ | ⟨g,cap,h2,_⟩
      ·cases h2;rfl
      ·cases h2
     | _=>simp[content]at hcon
    rw[this]
   | some ad=>exact⟨[],by simp,.inr ⟨ad,c,e1,by simp⟩,by simp,by simp⟩
  ·have hfl:=Jc hyc;refine⟨(List.range (ys.length * ky)).map us,by simp,.inr ⟨_,cap,e1,fun j u hu=>?_⟩,fun u hu=>?_,fun j c u hc hu=>?_⟩
   ·rw[Qa]at hu;split at hu
    ·rename_i hj;cases hu;rw[QN];exact (e3 j _ (B9 (by rw[hfl];exact hj))).1
    ·cases hu
   ·obtain⟨j,hj,rfl⟩:=List.mem_map.1 hu;have hj:j<ys.length * ky:=List.mem_range.1 hj;have hf:=B9 (l:=flat ys) (i:=j) (by rw[hfl];exact hj);refine (e3 j _ hf).2.one ?_;have hmem:=D0 hf;unfold flat at hmem;obtain⟨y,hy,hcy⟩:=List.mem_flatMap.1 hmem;have:=(hy1 y hy).2;rw[List.all_eq_true]at this;exact this _ hcy
   ·rw[Qa]at hu;split at hu
    ·cases hu;exact (e3 j c hc).2
    ·cases hu
 have hexec:∀ v' w',(Builtin.append_ #[t,t] o.type #[a.eval x,a.eval y]).run P w=.ok v' w'→(execOp a.eval o).run P w=.ok (.value v') w':=by
  intro v' w' hr;unfold execOp;rw[ho];simp only[resolve,invoke,builtin,D1,Sem.run_pure,Result.andThen_ok,List.map_toArray,List.map_cons,List.map_nil,hr]
 have hxs:∀ z,z∈snapA 0 m xs++ys→z.cells.length=ky∧z.cells.all AV.one=true:=by
  intro z hz
  rcases List.mem_append.1 hz with hz | hz
  ·rw[hx']at hz;exact h3 z (D9 hz)
  ·exact hy1 z hz
 have h1:=h.forget (s:=id) hus
 have hdent':∀ z,look (forget id env) d=some z→z.ent=false:=by
  intro z hz;obtain⟨_,y,hy,rfl⟩:=Yd hz
  cases hk:(killRef id y).ent with
  | false=>rfl
  | true =>
   have:=qdo hk;rw[hy]at hdent
   cases y <;> first | (cases this;done) | (cases hdent;done)
 have hflx:(flat (snapA 0 m xs)).length=m * ky:=by
  rw[Jc (fun z hz=>(hxs z (D7 _ hz)).1),hlen]
 have hflat0:flat (snapA 0 m xs)=(flat xs).take (m * ky):=by rw[hx',YC m hty]
 obtain⟨olds,hol,hsv,hro⟩:∃ olds:List Value,olds.length=m * ky∧((m=0∧∃ ad,a.eval x=.slice ad 0 0)∨∃ g cap cur,a.eval x=.slice (some ⟨g,0,none⟩) m cap∧w.heap[g]? = some (.cells cur e' (0,0))∧cur.size=cap * ky∧m≤cap∧cap≤maxLen∧cur.toList.take (m * ky)=olds∧O true id=some g∧∀ o,M g o=none) ∧
   ∀ (j:Nat) c u,(flat (snapA 0 m xs))[j]? = some c→olds[j]? = some u→R M c u:=by
  rcases q2 with ⟨rfl,ad,e1⟩ | ⟨g,cap,e1,k1,k2,k3,k4⟩
  ·exact⟨[],by simp,.inl ⟨rfl,ad,e1⟩,by simp⟩
  ·rcases h5 with ⟨rfl,hn⟩ | ⟨g',cur,f1,f2,f3,f4,f5,f6⟩
   ·rw[hn]at k1;cases k1
   have f2:=f2.plain hbig
   have:g'=g:=by rw[f1]at k1;exact Option.some.inj k1
   subst this
   have hsz2:cur.size=cap * ky:=by rw[f3,k2,A6]
   have hle:m * ky≤cur.size:=by rw[hsz2];exact A7 _ k3
   refine⟨cur.toList.take (m * ky),by simp;omega,.inr ⟨g',cap,cur,by simpa using e1,f2,hsz2,k3,by omega,rfl,f1,f5⟩,fun j c u hc hu=>?_⟩;rw[hflat0,A3]at hc;rw[A3]at hu;split at hc
   ·rename_i hj;rw[if_pos hj]at hu;exact f6 j c u hc (by simpa using hu)
   ·cases hc
 have hcells:∀ (cur':Array Value),cur'.toList.take ((m+ys.length) * ky)=olds++news→∀ (j:Nat) c u,(flat (snapA 0 m xs++ys))[j]? = some c→cur'[j]? = some u→R M c u:=by
  intro cur' htk j c u hc hu;have hlt:=(List.getElem?_eq_some_iff.1 hc).1;rw[Jc (fun z hz=>(hxs z hz).1),B6,hlen]at hlt
  have hu2:(olds++news)[j]? = some u:=by
   rw[← htk,A3,if_pos hlt]
   simpa using hu
  rw[Hu]at hc;by_cases hj:j<m * ky
  ·rw[A8 (by rw[hflx];exact hj)]at hc;rw[A8 (by rw[hol];exact hj)]at hu2;exact hro j c u hc hu2
  ·rw[C4 (by rw[hflx];omega),hflx]at hc;rw[C4 (by rw[hol];omega),hol]at hu2;exact hnr _ c u hc hu2
 have hxl:(snapA 0 m xs++ys).length=m+ys.length:=by rw[B6,hlen]
 have fin3:∀ v' w',(Builtin.append_ #[t,t] o.type #[a.eval x,a.eval y]).run P w=.ok v' w'→(∃ cap cur',v'=.slice (some ⟨w.heap.size,0,none⟩) (m+ys.length) cap∧w'=w.drew.alloc (.cells cur' e')∧cur'.size=cap * ky∧m+ys.length≤cap∧cap≤maxLen∧cur'.toList.take ((m+ys.length) * ky)=olds++news) →
   Leads P bs n o a w (ins (1000000+d) (.obj e' ky (snapA 0 m xs++ys)) (ins d (.sb (1000000+d) e' ky 0 (snapA 0 m xs++ys).length) (forget id env))):=by
  rintro v' w' hrun ⟨cap,cur',rfl,rfl,r5,r6,r7,r8⟩
  have h2:=h1.grown (row:=none) (M':=M) (w':=w.drew.alloc (.cells cur' e')) (fun k hk=>by cases hk) ⟨rfl,rfl,rfl,by simp,fun k hk _=>heap_alloc_old w.drew _ hk⟩ (Sub.refl M) (fun b o u hu=>by
   have hb:=VE (h.cons b o u hu);rw[Xq (w:=w) (heap_alloc_old w.drew _ hb)]
   exact h.cons b o u hu) (fun b o _ _=>rfl)
  obtain⟨O',hfin⟩:=h2.newRow (d:=d) (e:=e') (k:=ky) (cap:=cap) (g:=w.heap.size) (cur:=cur') (xs:=snapA 0 m xs++ys) (v:=.slice (some ⟨w.heap.size,0,none⟩) (m+ys.length) cap) hdn hdent' hcl hc2 hxs
   (.inr ⟨by rw[hxl],h.fresh (A2 _),by simp,fun i c hh=>by have:=(h1.own i c _ hh).2;omega,heap_alloc_new w.drew _,r5,by rw[hxl];exact r6,r7,fun o=>Xg h.cons (A2 _) o,hcells cur' r8⟩)
  exact⟨_,_,M,O',.inl (hexec _ _ hrun),by rw[hd];exact hfin⟩
 have fin1:∀ v',(Builtin.append_ #[t,t] o.type #[a.eval x,a.eval y]).run P w=.ok v' w→m+ys.length=0→(∃ ad,v'=.slice ad 0 0) →
   Leads P bs n o a w (ins (1000000+d) (.obj e' ky (snapA 0 m xs++ys)) (ins d (.sb (1000000+d) e' ky 0 (snapA 0 m xs++ys).length) (forget id env))):=by
  rintro v' hrun hz0 ⟨ad,rfl⟩
  have hnil:snapA 0 m xs++ys=[]:=A1 (by omega);obtain⟨O',hfin⟩:=h1.newRow (d:=d) (e:=e') (k:=ky) (cap:=0) (g:=0) (cur:=#[]) (xs:=snapA 0 m xs++ys) (v:=.slice ad 0 0) hdn hdent' hcl hc2 hxs (.inl ⟨hnil,ad,rfl⟩);exact⟨_,_,M,O',.inl (hexec _ _ hrun),by rw[hd];exact hfin⟩
 rcases hsv with ⟨hm0,ad,e1⟩ | ⟨g',cap',cur1,e1,e2,e3,e4,e5,e6,e7,e8⟩
 ·have ho0:olds=[]:=A1 (by rw[hol,hm0,Nat.zero_mul]);obtain⟨v',w',hrun,hways⟩:=NG (w:=w) (P:=P) (t:=t) (e:=e') (i:=ie) (z:=z) (s:=ky) (ad:=ad) o.type hu hie hz hsz hc2 hzs (yv:=a.eval y) hnl hnv hn1 (by rw[← hm0];exact hb.1) (by rw[← hm0];exact hb.2);rw[← e1]at hrun
  rcases hways with ⟨hz0,hv,rfl⟩ | hw
  ·exact fin1 v' hrun (by omega) hv
  ·refine fin3 v' w' hrun ?_;rw[hm0,ho0];exact hw
 ·obtain⟨v',w',hrun,hways⟩:=HU (w:=w) (P:=P) (t:=t) (e:=e') (i:=ie) (z:=z) (s:=ky) o.type hu hie hz hsz hc2 hzs (sv:=a.eval x) (yv:=a.eval y) hol hnl
   (.inr ⟨g',cap',cur1,e1,e2,e3,e4,e5,e6⟩) hnv hn1 hb.1 hb.2
  rcases hways with ⟨hv,hz0,rfl⟩ | ⟨g,cap,cur,cur',r1,r2,rfl,rfl,r5,r6,r7,r8⟩ | hw
  ·exact fin1 v' hrun hz0 ⟨none,hv⟩
  ·rw[e1]at r1;cases r1;obtain⟨hgD,hgs⟩:=h.own true id g' e7
   have hnoO:∀ i c,(setO O true id none) i c≠some g':=by
    intro i c hh;rw[Jw]at hh;split at hh
    ·cases hh
    ·rename_i hne;exact hne (h.inj _ _ _ _ g' hh e7)
   have h2:=h1.grown (row:=some g') (M':=M) (w':=w.setRow g' cur') (fun k hk=>by cases hk;exact⟨hgD,hnoO⟩) (Xi w g' cur') (Sub.refl M) (fun b o u hu=>by
    have hb:=VE (h.cons b o u hu)
    have hne:b≠g':=fun e=>by subst e;rw[e8]at hu;cases hu
    rw[Xq ((Xi w g' cur').block b hb (fun e=>hne (Option.some.inj e)))]
    exact h.cons b o u hu) (fun b o _ _=>rfl)
   obtain⟨O',hfin⟩:=h2.newRow (d:=d) (e:=e') (k:=ky) (cap:=cap') (g:=g') (cur:=cur') (xs:=snapA 0 m xs++ys) (v:=.slice (some ⟨g',0,none⟩) (m+ys.length) cap') hdn hdent' hcl hc2 hxs
    (.inr ⟨by rw[hxl],hgD,by simpa using hgs,hnoO,setRow_heap w g' cur cur' e' _ r2,r5,by rw[hxl];exact r6,r7,e8,hcells cur' r8⟩)
   exact⟨_,_,M,O',.inl (hexec _ _ hrun),by rw[hd];exact hfin⟩
  ·exact fin3 v' w' hrun hw
theorem qcz (h:Inv bs n M O env a w) {o:Oper} {args:Array Operand} {ats:Array TypeId} (ho:o.op=.call { callee:=.builtin .append,args:=args,argTypes:=ats }) {env':Env} (he:astep P n o env=some env'):Leads P bs n o a w env' :=
 qaH h ho he fun x y t t' d id ex kx off m q ha ht hd hp hq he=>qaI h ho ha ht hd hp hq he
end
end Go.AM
namespace Go.AM
open Go.RowKit
open Go.ChangeMaps (setBlock)
open Go.MapKept (heap_set)
section
variable {bs:Base} {n:Nat} {M:Mem} {O:Gh} {env:Env} {a:Act} {w:World} {P:Program}
theorem XB {w:World} {b:Nat} {ob o':Obj} (h:w.heap[b]? = some ob):w.grownBy (setBlock w b o') (some b) :=
 ⟨rfl,rfl,rfl,by simp[setBlock],fun i _ hi=>(heap_set h).2 i (fun e=>hi (by rw[e]))⟩
theorem qfU {O:Gh} {M:Mem} {w:World} {x:AV} {v:Value} (h:ValOk O M w x v) (he:x.mapElem=true):R M x.strip v:=by
 have:R M x v:=by
  cases x <;> first | exact h.1 | cases he
 exact this.strip
theorem qax (h:Inv bs n M O env a w) {o:Oper} {t:TypeId} (ho:o.op=.makeMap t none) {env':Env} (he:astep P n o env=some env'):Leads P bs n o a w env':=by
 unfold astep at he;rw[ho]at he;simp only at he;split at he
 case h_2=>cases he
 rename_i d q hd hq;split at he
 case h_2=>cases he
 rename_i hcl;rw[D2]at he;obtain⟨env1,he1,rfl⟩:=he;rw[hd]at he1;obtain⟨hdn,rfl,hdent⟩:=Zz he1;obtain⟨c1,c2⟩:=JP hcl;have hn:=h.fix.1;have hne:(1000000+d:Nat)≠d:=Nat.ne_of_gt (E0 (by decide))
 have hrun:(execOp a.eval o).run P w=.ok (.value (.map (some w.heap.size))) (w.alloc (.map #[] 0)):=by
  have hx:execOp a.eval o=vS (Instr.makeMap t none):=by unfold execOp;rw[ho];rfl
  rw[hx];refine VD ?_;simp[Instr.makeMap]
 have h':=h.grown (row:=none) (fun g e=>by cases e) (D3 w (.map #[] 0) none) (Sub.refl M) (YF h.cons _) (fun b o _ _=>rfl);have h1:=h'.claim (t:=1000000+d) (x:=.hob 0 [] []) c2 (by omega) (some w.heap.size) 0 0 (fun g' e=>by cases e;exact⟨h.fresh (A2 _),by simp,fun i c hh=>by have:=(h.own i c _ hh).2;omega⟩)
  ⟨w.heap.size,by simp[Qm],fun o=>Xg h.cons (A2 _) o,#[],0,heap_alloc_new w _,MapKept.stamped_empty 0,by simp[maxLen],rfl,rfl,fun j k e hk=>by simp at hk,fun j v e hv=>by simp at hv⟩
 have h2:=h1.put (d:=d) (x:=.mb 0 (1000000+d)) (v:=.map (some w.heap.size)) hdn ⟨w.heap.size,by simp[Qm],rfl⟩;exact⟨_,_,_,_,.inl hrun,by rw[hd];exact h2.looks fun s=>Yi hne env s⟩
theorem qci (es:Array MapEntry):leftOf es #[]=es:=by
 unfold leftOf;simp
theorem qcU (h:Inv bs n M O env a w) {o:Oper} {t:TypeId} {x:Operand} (ho:o.op=.range t x) {env':Env} (he:astep P n o env=some env'):Leads P bs n o a w env':=by
 unfold astep at he;rw[ho]at he;simp only at he;split at he
 case h_2=>cases he
 rename_i d ks vs q hd hxx hq;obtain⟨kt,e⟩:=q;have hq:=Qy hq;split at he
 case h_2=>cases he
 rename_i hcl;rw[D2]at he;obtain⟨env1,he1,rfl⟩:=he;rw[hd]at he1;obtain⟨hdn,rfl,hdent⟩:=Zz he1;obtain⟨c1,c2⟩:=JP hcl;have hn:=h.fix.1;have hne:(1000000+d:Nat)≠d:=Nat.ne_of_gt (E0 (by decide));have hxv:=(qD h hxx).1
 have hx:execOp a.eval o=vS (Instr.range t (a.eval x)):=by unfold execOp;rw[ho];rfl
 have fin:∀ ob,(execOp a.eval o).run P w=.ok (.value (.pointer (some ⟨w.heap.size,0,none⟩))) (w.alloc ob) →
   (∀ O',O'.o true (1000000+d)=some w.heap.size→HobOk O' M (w.alloc ob) (1000000+d) 1 ks vs)→Leads P bs n o a w (ins (1000000+d) (.hob 1 ks vs) (ins d (.mb 1 (1000000+d)) env)):=by
  intro ob hrun hok;have h':=h.grown (row:=none) (fun g e=>by cases e) (D3 w ob none) (Sub.refl M) (YF h.cons _) (fun b o _ _=>rfl);have h1:=h'.claim (t:=1000000+d) (x:=.hob 1 ks vs) c2 (by omega) (some w.heap.size) 0 0 (fun g' e=>by cases e;exact⟨h.fresh (A2 _),by simp,fun i c hh=>by have:=(h.own i c _ hh).2;omega⟩)
   (hok _ (by simp[Qm]))
  have h2:=h1.put (d:=d) (x:=.mb 1 (1000000+d)) (v:=.pointer (some ⟨w.heap.size,0,none⟩)) hdn ⟨w.heap.size,by simp[Qm],rfl⟩;exact⟨_,_,_,_,.inl hrun,by rw[hd];exact h2.looks fun s=>Yi hne env s⟩
 generalize hval:a.eval x=v at hxv
 rcases qeZ hxv with ⟨rfl,rfl,rfl⟩ | ⟨ks',vs',b,es,clock,hp,rfl,h1,h2,h3,h4,h5,h6,h7⟩
 ·refine fin (.mapIter none 0 #[] 0) ?_ fun O' hO'=>⟨w.heap.size,hO',fun o=>Xg h.cons (A2 _) o,.inl ⟨0,#[],heap_alloc_new w _,rfl,rfl⟩⟩
  rw[hx,hval];refine VD ?_;simp[Instr.range,run_underlying hq]
 ·have hb:=qch (h.cons _ _ _ h1)
  refine fin (.mapIter (some b) clock #[] clock) ?_ fun O' hO'=>⟨w.heap.size,hO',fun o=>Xg h.cons (A2 _) o,.inr ⟨b,es,clock,#[],clock,heap_alloc_new w _,A2 _,h1,h2,?_⟩⟩
  ·rw[hx,hval];refine VD ?_;simp[Instr.range,run_underlying hq,D4 hb]
  ·refine⟨ks',vs',hp,?_⟩;unfold LeftOk0;rw[qci];exact⟨h4,h5,h6,h7⟩
theorem Df (h:Inv bs n M O env a w) {o:Oper} {t:TypeId} {m k v:Operand} (ho:o.op=.mapUpdate t m k v) {env':Env} (he:astep P n o env=some env'):Leads P bs n o a w env':=by
 unfold astep at he;rw[ho]at he;simp only at he;split at he
 case h_2=>cases he
 rename_i id kk vv kt e hd hm hk hv hq;have ht:=Qy hq;split at he
 case h_2=>cases he
 rename_i ks vs hl;split at he
 case h_2=>cases he
 rename_i hc;simp only[A4]at hc;obtain⟨⟨⟨⟨hfit,hks⟩,hall⟩,hel⟩,hroom⟩:=hc;have hroom:ks.length<1000000000:=A5 hroom;obtain⟨g,g1,g2⟩:=qD h hm;obtain⟨g',k1,k2,es,clock,hb,E⟩:=h.slots id _ hl
 have:g'=g:=by rw[k1]at g1;exact Option.some.inj g1
 subst this;obtain⟨kv,hkv⟩:=Option.isSome_iff_exists.1 hks;have hkev:a.eval k=kv:=qbk (qD h hk) hkv;have hvr:R M vv.strip (a.eval v):=qfU (qD h hv) hel
 have hex:∀ w',(Instr.mapUpdate t (a.eval m) (a.eval k) (a.eval v)).run P w=.ok () w'→(execOp a.eval o).run P w=.ok .skip w':=by
  intro w' hr
  have:execOp a.eval o=(do Instr.mapUpdate t (a.eval m) (a.eval k) (a.eval v);pure .skip):=by unfold execOp;rw[ho]
  rw[this,D1,hr];rfl
 obtain⟨hck,hst,hfd⟩:=Xm (w:=w) hfit hkv hall E;obtain⟨E1,E2,E3,E4,E5,E6⟩:=E
 have fin:∀ es' clock' ks' vs',(Instr.mapUpdate t (.map (some g')) kv (a.eval v)).run P w=.ok () (setBlock w g' (.map es' clock'))→EntOk M es' clock' ks' vs'→Leads P bs n o a w (ins id (.hob 0 ks' vs') env):=by
  intro es' clock' ks' vs' hrun E';refine⟨undef,_,M,O,.inr ⟨hex _ (by rw[g2,hkev];exact hrun),rfl⟩,?_⟩;rw[hd,VU];exact h.setEnt hl rfl rfl k1 (XB hb) k2 ⟨g',k1,k2,es',clock',(heap_set hb).1,E'⟩
 rcases hfd with ⟨f1,f2,f3⟩ | ⟨j,e0,f1,f2,f3,f4⟩
 ·rw[f1]at he;cases he;refine fin (es.push ⟨kv,a.eval v,clock⟩) (clock+1) _ _ ?_ ⟨MapKept.stamped_push E1 f3,by simp[maxLen];omega,by simp[E3],by simp[E4],fun j k' e' hk' he'=>?_,fun j v' e' hv' he'=>?_⟩
  ·simp[Instr.mapUpdate,run_underlying ht,D4 hb,hck,f2,E7 _ hb,Result.andThen,setBlock]
  ·rw[E8]at he';split at he'
   ·rename_i hj;cases he';rw[hj,← E3]at hk';simp at hk';subst hk';exact hkv
   ·rename_i hj
    have hjl:j<ks.length:=by
     have:=(Array.getElem?_eq_some_iff.1 he').1;omega
    rw[A8 hjl]at hk';exact E5 j k' e' hk' he'
  ·rw[E8]at he';split at he'
   ·rename_i hj;cases he';rw[hj,← E4]at hv';simp at hv';subst hv';exact hvr
   ·rename_i hj
    have hjl:j<vs.length:=by
     have:=(Array.getElem?_eq_some_iff.1 he').1;omega
    rw[A8 hjl]at hv';exact E6 j v' e' hv' he'
 ·rw[f1]at he;cases he
  have hj:es[j]? = some e0:=by simpa using f3
  have hjs:j<es.size:=(Array.getElem?_eq_some_iff.1 hj).1
  have hkeyf:∀ e',es[j]? = some e'→({ e' with key:=kv,val:=a.eval v }:MapEntry).key=e'.key:=fun e' he'=>by rw[hj]at he';cases he';exact f4.symm
  refine fin (es.modify j (fun e'=>{ e' with key:=kv,val:=a.eval v })) clock _ _ ?_ ⟨MapKept.stamped_modify E1 _ _ (fun _ _=>rfl) (fun e' _ he'=>hkeyf e' he'),by simpa using E2,by simpa using E3,by simpa using E4,fun i k' e' hk' he'=>?_,fun i v' e' hv' he'=>?_⟩
  ·simp[Instr.mapUpdate,run_underlying ht,D4 hb,hck,f2,hj,f4,hst,E7 _ hb,Result.andThen,setBlock]
  ·rw[E9]at he';split at he'
   ·rename_i hij;subst hij;rw[hj]at he';cases he';rw[← f4];exact E5 j k' e0 hk' hj
   ·exact E5 i k' e' hk' he'
  ·rw[E9]at he';split at he'
   ·rename_i hij;subst hij;rw[hj]at he';cases he';rw[List.getElem?_set_self (by omega)]at hv';cases hv';exact hvr
   ·rename_i hij;rw[List.getElem?_set_ne hij]at hv';exact E6 i v' e' hv' he'
end
end Go.AM
