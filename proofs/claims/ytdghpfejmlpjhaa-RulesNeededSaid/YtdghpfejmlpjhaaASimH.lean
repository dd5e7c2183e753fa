/- s -/
import Derived.Test.YtdghpfejmlpjhaaASimG
set_option linter.unusedVariables false
set_option linter.unusedSimpArgs false
namespace Go.AM
open Go.RowKit
section
variable {bs:Base} {n:Nat} {M:Mem} {O:Gh} {env:Env} {a:Act} {w:World} {P:Program}
def addPart (M:Mem) (g len:Nat) (us:Array Value):Mem:=fun b o=>if b=g∧o<len then cellsAt us o else M b o
theorem NN (xs ys:List AV):flat (xs++ys)=flat xs++flat ys:=by simp[flat]
theorem Nj (w:World) (t ty e:TypeId) (i:TypeInfo) (ht:P.underlying t=some (.slice e)) (hi:P.info? e=some i)
    (g off sLen sCap:Nat) (cur:Array Value) (hg:w.heap[g]? = some (.cells cur e (0,0)))
    (a:Addr) (m c:Nat) (news:List Value) (hl:news.length=m * i.size) (hnews:∀ j u,news[j]? = some u→w.cell? (a.add j)=some u) (h1:∀ u∈news,u.oneCell'=true)
    (hroom:sLen+m≤sCap) (hfit:off+sLen * i.size+news.length≤cur.size) :
    (Builtin.append_ #[t,t] ty #[.slice (some ⟨g,off,none⟩) sLen sCap,.slice (some a) m c]).run P w =
      .ok (.slice (some ⟨g,off,none⟩) (sLen+m) sCap) (w.setRow g (cur.toList.take (off+sLen * i.size)++news++cur.toList.drop (off+sLen * i.size+news.length)).toArray):=by
  have hf:=run_firstCells_some (P:=P) w i.size m a m c news hl hnews;have hst:=run_storeCells_at P g (off+sLen * i.size) e news 0 cur w hg (by simpa using hfit) h1;simp only[Nat.add_zero]at hst
  simp[Builtin.append_,run_underlying ht,sizeOf,typeInfo,hi,Builtin.lenOf,hroom,hf,Addr.add_lit,hst]
theorem UX {t e:Nat} {i:TypeInfo} {z:Value} {s:Nat} (ty:Nat) (ht:P.underlying t=some (.slice e)) (hi:P.info? e=some i) (hz:i.zero=some z) (hsz:i.size=s) (hs0:0<s) (hzs:z.cells.size=s)
    {sv yv:Value} {xn m:Nat} {olds news:List Value} (hol:olds.length=xn * s) (hnl:news.length=m * s)
    (hsv:(sv=.slice none 0 0∧xn=0)∨∃ g off cap cur,sv=.slice (some ⟨g,off,none⟩) xn cap∧w.heap[g]? = some (.cells cur e (0,0))∧cur.size=off+cap * s∧xn≤cap∧cap≤maxLen∧(cur.toList.drop off).take (xn * s)=olds)
    (hyv:(yv=.slice none 0 0∧m=0)∨∃ ad c,yv=.slice (some ad) m c∧∀ (j:Nat) u,news[j]? = some u→w.cell? (ad.add j)=some u)
    (h1:∀ u∈news,u.oneCell'=true) (hb1:(xn+m) * i.bytes≤140737488355328) (hb2:xn+m≤140737488355328) :
    ∃ v' w',(Builtin.append_ #[t,t] ty #[sv,yv]).run P w=.ok v' w' ∧
      ((v'=.slice none 0 0∧xn+m=0∧w'=w) ∨
       (∃ g off cap cur cur',sv=.slice (some ⟨g,off,none⟩) xn cap∧w.heap[g]? = some (.cells cur e (0,0))∧v'=.slice (some ⟨g,off,none⟩) (xn+m) cap∧w'=w.setRow g cur'∧cur'.size=off+cap * s∧xn+m≤cap∧cap≤maxLen∧(cur'.toList.drop off).take ((xn+m) * s)=olds++news∧cur'.toList.take off=cur.toList.take off) ∨
       (∃ cap cur',v'=.slice (some ⟨w.heap.size,0,none⟩) (xn+m) cap∧w'=w.drew.alloc (.cells cur' e)∧cur'.size=cap * s∧xn+m≤cap∧cap≤maxLen∧cur'.toList.take ((xn+m) * s)=olds++news)):=by
  subst hsz
  have hmax:xn+m≤maxLen:=by unfold maxLen;omega
  rcases hyv with ⟨rfl,rfl⟩ | ⟨ad,c,rfl,hnews'⟩
  ·
    have hn:news=[]:=List.eq_nil_of_length_eq_zero (by simpa using hnl);subst hn
    rcases hsv with ⟨rfl,rfl⟩ | ⟨g,off,cap,cur,rfl,hg,hcs,hxc,hcm,htk⟩
    · refine⟨.slice none 0 0,w,?_,.inl ⟨rfl,rfl,rfl⟩⟩
      simp[Builtin.append_,run_underlying ht,sizeOf,typeInfo,hi,Builtin.lenOf,Builtin.firstCells]
    · refine⟨.slice (some ⟨g,off,none⟩) xn cap,w,?_,.inr (.inl ⟨g,off,cap,cur,cur,rfl,hg,rfl,?_,hcs,hxc,hcm,by simpa using htk,rfl⟩)⟩
      · simp[Builtin.append_,run_underlying ht,sizeOf,typeInfo,hi,Builtin.lenOf,Builtin.firstCells,hxc,storeCells]
      · rw[setRow_self w g cur e (0,0) hg]
  · have htake:∀ (k:Nat),(olds.toArray++news.toArray++Builtin.zeroCells z.cells k).toList.take ((xn+m) * i.size)=olds++news:=by
      intro k;simp only[Array.toList_append,List.append_assoc];rw[← List.append_assoc]
      have:(xn+m) * i.size=(olds++news).length:=by rw[List.length_append,hol,hnl,Nat.add_mul]
      rw[this];exact List.take_left
    have hsize:∀ (k:Nat),(olds.toArray++news.toArray++Builtin.zeroCells z.cells k).size=(xn+m+k) * i.size:=by
      intro k;simp only[Array.size_append,List.size_toArray,size_zeroCells,hzs,hol,hnl,Nat.add_mul]
    rcases hsv with ⟨rfl,rfl⟩ | ⟨g,off,cap,cur,rfl,hg,hcs,hxc,hcm,htk⟩
    · have ho:olds=[]:=List.eq_nil_of_length_eq_zero (by simpa using hol)
      subst ho
      by_cases hm:m=0
      · subst hm
        have hn:news=[]:=List.eq_nil_of_length_eq_zero (by simpa using hnl);subst hn;refine⟨.slice none 0 0,w,?_,.inl ⟨rfl,rfl,rfl⟩⟩
        simp[Builtin.append_,run_underlying ht,sizeOf,typeInfo,hi,Builtin.lenOf,Builtin.firstCells,loadCells,loadCellsFrom]
      · have hr:=run_append_nil (P:=P) w t ty e i z ht hi hz ad m c news hnl hnews' (by omega) (by unfold maxLen at hmax;omega) (by simp only[Nat.zero_add]at hb1;omega)
        have hge:=grownCap_ge w m 0 e;have hcm:=grownCap_le_maxLen w m 0 e (by simpa using hmax);refine⟨_,_,hr,.inr (.inr ⟨_,_,by rw[Nat.zero_add],rfl,?_,by rw[Nat.zero_add];exact hge,hcm,?_⟩)⟩
        · have:=hsize (grownCap w m 0 e - m)
          simp only[Nat.zero_add]at this
          have e1:m+(grownCap w m 0 e - m)=grownCap w m 0 e:=by omega
          rw[e1]at this
          simpa using this
        · simpa using htake (grownCap w m 0 e - m)
    · by_cases hroom:xn+m≤cap
      · have hfit0:xn * i.size+news.length≤cap * i.size:=by rw[hnl,← Nat.add_mul];exact Nat.mul_le_mul_right _ hroom
        have hfit:off+xn * i.size+news.length≤cur.size:=by rw[hcs];omega
        have hr:=Nj (P:=P) w t ty e i ht hi g off xn cap cur hg ad m c news hnl hnews' h1 hroom hfit
        have hcut:cur.toList.take (off+xn * i.size)=cur.toList.take off++olds:=by rw[List.take_add,htk]
        have hoff:(cur.toList.take off).length=off:=by rw[List.length_take,Array.length_toList];omega
        refine⟨_,_,hr,.inr (.inl ⟨g,off,cap,cur,_,rfl,hg,rfl,rfl,?_,hroom,hcm,?_,?_⟩)⟩
        · simp only[List.size_toArray,List.length_append,List.length_take,List.length_drop,Array.length_toList]
          omega
        · rw[hcut]
          simp only[List.append_assoc];rw[List.drop_append_of_le_length (by omega),List.drop_eq_nil_of_le (by omega),List.nil_append,← List.append_assoc]
          have:(xn+m) * i.size=(olds++news).length:=by rw[List.length_append,hol,hnl,Nat.add_mul]
          rw[this];exact List.take_left
        · rw[hcut]
          simp only[List.append_assoc];rw[List.take_append_of_le_length (by omega),List.take_of_length_le (by omega)]
      · have holds:∀ (j:Nat) u,olds[j]? = some u→w.cell? ((⟨g,off,none⟩:Addr).add j)=some u:=by
          intro j u hu;rw[JU];unfold World.cell?;rw[hg];rw[← htk,List.getElem?_take]at hu
          split at hu
          · rw[List.getElem?_drop]at hu
            simpa using hu
          · cases hu
        have hr:=run_append_grow (P:=P) w t ty e i z ht hi hz ⟨g,off,none⟩ xn cap olds hol holds ad m c news hnl hnews' (by omega) (by unfold maxLen at hmax;omega) (growslice_fits (by omega) hb1);have hge:=grownCap_ge w (xn+m) cap e;have hcm':=grownCap_le_maxLen w (xn+m) cap e hmax;refine⟨_,_,hr,.inr (.inr ⟨_,_,rfl,rfl,?_,hge,hcm',htake _⟩)⟩;rw[hsize]
        congr 1
        omega
theorem NY {t e:Nat} {i:TypeInfo} {z:Value} {s:Nat} (ty:Nat) (ht:P.underlying t=some (.slice e)) (hi:P.info? e=some i) (hz:i.zero=some z) (hsz:i.size=s) (hs0:0<s) (hzs:z.cells.size=s)
    {sv yv:Value} {xn m:Nat} {olds news:List Value} (hol:olds.length=xn * s) (hnl:news.length=m * s)
    (hsv:(sv=.slice none 0 0∧xn=0)∨∃ g cap cur,sv=.slice (some ⟨g,0,none⟩) xn cap∧w.heap[g]? = some (.cells cur e (0,0))∧cur.size=cap * s∧xn≤cap∧cap≤maxLen∧cur.toList.take (xn * s)=olds)
    (hyv:(yv=.slice none 0 0∧m=0)∨∃ ad c,yv=.slice (some ad) m c∧∀ (j:Nat) u,news[j]? = some u→w.cell? (ad.add j)=some u)
    (h1:∀ u∈news,u.oneCell'=true) (hb1:(xn+m) * i.bytes≤140737488355328) (hb2:xn+m≤140737488355328) :
    ∃ v' w',(Builtin.append_ #[t,t] ty #[sv,yv]).run P w=.ok v' w' ∧
      ((v'=.slice none 0 0∧xn+m=0∧w'=w) ∨
       (∃ g cap cur cur',sv=.slice (some ⟨g,0,none⟩) xn cap∧w.heap[g]? = some (.cells cur e (0,0))∧v'=.slice (some ⟨g,0,none⟩) (xn+m) cap∧w'=w.setRow g cur'∧cur'.size=cap * s∧xn+m≤cap∧cap≤maxLen∧cur'.toList.take ((xn+m) * s)=olds++news) ∨
       (∃ cap cur',v'=.slice (some ⟨w.heap.size,0,none⟩) (xn+m) cap∧w'=w.drew.alloc (.cells cur' e)∧cur'.size=cap * s∧xn+m≤cap∧cap≤maxLen∧cur'.toList.take ((xn+m) * s)=olds++news)):=by
  obtain⟨v',w',h,hw⟩:=UX (w:=w) (P:=P) ty ht hi hz hsz hs0 hzs (sv:=sv) hol hnl (by
    rcases hsv with hsv | ⟨g,cap,cur,q1,q2,q3,q4,q5,q6⟩
    · exact .inl hsv
    · exact .inr ⟨g,0,cap,cur,q1,q2,by omega,q4,q5,by simpa using q6⟩) hyv h1 hb1 hb2
  refine⟨v',w',h,?_⟩
  rcases hw with hw | ⟨g,off,cap,cur,cur',q1,q2,q3,q4,q5,q6,q7,q8,_⟩ | hw
  · exact .inl hw
  · rcases hsv with ⟨rfl,_⟩ | ⟨g0,cap0,cur0,p1,_⟩
    · cases q1
    · rw[p1]at q1
      cases q1;exact .inr (.inl ⟨g,cap,cur,cur',p1,q2,q3,q4,by omega,q6,q7,by simpa using q8⟩)
  · exact .inr (.inr hw)
theorem UY {t e:Nat} {i:TypeInfo} {z:Value} {s:Nat} (ty:Nat) (ht:P.underlying t=some (.slice e)) (hi:P.info? e=some i) (hz:i.zero=some z) (hsz:i.size=s) (hs0:0<s) (hzs:z.cells.size=s)
    {ad:Option Addr} {yv:Value} {m:Nat} {news:List Value} (hnl:news.length=m * s)
    (hyv:(yv=.slice none 0 0∧m=0)∨∃ ad c,yv=.slice (some ad) m c∧∀ (j:Nat) u,news[j]? = some u→w.cell? (ad.add j)=some u)
    (h1:∀ u∈news,u.oneCell'=true) (hb1:(0+m) * i.bytes≤140737488355328) (hb2:0+m≤140737488355328) :
    ∃ v' w',(Builtin.append_ #[t,t] ty #[.slice ad 0 0,yv]).run P w=.ok v' w' ∧
      ((m=0∧(∃ ad,v'=.slice ad 0 0)∧w'=w) ∨
       (∃ cap cur',v'=.slice (some ⟨w.heap.size,0,none⟩) (0+m) cap∧w'=w.drew.alloc (.cells cur' e)∧cur'.size=cap * s∧0+m≤cap∧cap≤maxLen∧cur'.toList.take ((0+m) * s)=[]++news)):=by
  cases ad with
  | none =>
    obtain⟨v',w',hr,hw⟩:=NY (w:=w) (P:=P) (olds:=[]) ty ht hi hz hsz hs0 hzs (by simp) hnl (.inl ⟨rfl,rfl⟩) hyv h1 hb1 hb2;refine⟨v',w',hr,?_⟩
    rcases hw with ⟨q1,q2,q3⟩ | ⟨g,cap,cur,cur',q1,_⟩ | q
    · exact .inl ⟨by omega,⟨none,q1⟩,q3⟩
    · cases q1
    · exact .inr q
  | some ad =>
    subst hsz
    by_cases hm:m=0
    · subst hm
      have hn:news=[]:=List.eq_nil_of_length_eq_zero (by simpa using hnl);subst hn;refine⟨.slice (some ad) 0 0,w,?_,.inl ⟨rfl,⟨_,rfl⟩,rfl⟩⟩
      rcases hyv with ⟨rfl,_⟩ | ⟨ad',c,rfl,_⟩
      · simp[Builtin.append_,run_underlying ht,sizeOf,typeInfo,hi,Builtin.lenOf,Builtin.firstCells,storeCells]
      · simp[Builtin.append_,run_underlying ht,sizeOf,typeInfo,hi,Builtin.lenOf,Builtin.firstCells,loadCells,loadCellsFrom,storeCells]
    · rcases hyv with ⟨_,h0⟩ | ⟨ad',c,rfl,hnews'⟩
      · exact absurd h0 hm
      have hr:=run_append_grow (P:=P) w t ty e i z ht hi hz ad 0 0 [] (by simp) (by simp) ad' m c news hnl hnews' (by omega) (by omega) (growslice_fits (by omega) (by simpa using hb1));have hge:=grownCap_ge w m 0 e;have hcm:=grownCap_le_maxLen w m 0 e (by unfold maxLen;omega);refine⟨_,_,hr,.inr ⟨_,_,rfl,rfl,?_,by simpa using hge,by simpa using hcm,?_⟩⟩
      · simp only[Array.size_append,List.size_toArray,size_zeroCells,hzs,hnl,List.nil_append,Nat.zero_add,List.length_nil]
        rw[← Nat.add_mul]
        congr 1
        omega
      · simp only[Array.toList_append,List.nil_append,Nat.zero_add]
        rw[← hnl];exact List.take_left
theorem qdm {d:Nat} {env:Env} (hn:labIn d env=false) {t:Nat} {x:AV} (h:look env t=some x):x.hasLabB d=false:=by
  obtain⟨q,hq,_,h2⟩:=Zm h;unfold labIn at hn;rw[List.any_eq_false]at hn;have:=hn q hq;rw[h2]at this
  simpa using this
theorem Inv.setOwn (h:Inv bs n M O env a w) {d g:Nat} (hn:labIn d env=false) (hd:O false d=none) (hg:∀ i c,O i c≠some g) (hB:¬ bs.D g) (hs:g<w.heap.size):Inv bs n M (setO O false d (some g)) env a w:=by
  have hmono:∀ i c g',O i c=some g'→setO O false d (some g) i c=some g':=by
    intro i c g' hg';rw[jL]
    split
    · rename_i e
      rw[e.1,e.2,hd]at hg';cases hg'
    · exact hg'
  refine⟨h.size,h.defers,h.below,h.hB,h.cons,h.ext,h.old,?_,?_,⟨h.fix.1,fun c k1 k2=>?_⟩,fun t x hx=>(h.slots t x hx).change (Sub.refl M) (Ja O d (some g)) fun i c g' hg'=>⟨hmono i c g' hg',rfl,fun _ hm=>hm⟩⟩
  · intro i c g' hg'
    rw[jL]at hg'
    split at hg'
    · cases hg';exact⟨hB,hs⟩
    · exact h.own i c g' hg'
  · intro i i' c c' g' h1 h2
    rw[jL]at h1 h2
    split at h1 <;> split at h2
    · rename_i e1 e2
      exact⟨e1.1.trans e2.1.symm,e1.2.trans e2.2.symm⟩
    · cases h1;exact absurd h2 (hg i' c')
    · cases h2;exact absurd h1 (hg i c)
    · exact h.inj i i' c c' g' h1 h2
  · obtain⟨e1,e2,e3⟩:=h.fix.2 c k1 k2
    exact⟨(Ja O d (some g) c).1.trans e1,e2,e3⟩
theorem mcRow {w:World} {g o:Nat} {cur:Array Value} {e:Nat} {fr:Nat×Nat} (h:w.heap[g]? = some (.cells cur e fr)):mc w g o=cellsAt cur o:=by
  unfold mc;rw[h]
theorem mcRowAt {w:World} {g o e:Nat} {cur:Array Value} (h:RowAt w g cur e):mc w g o=cellsAt cur o:=by
  obtain⟨el,fz,h1,_⟩:=h;exact mcRow h1
theorem VY {us us':Array Value} {o:Nat} (h:us[o]? = us'[o]?):cellsAt us o=cellsAt us' o:=by
  unfold cellsAt;rw[h]
theorem Zp {xs:List AV} (h:∀ x,x∈xs→x.cells.all AV.one=true) {j:Nat} {c:AV} (hc:(flat xs)[j]? = some c):c.one=true:=by
  obtain⟨x,hx,hcx⟩:=List.mem_flatMap.1 (List.mem_of_getElem? hc);exact List.all_eq_true.1 (h x hx) c hcx
theorem Dn (h:Inv bs n M O env a w) {d e s:Nat} (hn:labIn d env=false) (hd:O false d=none) {xs ys:List AV} {olds news:List Value} {w':World} {v':Value} {cur':Array Value} {g off cap:Nat} {row:Option Nat}
    (hrow:∀ k,row=some k→k=g) (hfresh:g<w.heap.size→row=some g) (hw:w.grownBy w' row) (hB:¬ bs.D g) (hg:∀ i c,O i c≠some g) (hg':w'.heap[g]? = some (.cells cur' e (0,0))) (hsz:cur'.size=off+cap * s) (hcap:xs.length+ys.length≤cap) (hmax:cap≤maxLen)
    (htake:(cur'.toList.drop off).take ((xs.length+ys.length) * s)=olds++news) (hol:olds.length=xs.length * s)
    (hMg:∀ o,M g o=none∨(o<off+xs.length * s∧M g o=cellsAt cur' o))
    (hxs:∀ x,x∈xs++ys→x.cells.length=s) (hx1:∀ x,x∈xs++ys→x.cells.all AV.one=true)
    (hro:∀ (j:Nat) c u,(flat xs)[j]? = some c→olds[j]? = some u→R M c u) (hrn:∀ (j:Nat) c u,(flat ys)[j]? = some c→news[j]? = some u→R M c u) (hdn:d<n) (hv:v'=.slice (some ⟨g,off,none⟩) (xs.length+ys.length) cap) :
    ∃ M' O',Inv bs n M' O' (ins d (.lst e s (some d) (xs++ys)) env) (a.put (some d) v') w':=by
  subst hv;have hgs:g<w'.heap.size:=(Array.getElem?_eq_some_iff.1 hg').1
  have hle:off+(xs.length+ys.length) * s≤cur'.size:=by rw[hsz];exact Nat.add_le_add_left (Nat.mul_le_mul_right _ hcap) _
  have hmul:xs.length * s≤(xs.length+ys.length) * s:=Nat.mul_le_mul_right _ (Nat.le_add_right _ _)
  have hcur:∀ j,j<(xs.length+ys.length) * s→cur'[off+j]? = (olds++news)[j]?:=by
    intro j hj;rw[← htake,List.getElem?_take,if_pos hj,List.getElem?_drop]
    simp
  have hM':Sub M (addPart M g (off+(xs.length+ys.length) * s) cur'):=by
    intro b o u hu;unfold addPart
    split
    · rename_i hc
      obtain⟨rfl,hlt⟩:=hc
      rcases hMg o with h1 | ⟨h1,h2⟩
      · rw[h1]at hu;cases hu
      · rw[← h2]
        exact hu
    · exact hu
  have hC:Cons (addPart M g (off+(xs.length+ys.length) * s) cur') w':=by
    intro b o u hu;unfold addPart at hu
    split at hu
    · rename_i hc
      obtain⟨rfl,hlt⟩:=hc;rw[mcRow hg'];exact hu
    · rename_i hc
      have hb:=ZL (h.cons b o u hu)
      by_cases hbg:b=g
      · subst hbg
        rcases hMg o with h1 | ⟨h1,h2⟩
        · rw[h1]at hu;cases hu
        · exact absurd ⟨rfl,by omega⟩ hc
      · rw[Qp (hw.block b hb (fun e=>hbg (hrow b e.symm)))]
        exact h.cons b o u hu
  have h2:=h.grown (row:=row) (M':=addPart M g (off+(xs.length+ys.length) * s) cur') (fun k hk=>by rw[hrow k hk];exact⟨hB,hg⟩) hw hM' hC (fun b o hb hne=>by
    unfold addPart;rw[if_neg]
    rintro⟨rfl,_⟩
    exact hne (hfresh hb).symm)
  have h3:=h2.setOwn hn hd hg hB hgs
  have hP1:∀ o,o<off+(xs.length+ys.length) * s→addPart M g (off+(xs.length+ys.length) * s) cur' g o=cellsAt cur' o:=by
    intro o ho;unfold addPart;rw[if_pos ⟨rfl,ho⟩]
  have hP2:∀ o,off+(xs.length+ys.length) * s≤o→addPart M g (off+(xs.length+ys.length) * s) cur' g o=M g o:=by
    intro o ho;unfold addPart;rw[if_neg (by omega)]
  generalize addPart M g (off+(xs.length+ys.length) * s) cur'=M' at hM' hC h2 h3 hP1 hP2;refine⟨_,_,h3.put hdn (x:=.lst e s (some d) (xs++ys)) ⟨?_,?_⟩⟩
  · have hlen:xs.length+ys.length=(xs++ys).length:=by simp
    rw[hlen];have hfl:=qW hxs
    have hRR:∀ (j:Nat) c,(flat (xs++ys))[j]? = some c→R M' c (cur'.getD (off+j) undef):=by
      intro j c hc;have hj:=(List.getElem?_eq_some_iff.1 hc).1;rw[hfl,← hlen]at hj
      have hjc:off+j<cur'.size:=by omega
      have e1:cur'[off+j]? = some (cur'.getD (off+j) undef):=by simp[hjc]
      rw[hcur j hj]at e1;rw[NN]at hc
      have hfx:(flat xs).length=xs.length * s:=qW fun x hx=>hxs x (List.mem_append_left _ hx)
      by_cases hjx:j<xs.length * s
      · rw[List.getElem?_append_left (by rw[hfx];exact hjx)]at hc
        rw[List.getElem?_append_left (by rw[hol];exact hjx)]at e1;exact (hro j c _ hc e1).mono hM'
      · rw[List.getElem?_append_right (by rw[hfx];omega),hfx]at hc
        rw[List.getElem?_append_right (by rw[hol];omega),hol]at e1;exact (hrn _ c _ hc e1).mono hM'
    refine R.lst (fun j=>cur'.getD (off+j) undef) (by rw[← hlen];exact hcap) hxs hx1 (fun j c hc=>?_) hRR;have hj:=(List.getElem?_eq_some_iff.1 hc).1;rw[hfl,← hlen]at hj;rw[hP1 (off+j) (by omega)]
    have:off+j<cur'.size:=by omega
    exact Jd (by simp[this]) (QR ((hRR j c hc).one (Zp hx1 hc)))
  · have hlen:xs.length+ys.length=(xs++ys).length:=by simp
    rw[hlen];refine .inr ⟨g,off,cap,cur',rfl,by simp[setO],hg',hsz,by rw[← hlen];exact hcap,hmax,fun o ho=>?_⟩;rw[← hlen]at ho;rw[hP2 o ho]
    rcases hMg o with h1 | ⟨h1,_⟩
    · exact h1
    · omega
theorem qfL {l:Nat} {m:Option Nat}:∀ i c g,relO O l m i c=some g→∃ c',O i c'=some g∧(i=false→(c'=l∧m=some c)∨(c'=c∧c≠l∧m≠some c))∧(i=true→c'=c):=by
  intro i c g hg
  cases i with
  | true=>rw[qez]at hg;exact⟨c,hg,(fun e=>by cases e),fun _=>rfl⟩
  | false =>
    cases m with
    | none =>
      simp only[relO,setO]at hg
      split at hg
      · cases hg
      · rename_i hne
        exact⟨c,hg,(fun _=>.inr ⟨rfl,(fun e=>hne ⟨trivial,e⟩),(fun e=>by cases e)⟩),fun _=>rfl⟩
    | some c1 =>
      simp only[relO,setO]at hg
      split at hg
      · cases hg
      · rename_i hne
        split at hg
        · rename_i he
          exact⟨l,hg,(fun _=>.inl ⟨rfl,by rw[he.2]⟩),fun e=>by cases e⟩
        · rename_i he
          exact⟨c,hg,(fun _=>.inr ⟨rfl,(fun e=>hne ⟨trivial,e⟩),(fun e=>he ⟨trivial,by cases e;rfl⟩)⟩),fun _=>rfl⟩
theorem DF (h:Inv bs n M O env a w) {o:Oper} {args:Array Operand} {ats:Array TypeId} (ho:o.op=.call { callee:=.builtin .append,args:=args,argTypes:=ats }) {env':Env} (he:astep P n o env=some env')
    (hO:∀ (x y:Operand) (t t' d id ex kx off m:Nat) (q:AV),args.toList=[x,y]→ats.toList=[t,t']→o.dst=some d→aop env x=some (.sb id ex kx off m)→aop env y=some q→YH P n t t' d (.sb id ex kx off m) q env=some env'→Leads P bs n o a w env'):Leads P bs n o a w env':=by
  unfold astep at he;rw[ho]at he;simp only at he
  split at he
  case h_2=>cases he
  rename_i x y t t' d ha ht hd
  split at he
  case h_3=>cases he
  case h_1 =>
    rename_i id ex kx off m q hp hq;exact hO x y t t' d id ex kx off m q ha ht hd hp hq he
  rename_i p q hns hp hq
  split at he
  case h_2=>cases he
  rename_i r env1 hap
  have ea:args=#[x,y]:=by apply Array.ext';simpa using ha
  have et:ats=#[t,t']:=by apply Array.ext';simpa using ht
  subst ea;subst et;have hxv:=qo h hp;have hyv:=qo h hq;unfold aappend at hap
  split at hap
  case h_2=>cases hap
  rename_i e s hse;obtain⟨hu,hs⟩:=jK hse
  split at hap
  · cases hap
  rename_i hc;simp only[Bool.and_eq_true]at hc;obtain⟨⟨hc1,hc2⟩,hc3⟩:=hc;have hc1:=Nat.eq_of_beq_eq_true hc1;subst hc1;have hc2:0<s:=Nat.le_of_ble_eq_true hc2
  obtain⟨ie,hie,hsz⟩:∃ ie,P.info? e=some ie∧ie.size=s:=by
    unfold tSize at hs
    cases hi:P.info? e with
    | none=>rw[hi]at hs;cases hs
    | some ie=>rw[hi]at hs;exact⟨ie,rfl,Option.some.inj hs⟩
  obtain⟨z,hz,hzs⟩:∃ z,ie.zero=some z∧z.cells.size=s:=by
    rw[hie]at hc3;simp only[Option.bind_some]at hc3
    cases hz:ie.zero with
    | none=>rw[hz]at hc3;cases hc3
    | some z=>rw[hz]at hc3;exact⟨z,rfl,Nat.eq_of_beq_eq_true hc3⟩
  have hexec:∀ v' w',(Builtin.append_ #[t,t] o.type #[a.eval x,a.eval y]).run P w=.ok v' w'→(execOp a.eval o).run P w=.ok (.value v') w':=by
    intro v' w' hr;unfold execOp;rw[ho];simp only[resolve,invoke,builtin,Sem.run_bind,Sem.run_pure,Result.andThen_ok,List.map_toArray,List.map_cons,List.map_nil,hr]
  split at hap
  · cases hap
  case h_3=>cases hap
  rename_i ey ky lab ys
  split at hap
  · cases hap
  rename_i hky;have hky:=Nat.eq_of_beq_eq_true hky;subst hky
  obtain⟨news,hnl,hnv,hn1,hnr,hyc,hyo⟩:∃ news:List Value,news.length=ys.length * ky∧((a.eval y=.slice none 0 0∧ys.length=0)∨∃ ad c,a.eval y=.slice (some ad) ys.length c∧∀ (j:Nat) u,news[j]? = some u→w.cell? (ad.add j)=some u)∧(∀ u∈news,u.oneCell'=true)∧(∀ (j:Nat) c u,(flat ys)[j]? = some c→news[j]? = some u→R M c u)∧(∀ x,x∈ys→x.cells.length=ky)∧(∀ x,x∈ys→x.cells.all AV.one=true):=by
    rcases hyv.1.lst_inv with ⟨rfl,hv | ⟨ad,cap,hv⟩⟩ | ⟨b,off,cap,us,hv,h1,h2,h3,h4,h5⟩
    · exact⟨[],by simp,.inl ⟨hv,rfl⟩,by simp,by simp[flat],by simp,by simp⟩
    · exact⟨[],by simp,.inr ⟨ad,cap,hv,by simp⟩,by simp,by simp[flat],by simp,by simp⟩
    · have hfl:=qW h2
      refine⟨(List.range (ys.length * ky)).map us,by simp,.inr ⟨_,cap,hv,fun j u hu=>?_⟩,?_,?_,h2,h5⟩
      · rw[JU]
        rw[Jl]at hu
        split at hu
        · rename_i hj
          cases hu;have hcj:(flat ys)[j]? = some ((flat ys)[j]'(by rw[hfl];exact hj)):=List.getElem?_eq_getElem (by rw[hfl];exact hj);exact Ju (h.cons _ _ _ (h3 j _ hcj)) (QR ((h4 j _ hcj).one (Zp h5 hcj)))
        · cases hu
      · intro u hu
        obtain⟨j,hj,rfl⟩:=List.mem_map.1 hu
        have hj':j<(flat ys).length:=by rw[hfl];exact List.mem_range.1 hj
        have hjg:=List.getElem?_eq_getElem hj';refine (h4 j _ hjg).one ?_;have hm:=List.mem_of_getElem? hjg;unfold flat at hm;obtain⟨x',hx',hcx⟩:=List.mem_flatMap.1 hm;have:=h5 x' hx';rw[List.all_eq_true]at this;exact this _ hcx
      · intro j c u hc hu
        rw[Jl]at hu
        split at hu
        · cases hu
          exact h4 j c hc
        · cases hu
  have core:∀ (O2:Gh) (env2:Env) (xs:List AV) (olds:List Value),Inv bs n M O2 env2 a w→labIn d env2=false→O2 false d=none →
      olds.length=xs.length * ky→(∀ x,x∈xs→x.cells.length=ky)→(∀ x,x∈xs→x.cells.all AV.one=true)→(∀ (j:Nat) c u,(flat xs)[j]? = some c→olds[j]? = some u→R M c u) →
      (((∃ ad,a.eval x=.slice ad 0 0)∧xs.length=0)∨∃ g off cap cur,a.eval x=.slice (some ⟨g,off,none⟩) xs.length cap∧w.heap[g]? = some (.cells cur e (0,0))∧cur.size=off+cap * ky∧xs.length≤cap∧cap≤maxLen∧(cur.toList.drop off).take (xs.length * ky)=olds∧¬ bs.D g∧(∀ i c,O2 i c≠some g)∧∀ o,M g o=none∨(o<off+xs.length * ky∧M g o=cellsAt cur o)) →
      (xs.length+ys.length) * ie.bytes≤140737488355328→xs.length+ys.length≤140737488355328→eput n o.dst (.lst e ky (some d) (xs++ys)) env2=some env'→Leads P bs n o a w env':=by
    intro O2 env2 xs olds h2 hn2 hd2 hol hxc hxo hro hx2 hb1 hb2 he2;rw[hd]at he2;obtain⟨hdn,rfl⟩:=YD he2;have hBle:¬ bs.D w.heap.size:=h.fresh (Nat.le_refl _)
    have hxs:∀ x,x∈xs++ys→x.cells.length=ky:=fun x hx=>(List.mem_append.1 hx).elim (hxc x) (hyc x)
    have hxo':∀ x,x∈xs++ys→x.cells.all AV.one=true:=fun x hx=>(List.mem_append.1 hx).elim (hxo x) (hyo x)
    have grow:∀ v' w',(Builtin.append_ #[t,t] o.type #[a.eval x,a.eval y]).run P w=.ok v' w'→(∃ cap cur',v'=.slice (some ⟨w.heap.size,0,none⟩) (xs.length+ys.length) cap∧w'=w.drew.alloc (.cells cur' e)∧cur'.size=cap * ky∧xs.length+ys.length≤cap∧cap≤maxLen∧cur'.toList.take ((xs.length+ys.length) * ky)=olds++news)→Leads P bs n o a w (ins d (.lst e ky (some d) (xs++ys)) env2):=by
      rintro v' w' hrun ⟨cap,cur',rfl,rfl,k5,k6,k7,k8⟩
      obtain⟨M',O',hfin⟩:=Dn h2 (row:=none) hn2 hd2 (xs:=xs) (ys:=ys) (olds:=olds) (news:=news) (g:=w.heap.size) (w':=w.drew.alloc (.cells cur' e)) (fun k hk=>by cases hk) (fun hlt=>by omega) ⟨rfl,rfl,rfl,by simp,fun k hk _=>heap_alloc_old w.drew _ hk⟩ hBle
        (fun i c hc=>by have:=(h2.own i c _ hc).2;omega) (heap_alloc_new w.drew _) (off:=0) (by rw[Nat.zero_add];exact k5) k6 k7 (by rw[List.drop_zero];exact k8) hol (fun o=>.inl (Qf h.cons (Nat.le_refl _) o)) hxs hxo' hro hnr hdn rfl
      exact⟨_,_,M',O',.inl (hexec _ _ hrun),by rw[hd];exact hfin⟩
    rcases hx2 with ⟨⟨ad,hxa⟩,hx0⟩ | hx2
    · have hx0':xs=[]:=List.eq_nil_of_length_eq_zero hx0
      subst hx0';have ho0:olds=[]:=List.eq_nil_of_length_eq_zero (by simpa using hol);subst ho0;obtain⟨v',w',hrun,hways⟩:=UY (w:=w) (P:=P) (t:=t) (e:=e) (i:=ie) (z:=z) (s:=ky) (ad:=ad) o.type hu hie hz hsz hc2 hzs (yv:=a.eval y) hnl hnv hn1 (by simpa using hb1) (by simpa using hb2);rw[← hxa]at hrun
      rcases hways with ⟨hz0,⟨ad',rfl⟩,rfl⟩ | hw
      · have hy0:ys=[]:=List.eq_nil_of_length_eq_zero hz0
        subst hy0;refine⟨_,_,M,O2,.inl (hexec _ _ hrun),?_⟩;rw[hd];refine h2.put hdn ⟨?_,.inl ⟨ad',rfl⟩⟩
        cases ad' with
        | none=>exact R.lstn e ky (some d)
        | some ad'=>exact R.lste e ky (some d) ad' 0
      · exact grow v' w' hrun hw
    obtain⟨v',w',hrun,hways⟩:=UX (w:=w) (P:=P) (t:=t) (e:=e) (i:=ie) (z:=z) (s:=ky) o.type hu hie hz hsz hc2 hzs (sv:=a.eval x) (yv:=a.eval y) hol hnl
      (by
        obtain⟨g,off,cap,cur,k1,k2,k3,k4,k5,k6,_⟩:=hx2
        exact .inr ⟨g,off,cap,cur,k1,k2,k3,k4,k5,k6⟩) hnv hn1 hb1 hb2
    rcases hways with ⟨rfl,hz0,rfl⟩ | ⟨g,off,cap,cur,cur',k1,k2,rfl,rfl,k5,k6,k7,k8,k9⟩ | hw
    · have hx0:xs=[]:=List.eq_nil_of_length_eq_zero (by omega)
      have hy0:ys=[]:=List.eq_nil_of_length_eq_zero (by omega);subst hx0;subst hy0;refine⟨_,_,M,O2,.inl (hexec _ _ hrun),?_⟩;rw[hd];exact h2.put hdn ⟨R.lstn e ky (some d),.inl ⟨none,rfl⟩⟩
    · obtain⟨g',off',cap',cur1,q1,q2,q3,q4,q5,q6,q7,q8,q9⟩:=hx2
      · rw[q1]at k1
        cases k1
        have q9':∀ o,M g o=none∨(o<off+xs.length * ky∧M g o=cellsAt cur' o):=by
          rw[k2]at q2;cases q2;intro o
          rcases q9 o with h0 | ⟨h0,h0'⟩
          · exact .inl h0
          · refine .inr ⟨h0,h0'.trans ?_⟩
            by_cases ho:o<off
            · have e1:=congrArg (fun l=>l[o]?) k9
              simp only[List.getElem?_take,if_pos ho]at e1;exact VY (by simpa using e1.symm)
            · have e1:=congrArg (fun l=>l[o - off]?) q6
              have e2:=congrArg (fun l=>l[o - off]?) k8
              have hlt1:o - off<xs.length * ky:=by omega
              have hlt2:o - off<(xs.length+ys.length) * ky:=Nat.lt_of_lt_of_le hlt1 (Nat.mul_le_mul_right _ (Nat.le_add_right _ _));simp only[List.getElem?_take,if_pos hlt1,List.getElem?_drop]at e1;simp only[List.getElem?_take,if_pos hlt2,List.getElem?_drop]at e2;rw[List.getElem?_append_left (by omega),← e1]at e2
              have e3:off+(o - off)=o:=by omega
              rw[e3]at e2;exact VY (by simpa using e2.symm)
        obtain⟨M',O',hfin⟩:=Dn h2 (row:=some g) hn2 hd2 (xs:=xs) (ys:=ys) (olds:=olds) (news:=news) (fun k hk=>by cases hk;rfl) (fun _=>rfl) (JW w g cur') q7 q8 (setRow_heap w g cur cur' e _ k2) k5 k6 k7 k8 hol q9' hxs hxo' hro hnr hdn rfl;exact⟨_,_,M',O',.inl (hexec _ _ hrun),by rw[hd];exact hfin⟩
    · exact grow v' w' hrun hw
  have hbytes:((P.info? e).map (·.bytes)).getD 0=ie.bytes:=by rw[hie];rfl
  split at hap
  ·
    split at hap
    case isFalse=>cases hap
    rename_i hb;cases hap;rw[hbytes]at hb
    have hx0:a.eval x=.slice none 0 0:=by
      have:=hxv.1;generalize a.eval x=yy at this;cases this;rfl
    have h1:=h.relab d none (fun c e=>by cases e);exact core _ _ [] [] h1 (XE d env) (by simp[relO,setO]) (by simp) (by simp) (by simp) (by simp[flat]) (.inl ⟨⟨none,hx0⟩,rfl⟩) (by simpa using hb.1) (by simpa using hb.2) (by simpa using he)
  · rename_i ex kx c xs
    split at hap
    · cases hap
    rename_i hk;simp only[Bool.and_eq_true]at hk;obtain⟨hk1,hk2⟩:=hk;have hk1:=Nat.eq_of_beq_eq_true hk1;have hk2:=Nat.eq_of_beq_eq_true hk2;subst hk1;subst hk2
    split at hap
    case isFalse=>cases hap
    rename_i hb;cases hap;rw[hbytes]at hb;have h1:=h.relab c none (fun c e=>by cases e);have h2:=h1.relab d none (fun c e=>by cases e)
    have hO2:∀ i c' g,relO (relO O c none) d none i c'=some g→O i c'=some g∧¬ (i=false∧c'=c):=by
      intro i c' g hg;obtain⟨c1,g1,f1,t1⟩:=qfL i c' g hg;obtain⟨c2,g2,f2,t2⟩:=qfL i c1 g g1
      cases i with
      | true =>
        rw[t1 rfl]at t2;rw[t2 rfl]at g2;exact⟨g2,fun e=>by cases e.1⟩
      | false =>
        rcases f1 rfl with ⟨_,e⟩ | ⟨e1,_,_⟩
        · cases e
        rcases f2 rfl with ⟨_,e⟩ | ⟨e2,e3,_⟩
        · cases e
        rw[e1]at e2 e3;rw[e2]at g2;exact⟨g2,fun e=>e3 e.2⟩
    have hd2:relO (relO O c none) d none false d=none:=by simp[relO,setO]
    have hinv:=hxv.1.lst_inv
    rcases hxv.2 with hv | ⟨g,off,cap,cur,q1,q2,q3,q4,q5,q6,q7⟩
    · have hx0:xs=[]:=by
        rcases hinv with ⟨e1,_⟩ | ⟨b,off2,cap,us,hv',_⟩
        · exact e1
        · obtain⟨ad,hv⟩:=hv
          rw[hv]at hv';have:xs.length=0:=(Value.slice.inj hv').2.1.symm;exact List.eq_nil_of_length_eq_zero this
      subst hx0;exact core _ _ [] [] h2 (XE d _) hd2 (by simp) (by simp) (by simp) (by simp[flat]) (.inl ⟨hv,rfl⟩) hb.1 hb.2 (by simpa using he)
    · have known:∀ o,M g o=none∨(o<off+xs.length * kx∧M g o=cellsAt cur o):=by
        intro o
        by_cases ho:o<off+xs.length * kx
        · cases hm:M g o with
          | none=>exact .inl rfl
          | some u =>
            refine .inr ⟨ho,?_⟩;have:=h.cons _ _ _ hm;rw[mcRow q3]at this;exact this.symm
        · exact .inl (q7 o (by omega))
      rcases hinv with ⟨hx0,hv'⟩ | ⟨b,off2,cap',us,hv',g1,g2,g3,g4,g5⟩
      · subst hx0
        refine core _ _ [] [] h2 (XE d _) hd2 (by simp) (by simp) (by simp) (by simp[flat]) (.inr ⟨g,off,cap,cur,q1,q3,q4,q5,q6,by simp,(h.own _ _ _ q2).1,fun i c' hc'=>?_,fun o=>?_⟩) hb.1 hb.2 (by simpa using he)
        · obtain⟨k1,k2⟩:=hO2 i c' g hc'
          exact k2 (h.inj _ _ _ _ g k1 q2)
        · exact known o
      · rw[q1]at hv'
        cases hv';have hfl:=qW g2
        have hle:off+xs.length * kx≤cur.size:=by rw[q4];exact Nat.add_le_add_left (Nat.mul_le_mul_right _ q5) _
        have hcell:∀ j,j<xs.length * kx→cur[off+j]? = some (us j):=by
          intro j hj;have hm:=g3 j _ (List.getElem?_eq_getElem (by rw[hfl];exact hj));have:=h.cons _ _ _ hm;rw[mcRow q3]at this;exact (Yb this).1
        have hold:∀ (j:Nat),((cur.toList.drop off).take (xs.length * kx))[j]? = if j<xs.length * kx then some (us j) else none:=by
          intro j;rw[List.getElem?_take]
          by_cases hj:j<xs.length * kx
          · rw[if_pos hj,if_pos hj,List.getElem?_drop]
            simpa using hcell j hj
          · rw[if_neg hj,if_neg hj]
        refine core _ _ xs ((cur.toList.drop off).take (xs.length * kx)) h2 (XE d _) hd2 (by simp;omega) g2 g5 (fun j c' u hc' hu=>?_) (.inr ⟨g,off,cap,cur,q1,q3,q4,q5,q6,rfl,(h.own _ _ _ q2).1,fun i c' hc'=>?_,known⟩) hb.1 hb.2 he
        · rw[hold]at hu
          split at hu
          · cases hu
            exact g4 j c' hc'
          · cases hu
        · obtain⟨k1,k2⟩:=hO2 i c' g hc'
          exact k2 (h.inj _ _ _ _ g k1 q2)
  · cases hap
end
end Go.AM
