/- s -/
import Derived.Test.YtdghpfejmlpjhaaRInst
import Derived.Maps.RangeRun
set_option maxRecDepth 100000
set_option linter.unusedVariables false
set_option linter.unusedSimpArgs false
namespace Go.Proofs
open Go.RowKit Go.AM
open Go.ChangeMaps (setBlock)
theorem setBlock_at {w:World} {g:Nat} {o o':Obj} (h:w.heap[g]? = some o):(setBlock w g o').heap[g]? = some o':=by
 have:=(Array.getElem?_eq_some_iff.1 h).1;unfold setBlock
 simp[this]
theorem setBlock_other {w:World} {g k:Nat} {o':Obj} (h:k≠g):(setBlock w g o').heap[k]? = w.heap[k]?:=by
 unfold setBlock
 simp[Array.getElem?_setIfInBounds,Ne.symm h]
theorem setBlock_size {w:World} {g:Nat} {o':Obj}:(setBlock w g o').heap.size=w.heap.size:=by
 unfold setBlock
 simp
def Iter {κ:Type} (K:κ→Value) (w:World) (gi bm:Nat) (es:Array MapEntry) (clock:Nat) (rem:List κ):Prop :=
 ∃ seen c0,w.heap[gi]? = some (.mapIter (some bm) clock seen c0)∧clock≤c0∧rem.length=(leftOf es seen).size∧∀ (j:Nat) f e,rem[j]? = some f→(leftOf es seen)[j]? = some e→e.key=K f
theorem Iter.of {κ:Type} {K:κ→Value} {w w':World} {gi bm:Nat} {es:Array MapEntry} {clock:Nat} {rem:List κ} (h:Iter K w gi bm es clock rem) (hb:w'.heap[gi]? = w.heap[gi]?):Iter K w' gi bm es clock rem:=by
 obtain⟨seen,c0,h1,h2⟩:=h;exact⟨seen,c0,hb.trans h1,h2⟩
theorem Iter.lt {κ:Type} {K:κ→Value} {w:World} {gi bm:Nat} {es:Array MapEntry} {clock:Nat} {rem:List κ} (h:Iter K w gi bm es clock rem):gi<w.heap.size:=by
 obtain⟨seen,c0,h1,h2⟩:=h;exact lt_of_block h1
theorem Iter.next {κ:Type} {K:κ→Value} {w:World} {gi bm:Nat} {es:Array MapEntry} {clock:Nat} {rem:List κ} (h:Iter K w gi bm es clock rem) (hb:w.heap[bm]? = some (.map es clock)) (hs:MapKept.Stamped es clock) (ty:TypeId) :
  (rem=[]∧(Instr.next (.pointer (some ⟨gi,0,none⟩)) false ty).run Try.prog w=.ok (.tuple #[.bool false]) w) ∨
  ∃ (j:Nat) (f:κ) (v:Value) (w1:World),rem[j]? = some f∧(Instr.next (.pointer (some ⟨gi,0,none⟩)) false ty).run Try.prog w=.ok (.tuple #[.bool true,K f,v]) w1∧w.grownBy w1 (some gi)∧w1.heap.size=w.heap.size∧Iter K w1 gi bm es clock (rem.eraseIdx j) ∧
   ∀ w2,w2.heap[gi]? = w1.heap[gi]?→w2.heap[bm]? = some (.map es clock)→(Instr.entry (.pointer (some ⟨gi,0,none⟩))).run Try.prog w2=.ok (.tuple #[K f,v]) w2:=by
 obtain⟨seen,c0,h1,h2,h3,h4⟩:=h;obtain⟨hb1,hb2,hb3⟩:=hs
 rcases qbD (P:=Try.prog) ty h1 hb hb1 h2 with ⟨r1,r2⟩ | ⟨j,hj,w1,hw1,r2⟩
 ·exact .inl ⟨List.eq_nil_of_length_eq_zero (by omega),r2⟩
 ·right
  have hjr:j<rem.length:=by omega
  have hk:=h4 j _ _ (List.getElem?_eq_getElem hjr) (Array.getElem?_eq_getElem hj)
  have hg1:w1.heap[gi]? = some (.mapIter (some bm) clock seen c0):=by
   rcases hw1 with rfl | rfl
   ·exact h1
   ·exact h1
  have hl:=NL hb2 hj
  have hsz:(leftOf es (seen.push (leftOf es seen)[j].born)).size=(leftOf es seen).size - 1:=by
   rw[← Array.length_toList,hl,List.length_eraseIdx,if_pos (by simpa using hj),Array.length_toList]
  rw[hk]at r2;refine⟨j,rem[j],_,_,List.getElem?_eq_getElem hjr,r2,?_,?_,⟨_,clock,setBlock_at hg1,Nat.le_refl _,?_,?_⟩,fun w2 e1 e2=>?_⟩
  ·rcases hw1 with rfl | rfl
   ·exact QE hg1
   ·obtain⟨t1,t2,t3,t4,t5⟩:=QE (o':=.mapIter (some bm) clock (seen.push (leftOf es seen)[j].born) clock) hg1;exact⟨t1,t2,t3,t4,t5⟩
  ·rcases hw1 with rfl | rfl <;> simp[setBlock]
  ·rw[List.length_eraseIdx,if_pos hjr,hsz,h3]
  ·intro i f e hf he;rw[← Array.getElem?_toList,hl,List.getElem?_eraseIdx]at he;rw[List.getElem?_eraseIdx]at hf
   split at he
   ·rename_i hij;rw[if_pos hij]at hf;exact h4 i f e hf (by rw[← Array.getElem?_toList];exact he)
   ·rename_i hij;rw[if_neg hij]at hf;exact h4 (i+1) f e hf (by rw[← Array.getElem?_toList];exact he)
  ·rw[← hk];have hm:(leftOf es seen)[j]∈leftOf es seen:=Array.getElem_mem hj;unfold leftOf at hm;have hm2:=(Array.mem_filter.1 hm).1;exact run_entry_at w2 gi bm clock seen es clock _ (by rw[e1];exact setBlock_at hg1) e2 (Array.mem_toList_iff.2 hm2) hb2
def factsC (l:List rufact):List Value:=l.flatMap fun f=>[.int .i64 f.ql,.int .i64 f.f_a,.int .i64 f.f_b]
theorem VX (l m:List rufact):factsC (l++m)=factsC l++factsC m:=by simp[factsC]
abbrev kE (bl:List (Int×List rufact)):List AV:=bl.map fun p=>AV.int .i64 p.1
abbrev tE (bl:List (Int×List rufact)):List AV:=bl.map fun _=>AV.top
structure ByRel (w:World) (base gm:Nat) (bl:List (Int×List rufact)) (es:Array MapEntry) (clock:Nat):Prop where
 at':w.heap[gm]? = some (.map es clock)
 ent:EntOk (fun _ _=>none) es clock (kE bl) (tE bl)
 row:∀ (j:Nat) p e,bl[j]? = some p→es[j]? = some e→p.2≠[]∧w.ownsRow base 127 3 e.val p.2.length (factsC p.2)
 apart:∀ (i j:Nat) e f g,es[i]? = some e→es[j]? = some f→e.val.ownBlock=some g→f.val.ownBlock=some g→i=j
 lt:gm<base
theorem ByRel.below {w w':World} {base gm:Nat} {bl:List (Int×List rufact)} {es:Array MapEntry} {clock:Nat} (h:ByRel w base gm bl es clock) (hB:∀ k,k<w.heap.size→(k=gm∨base≤k)→w'.heap[k]? = w.heap[k]?):ByRel w' base gm bl es clock:=by
 obtain⟨h1,h2,h3,h4,h5⟩:=h;refine⟨(hB gm (lt_of_block h1) (.inl rfl)).trans h1,h2,fun j p e hp he=>⟨(h3 j p e hp he).1,?_⟩,h4,h5⟩;obtain⟨q1,q2⟩:=(h3 j p e hp he).2;refine⟨q1,?_⟩
 rcases q2 with hn | ⟨g,cap,cur,hv,hb,hgg,rest⟩
 ·exact .inl hn
 ·exact .inr ⟨g,cap,cur,hv,hb,by rw[hB g (lt_of_block hgg) (.inr hb)];exact hgg,rest⟩
theorem Try.info127:(Try.prog.info? 127).map (fun i=>(i.zero,i.size,i.bytes))=some (some (.agg #[.int .i64 0,.int .i64 0,.int .i64 0]),3,24):=by kernel_rfl
theorem fits3 (x:Int):keyFits Try.prog 3 (AV.int .i64 x)=true:=by kernel_rfl
theorem qgL (x y:Int):akeq (AV.int .i64 x) (AV.int .i64 y)=keq1 x y:=by simp[akeq,keq1,kbeq]
theorem Db (k:Int):∀ bl:List (Int×List rufact),(∃ j l,findA (AV.int .i64 k) (kE bl)=some j∧bl[j]? = some (k,l)∧mget keq1 [] k bl=l∧∀ m,mset keq1 k m bl=bl.set j (k,m))∨(findA (AV.int .i64 k) (kE bl)=none∧mget keq1 [] k bl=[]∧∀ m,mset keq1 k m bl=bl++[(k,m)])
 | []=>.inr ⟨rfl,rfl,fun m=>rfl⟩
 | p::r=>by
  have ih:=Db k r;simp only[kE,List.map_cons,findA,mget,mset,qgL]at ih ⊢
  cases hq:keq1 p.1 k with
  | true =>
   have:p.1=k:=by simpa[keq1] using hq
   subst this;exact .inl ⟨0,p.2,rfl,rfl,rfl,fun m=>rfl⟩
  | false =>
   simp only[cond_false]
   rcases ih with ⟨j,l,h1,h2,h3,h4⟩ | ⟨h1,h2,h3⟩
   ·rw[h1];exact .inl ⟨j+1,l,rfl,by simpa using h2,h3,fun m=>by rw[h4];rfl⟩
   ·rw[h1];exact .inr ⟨rfl,h2,fun m=>by rw[h3];rfl⟩
theorem ByRel.step {w:World} {base gm:Nat} {bl:List (Int×List rufact)} {es:Array MapEntry} {clock:Nat} (h:ByRel w base gm bl es clock) {k:Int} (hwf:wfI .i64 k=true) (hlen:bl.length<1000000000) :
  ∃ v24,(∀ w',w'.heap[gm]? = some (.map es clock)→(Instr.lookup 191 (.map (some gm)) (.int .i64 k) false).run Try.prog w'=.ok v24 w')∧w.ownsRow base 127 3 v24 (mget keq1 [] k bl).length (factsC (mget keq1 [] k bl)) ∧
   ∀ (x:rufact) (vv:Value) (g:Nat) (w2:World),w.grownBy w2 v24.ownBlock→w2.ownsRow base 127 3 vv ((mget keq1 [] k bl).length+1) (factsC (mget keq1 [] k bl)++[.int .i64 x.ql,.int .i64 x.f_a,.int .i64 x.f_b])→vv.ownBlock=some g→(v24.ownBlock=some g∨w.heap.size≤g) →
    ∃ es' clock',(Instr.mapUpdate 191 (.map (some gm)) (.int .i64 k) vv).run Try.prog w2=.ok () (setBlock w2 gm (.map es' clock'))∧ByRel (setBlock w2 gm (.map es' clock')) base gm (mset keq1 k (mget keq1 [] k bl++[x]) bl) es' clock':=by
 obtain⟨h1,E,h3,h4,h5⟩:=h
 have ht:Qq Try.prog 191=some (3,150):=by kernel_rfl
 have ht':=QB ht
 have hkv:(AV.int .i64 k).keyV=some (.int .i64 k):=by simp only[AV.keyV,hwf]
 have hall:(kE bl).all (keyFits Try.prog 3)=true:=by
  rw[List.all_map,List.all_eq_true]
  exact fun p _=>fits3 p.1
 have fnd:=fun w=>YB (P:=Try.prog) (w:=w) (fits3 k) hkv hall E
 obtain⟨E1,E2,E3,E4,E5,E6⟩:=E
 have hsz:es.size=bl.length:=by simpa[kE] using E3.symm
 have hzero:∀ w,(zeroValue 150).run Try.prog w=.ok (.slice none 0 0) w:=Try.zeroValue150
 have kept:∀ {w2:World} {row:Option Nat},w.grownBy w2 row→∀ (j:Nat) p e,bl[j]? = some p→es[j]? = some e→(e.val.ownBlock=none∨e.val.ownBlock≠row)→∀ es' clock',(setBlock w2 gm (.map es' clock')).ownsRow base 127 3 e.val p.2.length (factsC p.2):=by
  intro w2 row hg j p e hp he hne es' clock';have h6:=World.ownsRow.kept (h3 j p e hp he).2 hg hne;obtain⟨q1,q2⟩:=h6;refine⟨q1,?_⟩
  rcases q2 with hn | ⟨g,cap,cur,hv,hb,hgg,rest⟩
  ·exact .inl hn
  ·exact .inr ⟨g,cap,cur,hv,hb,by rw[setBlock_other (by omega)];exact hgg,rest⟩
 have keptN:∀ {w2:World} {vv:Value} {n:Nat} {xs:List Value},w2.ownsRow base 127 3 vv n xs→∀ es' clock',(setBlock w2 gm (.map es' clock')).ownsRow base 127 3 vv n xs:=by
  intro w2 vv n xs h6 es' clock';obtain⟨q1,q2⟩:=h6;refine⟨q1,?_⟩
  rcases q2 with hn | ⟨g,cap,cur,hv,hb,hgg,rest⟩
  ·exact .inl hn
  ·exact .inr ⟨g,cap,cur,hv,hb,by rw[setBlock_other (by omega)];exact hgg,rest⟩
 have hlt:∀ (j:Nat) e g,es[j]? = some e→e.val.ownBlock=some g→g<w.heap.size∧gm≠g:=by
  intro j e g he hg
  have hj:j<bl.length:=by rw[← hsz];exact (Array.getElem?_eq_some_iff.1 he).1
  have:=(h3 j _ e (List.getElem?_eq_getElem hj) he).2.lt g hg;omega
 rcases Db k bl with ⟨j,l,a1,a2,a3,a4⟩ | ⟨a1,a2,a3⟩
 ·
  obtain⟨e0,he0⟩:∃ e0,es[j]? = some e0:=by
   have:j<es.size:=by rw[hsz];exact (List.getElem?_eq_some_iff.1 a2).1
   exact⟨_,Array.getElem?_eq_getElem this⟩
  have hf:∀ w',(Instr.findKey 3 (.int .i64 k) es.toList).run Try.prog w'=.ok (some (j,e0.val)) w'∧e0.key=.int .i64 k:=fun w'=>by
   obtain⟨_,_,hfd⟩:=fnd w'
   rcases hfd with ⟨k1,_,_⟩ | ⟨j',e',k1,k2,k3,k4⟩
   ·rw[a1]at k1;cases k1
   ·rw[a1]at k1;cases k1
    have:es[j]? = some e':=by simpa using k3
    rw[this]at he0;cases he0;exact⟨k2,k4⟩
  have hrow:=h3 j _ e0 a2 he0;simp only[a3,a4];refine⟨e0.val,fun w' hb=>?_,hrow.2,fun x vv g w2 hg ho hvg hat=>⟨es.modify j (fun e'=>{ e' with key:=.int .i64 k,val:=vv }),clock,?_,⟨setBlock_at ((hg.block gm (lt_of_block h1) (fun e=>(hlt j e0 gm he0 e.symm).2 rfl)).trans h1),⟨MapKept.stamped_modify E1 _ _ (fun _ _=>rfl) (fun e' _ he'=>by rw[he0]at he';cases he';exact ((hf w).2).symm),by simpa using E2,by simp[kE,hsz],by simp[tE,hsz],fun i k' e' hk' he'=>?_,fun i v' e' hv' he'=>?_⟩,fun i p e' hp he'=>?_,fun i i' e f gg he hf' g1 g2=>?_,h5⟩⟩⟩
  ·obtain⟨hck,_,_⟩:=fnd w';have hj:es[j]? = some e0:=he0
   simp[Instr.lookup,run_underlying ht',MapKept.run_getObj_map hb,hck,(hf w').1,hj,Result.andThen]
  ·have hb2:w2.heap[gm]? = some (.map es clock):=(hg.block gm (lt_of_block h1) (fun e=>(hlt j e0 gm he0 e.symm).2 rfl)).trans h1;obtain⟨hck,hst,_⟩:=fnd w2;have f4:=(hf w2).2
   simp[Instr.mapUpdate,run_underlying ht',MapKept.run_getObj_map hb2,hck,(hf w2).1,he0,f4,hst,MapKept.run_setObj_map _ hb2,Result.andThen,setBlock]
  ·rw[Array.getElem?_modify]at he';simp only[kE,List.getElem?_map,Option.map_eq_some_iff]at hk';obtain⟨p,hp,rfl⟩:=hk';rw[List.getElem?_set]at hp
   split at he'
   ·rename_i hij;subst hij;rw[he0]at he';cases he';rw[if_pos rfl]at hp
    split at hp
    ·cases hp;exact hkv
    ·cases hp
   ·rename_i hij;rw[if_neg hij]at hp;exact E5 i _ e' (by simp[kE,hp]) he'
  ·simp only[tE,List.getElem?_map,Option.map_eq_some_iff]at hv';obtain⟨_,_,rfl⟩:=hv';exact .top _
  ·rw[Array.getElem?_modify]at he';rw[List.getElem?_set]at hp
   split at he'
   ·rename_i hij;subst hij;rw[he0]at he';cases he';rw[if_pos rfl]at hp
    split at hp
    ·cases hp;refine⟨by simp,?_⟩;rw[VX,List.length_append];exact keptN ho _ _
    ·cases hp
   ·rename_i hij;rw[if_neg hij]at hp;refine⟨(h3 i p e' hp he').1,kept hg i p e' hp he' ?_ _ _⟩
    cases hob:e'.val.ownBlock with
    | none=>exact .inl rfl
    | some b=>exact .inr fun e=>hij (h4 j i e0 e' b he0 he' e.symm hob)
  ·
   rw[Array.getElem?_modify]at he hf'
   split at he <;> split at hf'
   ·rename_i q1 q2;omega
   ·rename_i q1 q2;subst q1;rw[he0]at he;cases he;have g1':vv.ownBlock=some gg:=g1;rw[hvg]at g1';cases g1'
    rcases hat with h6 | h6
    ·exact absurd (h4 j i' e0 f _ he0 hf' h6 g2) q2
    ·have:=(hlt i' f _ hf' g2).1;omega
   ·rename_i q1 q2;subst q2;rw[he0]at hf';cases hf';have g2':vv.ownBlock=some gg:=g2;rw[hvg]at g2';cases g2'
    rcases hat with h6 | h6
    ·exact absurd (h4 j i e0 e _ he0 he h6 g1) q1
    ·have:=(hlt i e _ he g1).1;omega
   ·exact h4 i i' e f gg he hf' g1 g2
 ·
  have hf:∀ w',(Instr.findKey 3 (.int .i64 k) es.toList).run Try.prog w'=.ok none w'∧(∀ e∈es.toList,e.key≠.int .i64 k):=fun w'=>by
   obtain⟨_,_,hfd⟩:=fnd w'
   rcases hfd with ⟨k1,k2,k3⟩ | ⟨j',e',k1,k2,k3,k4⟩
   ·exact⟨k2,k3⟩
   ·rw[a1]at k1;cases k1
  simp only[a2,a3];refine⟨.slice none 0 0,fun w' hb=>?_,World.ownsRow_nil _ _ _ _,fun x vv g w2 hg ho hvg hat=>⟨es.push ⟨.int .i64 k,vv,clock⟩,clock+1,?_,⟨setBlock_at ((hg.block gm (lt_of_block h1) (fun e=>by cases e)).trans h1),⟨MapKept.stamped_push E1 (hf w).2,by simp[maxLen];omega,by simp[kE,hsz],by simp[tE,hsz],fun i k' e' hk' he'=>?_,fun i v' e' hv' he'=>?_⟩,fun i p e' hp he'=>?_,fun i i' e f gg he hf' g1 g2=>?_,h5⟩⟩⟩
  ·obtain⟨hck,_,_⟩:=fnd w'
   simp[Instr.lookup,run_underlying ht',MapKept.run_getObj_map hb,hck,(hf w').1,hzero,Result.andThen]
  ·have hb2:w2.heap[gm]? = some (.map es clock):=(hg.block gm (lt_of_block h1) (fun e=>by cases e)).trans h1;obtain⟨hck,hst,_⟩:=fnd w2
   simp[Instr.mapUpdate,run_underlying ht',MapKept.run_getObj_map hb2,hck,(hf w2).1,MapKept.run_setObj_map _ hb2,Result.andThen,setBlock]
  ·rw[Array.getElem?_push]at he';simp only[kE,List.getElem?_map,Option.map_eq_some_iff]at hk';obtain⟨p,hp,rfl⟩:=hk'
   split at he'
   ·rename_i hi;cases he';rw[hi,hsz,List.getElem?_concat_length]at hp;cases hp;exact hkv
   ·have hi:=(Array.getElem?_eq_some_iff.1 he').1;rw[List.getElem?_append_left (by omega)]at hp;exact E5 i _ e' (by simp[kE,hp]) he'
  ·simp only[tE,List.getElem?_map,Option.map_eq_some_iff]at hv';obtain⟨_,_,rfl⟩:=hv';exact .top _
  ·rw[Array.getElem?_push]at he'
   split at he'
   ·rename_i hi;cases he';rw[hi,hsz,List.getElem?_concat_length]at hp;cases hp;refine⟨by simp,?_⟩;have:=keptN ho (es.push ⟨.int .i64 k,vv,clock⟩) (clock+1)
    simpa[factsC] using this
   ·have hi:=(Array.getElem?_eq_some_iff.1 he').1;rw[List.getElem?_append_left (by omega)]at hp;exact⟨(h3 i p e' hp he').1,kept hg i p e' hp he' (by cases hob:e'.val.ownBlock with | none=>exact .inl rfl | some b=>exact .inr fun e=>by cases e) _ _⟩
  ·rw[Array.getElem?_push]at he hf'
   have hnew:∀ (i:Nat) e',es[i]? = some e'→e'.val.ownBlock=some g→False:=fun i e' he' hg'=>by
    have:=(hlt i e' _ he' hg').1
    rcases hat with h6 | h6
    ·cases h6
    ·omega
   split at he <;> split at hf'
   ·omega
   ·cases he;have g1':vv.ownBlock=some gg:=g1;rw[hvg]at g1';cases g1';exact (hnew i' f hf' g2).elim
   ·cases hf';have g2':vv.ownBlock=some gg:=g2;rw[hvg]at g2';cases g2';exact (hnew i e he g1).elim
   ·exact h4 i i' e f gg he hf' g1 g2
end Go.Proofs
