import Derived.Test.YtdghpfejmlpjhaaRInst
import Derived.Maps.RangeRun
import Derived.Laws.EntriesVeiled
import Derived.Deep.RegionHeld3
import Derived.Deep.AppendLies
import Derived.Test.YtdghpfejmlpjhaaRAT
import Derived.Test.YtdghpfejmlpjhaaASimM
set_option linter.all false
set_option maxRecDepth 100000
open Prod renaming fst→A0
open Nat renaming le_refl→A1, zero_le→D4, le_trans→F7
open List renaming map_cons→A2, getElem_cons_succ→A4, length_map→A5, length_eraseIdx→A6, length_append→A8, getElem_toArray→A9, getElem_cons_zero→B0, setIfInBounds_toArray→B1, set_cons_zero→B4, set_cons_succ→B7, getElem?_eq_getElem→C7, replicate→C9, getElem?_map→D1, eq_nil_of_length_eq_zero→D5, getElem?_concat_length→D8, getElem?_append_left→D9, mem_cons_of_mem→E0, mem_cons→E7, all_eq_true→E9, nil_append→F6, mem_append_right→F8, length_cons→G0, append_assoc→G1, getElem?_eraseIdx→G5, eraseIdx_cons_succ→G8, getD_eq_getElem?_getD→G9, length_filter_le→H4, mem_of_getElem?→H5
open Go.World renaming cell?→A3, news_of_block→F9
open Go.Result renaming andThen→A7
open Bool renaming and_eq_true→C0
open Go.MapKept renaming run_getObj_map→C8, run_setObj_map→D7, Stamped→E8, stamped_modify→G6, stamped_push→G7, stamped_iff→H0
open Array renaming getElem?_modify→D0, getElem?_push→D3, getElem?_toList→D6, getElem?_setIfInBounds→G2, getElem?_eq_getElem→G3, length_toList→G4
open Option renaming map_eq_some_iff→D2
namespace Go.Proofs
open Go.RowKit Go.AM
open Go.ChangeMaps (setBlock)
theorem setBlock_at {w:World} {g:Nat} {o o':Obj} (h:w.heap[g]? = some o):(setBlock w g o').heap[g]? = some o':=by
 have:=(Array.getElem?_eq_some_iff.1 h).1;unfold setBlock;simp[this]
theorem setBlock_other {w:World} {g k:Nat} {o':Obj} (h:k≠g):(setBlock w g o').heap[k]? = w.heap[k]?:=by
 unfold setBlock;simp[G2,Ne.symm h]
theorem setBlock_size {w:World} {g:Nat} {o':Obj}:(setBlock w g o').heap.size=w.heap.size:=by
 unfold setBlock;simp
def Iter {κ:Type} (K:κ→Value) (w:World) (gi bm:Nat) (es:Array MapEntry) (clock:Nat) (rem:List κ):Prop :=
 ∃ seen c0,w.heap[gi]? = some (.mapIter (some bm) clock seen c0)∧clock≤c0∧rem.length=(leftOf es seen).size∧∀ (j:Nat) f e,rem[j]? = some f→(leftOf es seen)[j]? = some e→e.key=K f
theorem Iter.of {κ:Type} {K:κ→Value} {w w':World} {gi bm:Nat} {es:Array MapEntry} {clock:Nat} {rem:List κ} (h:Iter K w gi bm es clock rem) (hb:w'.heap[gi]? = w.heap[gi]?):Iter K w' gi bm es clock rem:=by
 obtain⟨seen,c0,h1,h2⟩:=h;exact⟨seen,c0,hb.trans h1,h2⟩
theorem Iter.lt {κ:Type} {K:κ→Value} {w:World} {gi bm:Nat} {es:Array MapEntry} {clock:Nat} {rem:List κ} (h:Iter K w gi bm es clock rem):gi<w.heap.size:=by
 obtain⟨seen,c0,h1,h2⟩:=h;exact lt_of_block h1
theorem Iter.next {κ:Type} {K:κ→Value} {w:World} {gi bm:Nat} {es:Array MapEntry} {clock:Nat} {rem:List κ} (h:Iter K w gi bm es clock rem) (hb:w.heap[bm]? = some (.map es clock)) (hs:E8 es clock) (ty:TypeId) :
  (rem=[]∧(Instr.next (.pointer (some ⟨gi,0,none⟩)) false ty).run Try.prog w=.ok (.tuple #[.bool false]) w) ∨
  ∃ (j:Nat) (f:κ) (v:Value) (w1:World),rem[j]? = some f∧(Instr.next (.pointer (some ⟨gi,0,none⟩)) false ty).run Try.prog w=.ok (.tuple #[.bool true,K f,v]) w1∧w.grownBy w1 (some gi)∧w1.heap.size=w.heap.size∧Iter K w1 gi bm es clock (rem.eraseIdx j) ∧
   ∀ w2,w2.heap[gi]? = w1.heap[gi]?→w2.heap[bm]? = some (.map es clock)→(Instr.entry (.pointer (some ⟨gi,0,none⟩))).run Try.prog w2=.ok (.tuple #[K f,v]) w2:=by
 obtain⟨seen,c0,h1,h2,h3,h4⟩:=h;obtain⟨hb1,hb2,hb3⟩:=hs
 rcases qeM (P:=Try.prog) ty h1 hb hb1 h2 with ⟨r1,r2⟩ | ⟨j,hj,w1,hw1,r2⟩
 ·exact .inl ⟨D5 (by omega),r2⟩
 ·right
  have hjr:j<rem.length:=by omega
  have hk:=h4 j _ _ (C7 hjr) (G3 hj)
  have hg1:w1.heap[gi]? = some (.mapIter (some bm) clock seen c0):=by
   rcases hw1 with rfl | rfl
   ·exact h1
   ·exact h1
  have hl:=qaE hb2 hj
  have hsz:(leftOf es (seen.push (leftOf es seen)[j].born)).size=(leftOf es seen).size - 1:=by
   rw[← G4,hl,A6,if_pos (by simpa using hj),G4]
  rw[hk]at r2;refine⟨j,rem[j],_,_,C7 hjr,r2,?_,?_,⟨_,clock,setBlock_at hg1,A1 _,?_,?_⟩,fun w2 e1 e2=>?_⟩
  ·rcases hw1 with rfl | rfl
   ·exact Yc hg1
   ·obtain⟨t1,t2,t3,t4,t5⟩:=Yc (o':=.mapIter (some bm) clock (seen.push (leftOf es seen)[j].born) clock) hg1;exact⟨t1,t2,t3,t4,t5⟩
  ·rcases hw1 with rfl | rfl<;>simp[setBlock]
  ·rw[A6,if_pos hjr,hsz,h3]
  ·intro i f e hf he;rw[← D6,hl,G5]at he;rw[G5]at hf;split at he
   ·rename_i hij;rw[if_pos hij]at hf;exact h4 i f e hf (by rw[← D6];exact he)
   ·rename_i hij;rw[if_neg hij]at hf;exact h4 (i+1) f e hf (by rw[← D6];exact he)
  ·rw[← hk];have hm:(leftOf es seen)[j]∈leftOf es seen:=Array.getElem_mem hj;unfold leftOf at hm;have hm2:=(Array.mem_filter.1 hm).1;exact run_entry_at w2 gi bm clock seen es clock _ (by rw[e1];exact setBlock_at hg1) e2 (Array.mem_toList_iff.2 hm2) hb2
def factsC (l:List rufact):List Value:=l.flatMap fun f=>[.int .i64 f.qr,.int .i64 f.f_a,.int .i64 f.f_b]
theorem Hn (l m:List rufact):factsC (l++m)=factsC l++factsC m:=by simp[factsC]
abbrev kE (bl:List (Int×List rufact)):List AV:=bl.map fun p=>AV.int .i64 p.1
abbrev tE (bl:List (Int×List rufact)):List AV:=bl.map fun _=>AV.top
structure ByRel (w:World) (base gm:Nat) (bl:List (Int×List rufact)) (es:Array MapEntry) (clock:Nat):Prop where
 at':w.heap[gm]? = some (.map es clock)
 ent:EntOk (fun _ _=>none) es clock (kE bl) (tE bl)
 row:∀ (j:Nat) p e,bl[j]? = some p→es[j]? = some e→p.2≠[]∧w.ownsRow base 127 3 e.val p.2.length (factsC p.2)
 apart:∀ (i j:Nat) e f g,es[i]? = some e→es[j]? = some f→e.val.ownBlock=some g→f.val.ownBlock=some g→i=j
 lt:gm<base
theorem ByRel.below {w w':World} {base gm:Nat} {bl:List (Int×List rufact)} {es:Array MapEntry} {clock:Nat} (h:ByRel w base gm bl es clock) (hB:∀ k,k<w.heap.size→(k=gm∨base≤k)→w'.heap[k]? = w.heap[k]?):ByRel w' base gm bl es clock:=by
 obtain⟨h1,h2,h3,h4,h5⟩:=h;refine⟨(hB gm (lt_of_block h1) (.inl rfl)).trans h1,h2,fun j p e hp he=>⟨(h3 j p e hp he).1,?_⟩,h4,h5⟩;obtain⟨q1,q2⟩:=(h3 j p e hp he).2;refine⟨q1,?_⟩
 rcases q2 with hn | ⟨g,cap,cur,hv,hb,hgg,rest⟩
 ·exact .inl hn
 ·exact .inr ⟨g,cap,cur,hv,hb,by rw[hB g (lt_of_block hgg) (.inr hb)];exact hgg,rest⟩
theorem Try.info127:(Try.prog.info? 127).map (fun i=>(i.zero,i.size,i.bytes))=some (some (.agg #[.int .i64 0,.int .i64 0,.int .i64 0]),3,24):=by kernel_rfl
theorem fits3 (x:Int):keyFits Try.prog 3 (AV.int .i64 x)=true:=by kernel_rfl
theorem qjS (x y:Int):akeq (AV.int .i64 x) (AV.int .i64 y)=keq1 x y:=by simp[akeq,keq1,kbeq]
theorem qbU (k:Int):∀ bl:List (Int×List rufact),(∃ j l,findA (AV.int .i64 k) (kE bl)=some j∧bl[j]? = some (k,l)∧mget keq1 [] k bl=l∧∀ m,mset keq1 k m bl=bl.set j (k,m))∨(findA (AV.int .i64 k) (kE bl)=none∧mget keq1 [] k bl=[]∧∀ m,mset keq1 k m bl=bl++[(k,m)])
 | []=>.inr ⟨rfl,rfl,fun m=>rfl⟩
 | p::r=>by
  have ih:=qbU k r;simp only[kE,A2,findA,mget,mset,qjS]at ih ⊢
  cases hq:keq1 p.1 k with
  | true =>
   have:p.1=k:=by simpa[keq1] using hq
   subst this;exact .inl ⟨0,p.2,rfl,rfl,rfl,fun m=>rfl⟩
  | false =>
   simp only[cN]
   rcases ih with ⟨j,l,h1,h2,h3,h4⟩ | ⟨h1,h2,h3⟩
   ·rw[h1];exact .inl ⟨j+1,l,rfl,by simpa using h2,h3,fun m=>by rw[h4];rfl⟩
   ·rw[h1];exact .inr ⟨rfl,h2,fun m=>by rw[h3];rfl⟩
theorem ByRel.step {w:World} {base gm:Nat} {bl:List (Int×List rufact)} {es:Array MapEntry} {clock:Nat} (h:ByRel w base gm bl es clock) {k:Int} (hwf:wfI .i64 k=true) (hlen:bl.length<1000000000) :
  ∃ v24,(∀ w',w'.heap[gm]? = some (.map es clock)→(Instr.lookup 191 (.map (some gm)) (.int .i64 k) false).run Try.prog w'=.ok v24 w')∧w.ownsRow base 127 3 v24 (mget keq1 [] k bl).length (factsC (mget keq1 [] k bl)) ∧
   ∀ (x:rufact) (vv:Value) (g:Nat) (w2:World),w.grownBy w2 v24.ownBlock→w2.ownsRow base 127 3 vv ((mget keq1 [] k bl).length+1) (factsC (mget keq1 [] k bl)++[.int .i64 x.qr,.int .i64 x.f_a,.int .i64 x.f_b])→vv.ownBlock=some g→(v24.ownBlock=some g∨w.heap.size≤g) →
    ∃ es' clock',(Instr.mapUpdate 191 (.map (some gm)) (.int .i64 k) vv).run Try.prog w2=.ok () (setBlock w2 gm (.map es' clock'))∧ByRel (setBlock w2 gm (.map es' clock')) base gm (mset keq1 k (mget keq1 [] k bl++[x]) bl) es' clock':=by
 obtain⟨h1,E,h3,h4,h5⟩:=h
 have ht:XK Try.prog 191=some (3,150):=by kernel_rfl
 have ht':=XX ht
 have hkv:(AV.int .i64 k).keyV=some (.int .i64 k):=by simp only[AV.keyV,hwf]
 have hall:(kE bl).all (keyFits Try.prog 3)=true:=by
  rw[List.all_map,E9]
  exact fun p _=>fits3 p.1
 have fnd:=fun w=>Vy (P:=Try.prog) (w:=w) (fits3 k) hkv hall E
 obtain⟨E1,E2,E3,E4,E5,E6⟩:=E
 have hsz:es.size=bl.length:=by simpa[kE] using E3.symm
 have hzero:∀ w,(zeroValue 150).run Try.prog w=.ok (.slice none 0 0) w:=Try.zeroValue150
 have kept:∀ {w2:World} {row:Option Nat},w.grownBy w2 row→∀ (j:Nat) p e,bl[j]? = some p→es[j]? = some e→(e.val.ownBlock=none∨e.val.ownBlock≠row)→∀ es' clock',(setBlock w2 gm (.map es' clock')).ownsRow base 127 3 e.val p.2.length (factsC p.2):=by
  intro w2 row hg j p e hp he hne es' clock';have h6:=World.ownsRow.kept (h3 j p e hp he).2 hg hne;obtain⟨q1,q2⟩:=h6;refine⟨q1,?_⟩
  rcases q2 with hn | ⟨g,cap,cur,hv,hb,hgg,rest⟩
  ·exact .inl hn
  ·exact .inr ⟨g,cap,cur,hv,hb,by rw[setBlock_other (by omega)];exact hgg,rest⟩
 have keptN:∀ {w2:World} {vv:Value} {n:Nat} {xs:List Value},w2.ownsRow base 127 3 vv n xs→∀ es' clock',(setBlock w2 gm (.map es' clock')).ownsRow base 127 3 vv n xs:=by
  intro w2 vv n xs h6 es' clock';obtain⟨q1,q2⟩:=h6;refine⟨q1,?_⟩
  rcases q2 with hn | ⟨g,cap,cur,hv,hb,hgg,rest⟩
  ·exact .inl hn
  ·exact .inr ⟨g,cap,cur,hv,hb,by rw[setBlock_other (by omega)];exact hgg,rest⟩
 have hlt:∀ (j:Nat) e g,es[j]? = some e→e.val.ownBlock=some g→g<w.heap.size∧gm≠g:=by
  intro j e g he hg
  have hj:j<bl.length:=by rw[← hsz];exact (Array.getElem?_eq_some_iff.1 he).1
  have:=(h3 j _ e (C7 hj) he).2.lt g hg;omega
 rcases qbU k bl with ⟨j,l,a1,a2,a3,a4⟩ | ⟨a1,a2,a3⟩
 ·
  obtain⟨e0,he0⟩:∃ e0,es[j]? = some e0:=by
   have:j<es.size:=by rw[hsz];exact (List.getElem?_eq_some_iff.1 a2).1
   exact⟨_,G3 this⟩
  have hf:∀ w',(Instr.findKey 3 (.int .i64 k) es.toList).run Try.prog w'=.ok (some (j,e0.val)) w'∧e0.key=.int .i64 k:=fun w'=>by
   obtain⟨_,_,hfd⟩:=fnd w'
   rcases hfd with ⟨k1,_,_⟩ | ⟨j',e',k1,k2,k3,k4⟩
   ·rw[a1]at k1;cases k1
   ·rw[a1]at k1;cases k1
    have:es[j]? = some e':=by simpa using k3
    rw[this]at he0;cases he0;exact⟨k2,k4⟩
  have hrow:=h3 j _ e0 a2 he0;simp only[a3,a4];refine⟨e0.val,fun w' hb=>?_,hrow.2,fun x vv g w2 hg ho hvg hat=>⟨es.modify j (fun e'=>{ e' with key:=.int .i64 k,val:=vv }),clock,?_,⟨setBlock_at ((hg.block gm (lt_of_block h1) (fun e=>(hlt j e0 gm he0 e.symm).2 rfl)).trans h1),⟨G6 E1 _ _ (fun _ _=>rfl) (fun e' _ he'=>by rw[he0]at he';cases he';exact ((hf w).2).symm),by simpa using E2,by simp[kE,hsz],by simp[tE,hsz],fun i k' e' hk' he'=>?_,fun i v' e' hv' he'=>?_⟩,fun i p e' hp he'=>?_,fun i i' e f gg he hf' g1 g2=>?_,h5⟩⟩⟩
  ·obtain⟨hck,_,_⟩:=fnd w';have hj:es[j]? = some e0:=he0;simp[Instr.lookup,run_underlying ht',C8 hb,hck,(hf w').1,hj,A7]
  ·have hb2:w2.heap[gm]? = some (.map es clock):=(hg.block gm (lt_of_block h1) (fun e=>(hlt j e0 gm he0 e.symm).2 rfl)).trans h1;obtain⟨hck,hst,_⟩:=fnd w2;have f4:=(hf w2).2;simp[Instr.mapUpdate,run_underlying ht',C8 hb2,hck,(hf w2).1,he0,f4,hst,D7 _ hb2,A7,setBlock]
  ·rw[D0]at he';simp only[kE,D1,D2]at hk';obtain⟨p,hp,rfl⟩:=hk';rw[List.getElem?_set]at hp;split at he'
   ·rename_i hij;subst hij;rw[he0]at he';cases he';rw[if_pos rfl]at hp;split at hp
    ·cases hp;exact hkv
    ·cases hp
   ·rename_i hij;rw[if_neg hij]at hp;exact E5 i _ e' (by simp[kE,hp]) he'
  ·simp only[tE,D1,D2]at hv';obtain⟨_,_,rfl⟩:=hv';exact .top _
  ·rw[D0]at he';rw[List.getElem?_set]at hp;split at he'
   ·rename_i hij;subst hij;rw[he0]at he';cases he';rw[if_pos rfl]at hp;split at hp
    ·cases hp;refine⟨by simp,?_⟩;rw[Hn,A8];exact keptN ho _ _
    ·cases hp
   ·rename_i hij;rw[if_neg hij]at hp;refine⟨(h3 i p e' hp he').1,kept hg i p e' hp he' ?_ _ _⟩
    cases hob:e'.val.ownBlock with
    | none=>exact .inl rfl
    | some b=>exact .inr fun e=>hij (h4 j i e0 e' b he0 he' e.symm hob)
  ·
   rw[D0]at he hf';split at he<;>split at hf'
   ·rename_i q1 q2;omega
   ·rename_i q1 q2;subst q1;rw[he0]at he;cases he;have g1':vv.ownBlock=some gg:=g1;rw[hvg]at g1';cases g1'
    rcases hat with h6 | h6
    ·exact absurd (h4 j i' e0 f _ he0 hf' h6 g2) q2
    ·have:=(hlt i' f _ hf' g2).1;omega
   ·rename_i q1 q2;subst q2;rw[he0]at hf';cases hf';have g2':vv.ownBlock=some gg:=g2;rw[hvg]at g2';cases g2'
    rcases hat with h6 | h6
    ·exact absurd (h4 j i e0 e _ he0 he h6 g1) q1
    ·have:=(hlt i e _ he g1).1;omega
   ·exact h4 i i' e f gg he hf' g1 g2
 ·
  have hf:∀ w',(Instr.findKey 3 (.int .i64 k) es.toList).run Try.prog w'=.ok none w'∧(∀ e∈es.toList,e.key≠.int .i64 k):=fun w'=>by
   obtain⟨_,_,hfd⟩:=fnd w'
   rcases hfd with ⟨k1,k2,k3⟩ | ⟨j',e',k1,k2,k3,k4⟩
   ·exact⟨k2,k3⟩
   ·rw[a1]at k1;cases k1
  simp only[a2,a3];refine⟨.slice none 0 0,fun w' hb=>?_,World.ownsRow_nil _ _ _ _,fun x vv g w2 hg ho hvg hat=>⟨es.push ⟨.int .i64 k,vv,clock⟩,clock+1,?_,⟨setBlock_at ((hg.block gm (lt_of_block h1) (fun e=>by cases e)).trans h1),⟨G7 E1 (hf w).2,by simp[maxLen];omega,by simp[kE,hsz],by simp[tE,hsz],fun i k' e' hk' he'=>?_,fun i v' e' hv' he'=>?_⟩,fun i p e' hp he'=>?_,fun i i' e f gg he hf' g1 g2=>?_,h5⟩⟩⟩
  ·obtain⟨hck,_,_⟩:=fnd w';simp[Instr.lookup,run_underlying ht',C8 hb,hck,(hf w').1,hzero,A7]
  ·have hb2:w2.heap[gm]? = some (.map es clock):=(hg.block gm (lt_of_block h1) (fun e=>by cases e)).trans h1;obtain⟨hck,hst,_⟩:=fnd w2;simp[Instr.mapUpdate,run_underlying ht',C8 hb2,hck,(hf w2).1,D7 _ hb2,A7,setBlock]
  ·rw[D3]at he';simp only[kE,D1,D2]at hk';obtain⟨p,hp,rfl⟩:=hk';split at he'
   ·rename_i hi;cases he';rw[hi,hsz,D8]at hp;cases hp;exact hkv
   ·have hi:=(Array.getElem?_eq_some_iff.1 he').1;rw[D9 (by omega)]at hp;exact E5 i _ e' (by simp[kE,hp]) he'
  ·simp only[tE,D1,D2]at hv';obtain⟨_,_,rfl⟩:=hv';exact .top _
  ·rw[D3]at he';split at he'
   ·rename_i hi;cases he';rw[hi,hsz,D8]at hp;cases hp;refine⟨by simp,?_⟩;have:=keptN ho (es.push ⟨.int .i64 k,vv,clock⟩) (clock+1)
    simpa[factsC] using this
   ·have hi:=(Array.getElem?_eq_some_iff.1 he').1;rw[D9 (by omega)]at hp;exact⟨(h3 i p e' hp he').1,kept hg i p e' hp he' (by cases hob:e'.val.ownBlock with | none=>exact .inl rfl | some b=>exact .inr fun e=>by cases e) _ _⟩
  ·rw[D3]at he hf'
   have hnew:∀ (i:Nat) e',es[i]? = some e'→e'.val.ownBlock=some g→False:=fun i e' he' hg'=>by
    have:=(hlt i e' _ he' hg').1
    rcases hat with h6 | h6
    ·cases h6
    ·omega
   split at he<;>split at hf'
   ·omega
   ·cases he;have g1':vv.ownBlock=some gg:=g1;rw[hvg]at g1';cases g1';exact (hnew i' f hf' g2).elim
   ·cases hf';have g2':vv.ownBlock=some gg:=g2;rw[hvg]at g2';cases g2';exact (hnew i e he g1).elim
   ·exact h4 i i' e f gg he hf' g1 g2
end Go.Proofs
namespace Go.Proofs
open Go.RowKit Go.AM
open Go.ChangeMaps (setBlock)
theorem qec {α β:Type} (f:α→β) {m l:List β} (h:l.Perm m):∀ a:List α,l=a.map f→∃ b:List α,a.Perm b∧m=b.map f:=by
 induction h with
 | nil=>intro a ha;exact⟨a,.refl _,ha⟩
 | cons x h ih =>
  intro a ha
  cases a with
  | nil=>cases ha
  | cons y a =>
   rw[A2]at ha;obtain⟨rfl,h2⟩:=List.cons.inj ha;obtain⟨b,hb,rfl⟩:=ih a h2;exact⟨y::b,hb.cons y,rfl⟩
 | swap x y l =>
  intro a ha
  match a,ha with
  | p::q::a,ha =>
   rw[A2,A2]at ha;obtain⟨rfl,h2⟩:=List.cons.inj ha;obtain⟨rfl,rfl⟩:=List.cons.inj h2;exact⟨q::p::a,List.Perm.swap _ _ _,rfl⟩
 | trans _ _ ih1 ih2 =>
  intro a ha;obtain⟨b,h1,rfl⟩:=ih1 a ha;obtain⟨c,h2,rfl⟩:=ih2 b rfl;exact⟨c,h1.trans h2,rfl⟩
theorem qdG {α β:Type}:∀ {a:List α} {b:List β},a.length=b.length→(a.zip b).map A0=a
 | [],[],_=>rfl
 | x::a,y::b,h=>by simp[qdG (by simpa using h:a.length=b.length)]
theorem qeL {M:Mem} {inl:List (rufact×Bool)} {gi:Nat} (h:R M (mpE qj AV.bool inl) (.map (some gi))):∃ (es:Array MapEntry) (clock:Nat) (fs:List rufact),M gi 0=some (mapCell es clock)∧E8 es clock∧(inl.map A0).Perm fs∧fs.length=es.size∧∀ (j:Nat) f e,fs[j]? = some f→es[j]? = some e→e.key=factV f:=by
 have h':R M (.mpv (inl.map fun p=>qj p.1) (inl.map fun p=>AV.bool p.2)) (.map (some gi)):=h;clear h;generalize hks:(inl.map fun p=>qj p.1)=ks at h';generalize hvs:(inl.map fun p=>AV.bool p.2)=vs at h'
 rcases Dq h' with ⟨h0,_,_⟩ | ⟨ks',vs',b,es,clock,hp,hv,h1,h2,h3,h4,h5,h6,h7⟩
 ·cases h0
 ·cases hv
  have hk:(inl.map fun p=>qj p.1).Perm ks':=by
   have h8:=hp.2.2.map A0;rw[qdG hp.1,qdG hp.2.1]at h8;rw[hks];exact h8
  obtain⟨fs,q1,rfl⟩:=qec qj hk (inl.map A0) (by simp[List.map_map,Function.comp_def]);refine⟨es,clock,fs,h1,h2,q1,by simpa using h4,fun j f e hf he=>?_⟩;have:=h6 j (qj f) e (by simp[hf]) he;obtain⟨l,hl,hkl⟩:=YG this;obtain⟨l1,rfl,hl1,_⟩:=Qw hkl;obtain⟨l2,rfl,hl2,_⟩:=Qw hl1;obtain⟨l3,rfl,hl3,_⟩:=Qw hl2;cases hl3;exact hl
theorem Iter.start {w:World} {gi bm:Nat} {es:Array MapEntry} {clock:Nat} {fs:List rufact} (h:w.heap[gi]? = some (.mapIter (some bm) clock #[] clock)) (hl:fs.length=es.size) (hk:∀ (j:Nat) f e,fs[j]? = some f→es[j]? = some e→e.key=factV f):Iter factV w gi bm es clock fs:=by
 have:leftOf es #[]=es:=by
  unfold leftOf;rw[Array.filter_eq_self];simp
 refine⟨#[],clock,h,A1 _,by rw[this];exact hl,fun j f e hf he=>?_⟩;rw[this]at he;exact hk j f e hf he
def Parts (bl:List (Int×List rufact)) (rem all:List rufact):Prop:=∀ rel,(mget keq1 [] rel bl++rem.filter fun f=>f.qr == rel).Perm (all.filter fun f=>f.qr == rel)
theorem qai (k rel:Int) (l:List rufact):∀ bl:List (Int×List rufact),mget keq1 [] rel (mset keq1 k l bl)=if rel=k then l else mget keq1 [] rel bl
 | []=>by
  simp only[mset,mget,keq1];by_cases h:rel=k
  ·subst h;simp
  ·have:(k == rel)=false:=by simp;omega
   simp[this,h]
 | p::r=>by
  have ih:=qai k rel l r;simp only[mset]
  cases hq:keq1 p.1 k with
  | true =>
   have hpk:p.1=k:=by simpa[keq1] using hq
   simp only[cT,mget,keq1,hpk];by_cases h:rel=k
   ·subst h;simp[hpk]
   ·have h2:(k == rel)=false:=by simp;omega
    rw[h2];simp[h]
  | false =>
   have hpk:¬ p.1=k:=by simpa[keq1] using hq
   simp only[cN,mget];rw[ih];by_cases h:rel=k
   ·subst h;rw[hq];simp
   ·simp[h]
theorem Parts.take {bl:List (Int×List rufact)} {rem all:List rufact} (h:Parts bl rem all) {j:Nat} {f:rufact} (hj:rem[j]? = some f):Parts (mset keq1 f.qr (mget keq1 [] f.qr bl++[f]) bl) (rem.eraseIdx j) all:=by
 intro rel;refine List.Perm.trans ?_ (h rel);have hlt:=(List.getElem?_eq_some_iff.1 hj).1;have hf:rem[j]=f:=(List.getElem?_eq_some_iff.1 hj).2
 have hp:(rem.filter fun f=>f.qr == rel).Perm ((f::rem.eraseIdx j).filter fun f=>f.qr == rel):=by
  have:rem.Perm (rem[j]::rem.eraseIdx j):=by
   have e:∀ (l:List rufact) (j:Nat) (h:j<l.length),l.Perm (l[j]::l.eraseIdx j):=by
    intro l
    induction l with
    | nil=>intro j h;simp at h
    | cons a l ih =>
     intro j h
     cases j with
     | zero=>simp
     | succ j =>
      simp only[A4,G8];exact ((ih j (by simpa using h)).cons a).trans (List.Perm.swap _ _ _)
   exact e rem j hlt
  rw[hf]at this;exact this.filter _
 refine List.Perm.trans ?_ (hp.append_left _).symm;rw[qai,List.filter_cons];by_cases hr:rel=f.qr
 ·subst hr;simp
 ·have:(f.qr == rel)=false:=by simp;omega
  simp[hr,this]
theorem qbz (k:Int) (l:List rufact):∀ bl:List (Int×List rufact),(mset keq1 k l bl).length≤bl.length+1
 | []=>by simp[mset]
 | p::r=>by
  have:=qbz k l r;unfold mset;cases keq1 p.1 k<;>simp<;>omega
def itLeft (es:Array MapEntry) (gi:Nat) (w:World):Nat:=match w.heap[gi]? with
 | some (.mapIter _ _ seen _)=>(leftOf es seen).size
 | _=>0
theorem Iter.left {κ:Type} {K:κ→Value} {w:World} {gi bm:Nat} {es:Array MapEntry} {clock:Nat} {rem:List κ} (h:Iter K w gi bm es clock rem):itLeft es gi w=rem.length:=by
 obtain⟨seen,c0,h1,h2,h3,h4⟩:=h;unfold itLeft;rw[h1];exact h3.symm
def mtail (M:Mem) (B:Nat) (w:World):Mem:=fun b o=>if b<B then M b o else mc w b o
theorem Ul {M:Mem} {B b o:Nat} {w:World} (h:b<B):mtail M B w b o=M b o:=by unfold mtail;rw[if_pos h]
theorem XW {M:Mem} {B b o:Nat} {w:World} (h:B≤b):mtail M B w b o=mc w b o:=by unfold mtail;rw[if_neg (by omega)]
theorem HA {M:Mem} {B:Nat} {w0 w:World} (hC:Cons M w0) (hB:Below B w0 w):Cons (mtail M B w) w:=fun b o u hu=>by
 unfold mtail at hu;split at hu
 ·rename_i h;have h1:=hC _ _ _ hu;rw[XJ (hB.block b h)];exact h1
 ·exact hu
theorem qah {M:Mem} {B:Nat} {w0 w:World} (hC:Cons M w0) (hB:Below B w0 w) (hb:w0.heap.size≤B):Sub M (mtail M B w):=fun b o u hu=>by
 rw[Ul (by have:=UT (hC _ _ _ hu);omega)];exact hu
theorem qbA {w:World} {b o:Nat} {t:TypeId} {fz:Nat×Nat} {cs:Array Value} {u:Value} (h:w.heap[b]? = some (.cells cs t fz)) (hu:cs[o]? = some u) (ht:isTup u=false):mc w b o=some u:=by
 unfold mc;rw[h];exact JP hu ht
theorem qjZ {M:Mem} {w:World} {base B:Nat} {v:Value} {l:List rufact} (h:w.ownsRow base 127 3 v l.length (factsC l)) (hB:B≤base):R (mtail M B w) (lF l) v:=by
 obtain⟨q1,q2⟩:=h
 rcases q2 with ⟨rfl,h0⟩ | ⟨g,cap,cur,rfl,hb,hg,hn,hm,hs,ht⟩
 ·have:l=[]:=D5 h0;subst this;exact .lstn _ _ _
 ·have hcell:∀ (j:Nat) u,(factsC l)[j]? = some u→cur[j]? = some u:=fun j u hu=>by
   have h1:=congrArg (fun l=>l[j]?) ht;simp only[List.getElem?_take,D6,hu]at h1;split at h1
   ·exact h1
   ·cases h1
  have hfl:∀ (j:Nat) c,(flat (l.map qj))[j]? = some c→∃ u,(factsC l)[j]? = some u∧isTup u=false∧∀ M,R M c u:=by
   clear ht q1 hcell hn
   induction l with
   | nil=>intro j c hc;simp[flat]at hc
   | cons f l ih =>
    intro j c hc;have e1:flat ((f::l).map qj)=[.int .i64 f.qr,.int .i64 f.f_a,.int .i64 f.f_b]++flat (l.map qj):=rfl;have e2:factsC (f::l)=[.int .i64 f.qr,.int .i64 f.f_a,.int .i64 f.f_b]++factsC l:=rfl;rw[e1]at hc;rw[e2]
    match j,hc with
    | 0,hc | 1,hc | 2,hc=>cases hc;exact⟨_,rfl,rfl,fun M=>.int _ _⟩
    | j+3,hc =>
     have:∀ {α:Type} (a b c:α) (r:List α),([a,b,c]++r)[j+3]? = r[j]?:=fun a b c r=>by simp
     rw[this]at hc ⊢;exact ih j c hc
  have hl:(l.map qj).length=l.length:=A5 _;show R _ (.lst 127 3 none (l.map qj)) (.slice (some ⟨g,0,none⟩) l.length cap);rw[← hl];refine .lst (fun j=>(factsC l).getD j undef) (by rw[hl];exact hn) (fun x hx=>?_) (fun x hx=>?_) (fun j c hc=>?_) (fun j c hc=>?_)
  ·obtain⟨z,_,rfl⟩:=List.mem_map.1 hx;rfl
  ·obtain⟨z,_,rfl⟩:=List.mem_map.1 hx;rfl
  ·obtain⟨u,h1,h2,h3⟩:=hfl j c hc;rw[G9,h1,XW (by omega),Nat.zero_add];exact qbA hg (hcell j u h1) h2
  ·obtain⟨u,h1,h2,h3⟩:=hfl j c hc;rw[G9,h1];exact h3 _
theorem ByRel.freeze {M:Mem} {w:World} {base gm B:Nat} {bl:List (Int×List rufact)} {es:Array MapEntry} {clock:Nat} (h:ByRel w base gm bl es clock) (hB:B≤gm):R (mtail M B w) (mpE (AV.int .i64) lF bl) (.map (some gm)):=by
 obtain⟨h1,⟨E1,E2,E3,E4,E5,E6⟩,h3,h4,h5⟩:=h
 refine .mpv (by rw[XW hB];exact Um h1) E1 E2 E3 (by simpa[kE] using E3) E5 fun j v e hv he=>?_
 simp only[D1,D2]at hv;obtain⟨p,hp,rfl⟩:=hv;exact qjZ (h3 j p e hp he).2 (by omega)
theorem CB.above {D:List (List Int)→Prop} {g:Nat} {caps:Array Value} {M0 M1 M:Mem} {S:List (List Int)→Mem→World→Prop} (hcb:CB D g caps M0 S) (hs:Sub M M1) (hM0:Sub M0 M)   : CB D g caps M1 (fun d N w=>S d N w∧Sub M1 N):=by
 refine⟨hcb.pre,hcb.enter,fun h=>⟨(hcb.cons h.1).1,h.2⟩,fun h hB h1 h2 h3=>⟨hcb.grow h.1 hB h1 h2 h3,Sub.trans h.2 h1⟩,fun h h1 h2=>⟨hcb.down h.1 (Sub.trans hM0 (Sub.trans hs h1)) h2,h1⟩,fun v hv hD h=>(hcb.call v hv hD h.1).mono fun e w' h'=>⟨h'.1,h'.2,h.2⟩⟩
set_option maxHeartbeats 8000000 in
theorem Try.inst116 (D:List (List Int)→Prop) (g:Nat) (caps:Array Value) (M0:Mem) (S:List (List Int)→Mem→World→Prop) (hcb:CB D g caps M0 S) (body:List ruLit) (inl no:List (rufact×Bool)) (rel:Int) (hargs bv:Value) (gi:Nat) (mo:Option Nat) (d:List (List Int)) (M:Mem) (w:World) (hS:S d M w)
  (hha:isTup hargs=false∧hargs.cells=#[hargs]) (hbv:R M (l56 none body) bv) (hin:R M (mpE qj AV.bool inl) (.map (some gi))) (hno:R M (mpE qj AV.bool no) (.map mo)) (hwf:∀ p,p∈inl→wfI .i64 p.1.qr=true) (hlen:inl.length≤100000) (hbl:body.length≤1000)
  (hdef:∀ bl,(∀ rel,(mget keq1 [] rel bl).Perm ((inl.map A0).filter fun f=>f.qr == rel))→∃ out,tryP body no bl body (C9 8 0)=some out∧D (d++out)) :
  Calls Try.prog 116 #[.agg #[.int .i64 rel,hargs,bv],.map (some gi),.map mo,.func (.func g) #[] caps] w fun e w'=>e=retU∧∃ bl out,(∀ rel,(mget keq1 [] rel bl).Perm ((inl.map A0).filter fun f=>f.qr == rel))∧tryP body no bl body (C9 8 0)=some out∧S (d++out) M w':=by
 have mixed:=mixedP;have t3:=Try.underlying3;have a3:=Try.isAgg3;have z3:=Try.sizeOf3;have v3:=Try.zeroValue3;have u3:=run_underlying Try.underlying3;have t4:=Try.underlying4;have a4:=Try.isAgg4;have z4:=Try.sizeOf4;have v4:=Try.zeroValue4;have u4:=run_underlying Try.underlying4;have t50:=Try.underlying50;have a50:=Try.isAgg50;have z50:=Try.sizeOf50;have v50:=Try.zeroValue50;have u50:=run_underlying Try.underlying50;have t52:=Try.underlying52;have a52:=Try.isAgg52;have z52:=Try.sizeOf52;have v52:=Try.zeroValue52;have u52:=run_underlying Try.underlying52;have t54:=Try.underlying54;have a54:=Try.isAgg54;have z54:=Try.sizeOf54;have v54:=Try.zeroValue54;have u54:=run_underlying Try.underlying54;have t56:=Try.underlying56;have a56:=Try.isAgg56;have z56:=Try.sizeOf56;have v56:=Try.zeroValue56;have u56:=run_underlying Try.underlying56;have t105:=Try.underlying105;have a105:=Try.isAgg105;have z105:=Try.sizeOf105;have v105:=Try.zeroValue105;have u105:=run_underlying Try.underlying105;have t127:=Try.underlying127;have a127:=Try.isAgg127;have z127:=Try.sizeOf127;have v127:=Try.zeroValue127;have u127:=run_underlying Try.underlying127;have t150:=Try.underlying150;have a150:=Try.isAgg150;have z150:=Try.sizeOf150;have v150:=Try.zeroValue150;have u150:=run_underlying Try.underlying150;have t178:=Try.underlying178;have a178:=Try.isAgg178;have z178:=Try.sizeOf178;have v178:=Try.zeroValue178;have u178:=run_underlying Try.underlying178;have t180:=Try.underlying180;have a180:=Try.isAgg180;have z180:=Try.sizeOf180;have v180:=Try.zeroValue180;have u180:=run_underlying Try.underlying180;have t183:=Try.underlying183;have a183:=Try.isAgg183;have z183:=Try.sizeOf183;have v183:=Try.zeroValue183;have u183:=run_underlying Try.underlying183;have t191:=Try.underlying191;have a191:=Try.isAgg191;have z191:=Try.sizeOf191;have v191:=Try.zeroValue191;have u191:=run_underlying Try.underlying191;have t192:=Try.underlying192;have a192:=Try.isAgg192;have z192:=Try.sizeOf192;have v192:=Try.zeroValue192;have u192:=run_underlying Try.underlying192;obtain⟨hC,hM0⟩:=hcb.cons hS;obtain⟨es,clock,fs,q1,q2,q3,q4,q5⟩:=qeL hin;obtain⟨bs,bc,rfl⟩:=Vn hbv;rw[A5]at hbv ⊢;have hgi:=UT (hC _ _ _ q1);have hmm:=@run_makeMap Try.prog;obtain⟨w5,ew5⟩:∃ w5,w5=((((w.alloc (.cells #[.int .i64 rel,hargs,.slice bs body.length bc] 54)).alloc (.cells #[.map mo] 105)).alloc (.cells #[.func (.func g) #[] caps] 180)).alloc (.map #[] 0)).alloc (.cells #[.map (some (w.heap.size+1+1+1))] 191):=⟨_,rfl⟩
 have z5:w5.heap.size=w.heap.size+1+1+1+1+1:=by rw[ew5];simp
 have B5:Below w.heap.size w w5:=by rw[ew5];exact (((((Below.refl _ _).alloc (A1 _) _).alloc (by simp) _).alloc (by simp;omega) _).alloc (by simp;omega) _).alloc (by simp;omega) _
 have e0:w5.heap[w.heap.size]? = some (.cells #[.int .i64 rel,hargs,.slice bs body.length bc] 54 (0,0)):=by
  rw[ew5,heap_alloc_old _ _ (by simp<;>omega),heap_alloc_old _ _ (by simp<;>omega),heap_alloc_old _ _ (by simp<;>omega),heap_alloc_old _ _ (by simp<;>omega)];exact heap_alloc_new _ _
 have e1:w5.heap[w.heap.size+1]? = some (.cells #[.map mo] 105 (0,0)):=by
  rw[ew5,heap_alloc_old _ _ (by simp<;>omega),heap_alloc_old _ _ (by simp<;>omega),heap_alloc_old _ _ (by simp<;>omega)];have:=heap_alloc_new (w.alloc (.cells #[.int .i64 rel,hargs,.slice bs body.length bc] 54)) (.cells #[.map mo] 105)
  simpa using this
 have e2:w5.heap[w.heap.size+1+1]? = some (.cells #[.func (.func g) #[] caps] 180 (0,0)):=by
  rw[ew5,heap_alloc_old _ _ (by simp<;>omega),heap_alloc_old _ _ (by simp<;>omega)];have:=heap_alloc_new ((w.alloc (.cells #[.int .i64 rel,hargs,.slice bs body.length bc] 54)).alloc (.cells #[.map mo] 105)) (.cells #[.func (.func g) #[] caps] 180)
  simpa using this
 have e3:w5.heap[w.heap.size+1+1+1]? = some (.map #[] 0):=by
  rw[ew5,heap_alloc_old _ _ (by simp<;>omega)];have:=heap_alloc_new (((w.alloc (.cells #[.int .i64 rel,hargs,.slice bs body.length bc] 54)).alloc (.cells #[.map mo] 105)).alloc (.cells #[.func (.func g) #[] caps] 180)) (.map #[] 0)
  simpa using this
 have e4:w5.heap[w.heap.size+1+1+1+1]? = some (.cells #[.map (some (w.heap.size+1+1+1))] 191 (0,0)):=by
  rw[ew5];have:=heap_alloc_new ((((w.alloc (.cells #[.int .i64 rel,hargs,.slice bs body.length bc] 54)).alloc (.cells #[.map mo] 105)).alloc (.cells #[.func (.func g) #[] caps] 180)).alloc (.map #[] 0)) (.cells #[.map (some (w.heap.size+1+1+1))] 191)
  simpa using this
 have hb5:w5.heap[gi]? = some (.map es clock):=(B5.block gi hgi).trans (Ua (hC _ _ _ q1));have hrg:=run_range_map (P:=Try.prog) w5 105 127 4 gi es clock Try.underlying105 hb5;obtain⟨w6,ew6⟩:∃ w6,w6=w5.alloc (.mapIter (some gi) clock #[] clock):=⟨_,rfl⟩
 have z6:w6.heap.size=w.heap.size+1+1+1+1+1+1:=by rw[ew6];simp[z5]
 have B56:∀ k,k<w.heap.size+1+1+1+1+1→w6.heap[k]? = w5.heap[k]?:=fun k hk=>by rw[ew6];exact heap_alloc_old _ _ (by omega)
 have e5:w6.heap[w.heap.size+1+1+1+1+1]? = some (.mapIter (some gi) clock #[] clock):=by
  rw[ew6,← z5];exact heap_alloc_new _ _
 have B6:Below w.heap.size w w6:=by rw[ew6];exact B5.alloc (by omega) _
 rw[ew5,← ew5,z5,← ew6,ew5]at hrg;have e0:=(B56 _ (by omega)).trans e0;have e1:=(B56 _ (by omega)).trans e1;have e2:=(B56 _ (by omega)).trans e2;have e3:=(B56 _ (by omega)).trans e3;have e4:=(B56 _ (by omega)).trans e4;have R0:ByRel w6 (w.heap.size+1+1+1+1+1+1) (w.heap.size+1+1+1) [] #[] 0:=⟨e3,⟨(H0 _ _).2 ⟨by simp,by simp,by simp⟩,D4 _,rfl,rfl,fun j k e hk=>by simp at hk,fun j k e hk=>by simp at hk⟩,fun j p e hp=>by simp at hp,fun i j e f g he=>by simp at he,by omega⟩;have I0:Iter factV w6 (w.heap.size+1+1+1+1+1) gi es clock fs:=Iter.start e5 q4 q5
 have P0:Parts [] fs (inl.map A0):=fun rel=>by
  simp only[mget,F6];exact q3.symm.filter _
 have hfl:fs.length=inl.length:=by rw[← q3.length_eq,A5]
 have hmf:∀ (fn:Fn) (first cap:Array Value) (w:World),(Instr.makeFunc fn first cap).run Try.prog w=.ok (.func fn first cap) w:=fun _ _ _ _=>rfl
 clear ew5 ew6 B5 hb5 B56 e3 e5 q5
 go_enter Try.func116,Try.ntmps116
 go_wp2
 go_loopw [] (fun wr=>Below w.heap.size w wr∧w6.heap.size≤wr.heap.size∧(∀ k,k<w6.heap.size→k≠w.heap.size+1+1+1→k≠w.heap.size+1+1+1+1+1→wr.heap[k]? = w6.heap[k]?)∧∃ bl es2 clock2 rem,ByRel wr (w.heap.size+1+1+1+1+1+1) (w.heap.size+1+1+1) bl es2 clock2∧Iter factV wr (w.heap.size+1+1+1+1+1) gi es clock rem∧Parts bl rem (inl.map A0)∧bl.length+rem.length≤inl.length)
  (fun wr=>itLeft es (w.heap.size+1+1+1+1+1) wr)
 case atStart=>exact⟨B6,A1 _,fun _ _ _ _=>rfl,[],#[],0,fs,R0,I0,P0,by simp[hfl]⟩
 case round =>
  obtain⟨hBr,hsz,hold,bl,es2,clock2,rem,hR,hI,hP,hcount⟩:=hrel;have hbr:wr.heap[gi]? = some (.map es clock):=(hBr.block gi hgi).trans (Ua (hC _ _ _ q1))
  rcases hI.next hbr q2 0 with ⟨rfl,hrun⟩ | ⟨j,f,v,wn,hj,hrun,hgr,hszn,hIn,hent⟩
  ·have hnx:∀ ty,(Instr.next (.pointer (some ⟨w.heap.size+1+1+1+1+1,0,none⟩)) false ty).run Try.prog wr=_:=fun _=>hrun
   obtain⟨w9,ew9⟩:∃ w9,w9=wr.alloc (.cells #[tryV w.heap.size (w.heap.size+1) (w.heap.size+1+1) wr.heap.size (w.heap.size+1+1+1+1)] 192):=⟨_,rfl⟩
   have B9:Below w.heap.size w w9:=by rw[ew9];exact hBr.alloc (by omega) _
   have k0:w9.heap[w.heap.size]? = some (.cells #[.int .i64 rel,hargs,.slice bs body.length bc] 54 (0,0)):=by rw[ew9,heap_alloc_old _ _ (by omega),hold _ (by omega) (by omega) (by omega)];exact e0
   have k1:w9.heap[w.heap.size+1]? = some (.cells #[.map mo] 105 (0,0)):=by rw[ew9,heap_alloc_old _ _ (by omega),hold _ (by omega) (by omega) (by omega)];exact e1
   have k2:w9.heap[w.heap.size+1+1]? = some (.cells #[.func (.func g) #[] caps] 180 (0,0)):=by rw[ew9,heap_alloc_old _ _ (by omega),hold _ (by omega) (by omega) (by omega)];exact e2
   have k4:w9.heap[w.heap.size+1+1+1+1]? = some (.cells #[.map (some (w.heap.size+1+1+1))] 191 (0,0)):=by rw[ew9,heap_alloc_old _ _ (by omega),hold _ (by omega) (by omega) (by omega)];exact e4
   have k5:w9.heap[wr.heap.size]? = some (.cells #[tryV w.heap.size (w.heap.size+1) (w.heap.size+1+1) wr.heap.size (w.heap.size+1+1+1+1)] 192 (0,0)):=by rw[ew9];exact heap_alloc_new _ _
   have R9:ByRel w9 (w.heap.size+1+1+1+1+1+1) (w.heap.size+1+1+1) bl es2 clock2:=hR.below fun k hk _=>by rw[ew9];exact heap_alloc_old _ _ hk
   have s9:=qah (w:=w9) hC B9 (A1 _);have S9:S d (mtail M w.heap.size w9) w9:=hcb.grow hS B9 s9 (fun b o hb=>Ul hb) (HA hC B9)
   have T9:TE (mtail M w.heap.size w9) w.heap.size (w.heap.size+1) (w.heap.size+1+1) wr.heap.size (w.heap.size+1+1+1+1) body no bl g caps:=by
    refine⟨⟨_,?_,hbv.mono s9⟩,⟨_,?_,hno.mono s9⟩,?_,?_,⟨_,?_,R9.freeze (by omega)⟩,hbl⟩
    ·rw[XW (by omega)];exact qbA k0 rfl rfl
    ·rw[XW (by omega)];exact qbA k1 rfl rfl
    ·rw[XW (by omega)];exact qbA k2 rfl rfl
    ·rw[XW (by omega)];exact qbA k5 rfl rfl
    ·rw[XW (by omega)];exact qbA k4 rfl rfl
   have hPe:∀ rel,(mget keq1 [] rel bl).Perm ((inl.map A0).filter fun f=>f.qr == rel):=fun rel=>by simpa using hP rel
   obtain⟨out,hout,hD⟩:=hdef bl hPe
   have hbn:∀ rel,(mget keq1 [] rel bl).length≤1000000:=fun rel=>by
    rw[(hPe rel).length_eq];exact F7 (H4 _ _) (by rw[A5];omega)
   have hcall:=Try.try128 D g caps (mtail M w.heap.size w9) (fun d N w'=>S d N w'∧Sub (mtail M w.heap.size w9) N) (hcb.above s9 hM0) w.heap.size (w.heap.size+1) (w.heap.size+1+1) wr.heap.size (w.heap.size+1+1+1+1) body no bl T9 hbn body 0 (C9 8 0) out d (mtail M w.heap.size w9) w9 rfl (D4 _) rfl hout hD ⟨S9,Sub.refl _⟩;have en128:=Try.enter128;have HW9:=(show Hid (w9=_) from ew9);unfold tryV at HW9;clear ew9
   go_wp2_with fail
   rw[← HW9.out];refine Calls.mono hcall ?_
   rintro e w10 ⟨rfl,S10,_⟩
   go_wp2
   refine bodyPost_end (results_none rfl _ _ _) rfl ?_;exact⟨rfl,bl,out,hPe,hout,hcb.down S10 hM0 s9⟩
  ·have hnx:∀ ty,(Instr.next (.pointer (some ⟨w.heap.size+1+1+1+1+1,0,none⟩)) false ty).run Try.prog wr=_:=fun _=>hrun
   have hen:=hent wn rfl ((hgr.block gi (lt_of_block hbr) (by simp;omega)).trans hbr)
   have hfm:f∈inl.map A0:=by
    have h1:f∈rem.filter fun g=>g.qr == f.qr:=List.mem_filter.2 ⟨H5 hj,by simp⟩
    exact (List.mem_filter.1 ((hP f.qr).mem_iff.1 (F8 _ h1))).1
   have hwf1:wfI .i64 f.qr=true:=by
    obtain⟨p,hp,rfl⟩:=List.mem_map.1 hfm;exact hwf p hp
   have hjl:=(List.getElem?_eq_some_iff.1 hj).1;obtain⟨w2,ew2⟩:∃ w2,w2=wn.alloc (.cells #[.int .i64 f.qr,.int .i64 f.f_a,.int .i64 f.f_b] 127):=⟨_,rfl⟩
   have z2:w2.heap.size=wr.heap.size+1:=by rw[ew2];simp[hszn]
   have b2:∀ k,k<wr.heap.size→k≠w.heap.size+1+1+1+1+1→w2.heap[k]? = wr.heap[k]?:=fun k hk hne=>by
    rw[ew2,heap_alloc_old _ _ (by omega)];exact hgr.block k hk (fun e=>hne (Option.some.inj e))
   have n9:w2.heap[wr.heap.size]? = some (.cells #[.int .i64 f.qr,.int .i64 f.f_a,.int .i64 f.f_b] 127 (0,0)):=by rw[ew2,← hszn];exact heap_alloc_new _ _
   have n4:w2.heap[w.heap.size+1+1+1+1]? = some (.cells #[.map (some (w.heap.size+1+1+1))] 191 (0,0)):=by rw[b2 _ (by omega) (by omega),hold _ (by omega) (by omega) (by omega)];exact e4
   have KK:∀ w':World,w'.heap[wr.heap.size]? = w2.heap[wr.heap.size]?→w'.heap[w.heap.size+1+1+1+1]? = w2.heap[w.heap.size+1+1+1+1]?→w'.cell? ⟨w.heap.size+1+1+1+1,0,none⟩=some (.map (some (w.heap.size+1+1+1)))∧w'.cell? ⟨wr.heap.size,0,none⟩=some (.int .i64 f.qr)∧w'.cell? ⟨wr.heap.size,1,none⟩=some (.int .i64 f.f_a)∧w'.cell? ⟨wr.heap.size,2,none⟩=some (.int .i64 f.f_b):=fun w' h1 h2=>by
    rw[n9]at h1;rw[n4]at h2;refine⟨?_,?_,?_,?_⟩<;>simp[A3,h1,h2]
   have K0:=KK w2.drew rfl rfl;obtain⟨w3,ew3⟩:∃ w3,w3=(w2.alloc (.cells #[.int .i64 f.qr,.int .i64 f.f_a,.int .i64 f.f_b] 127)).drew:=⟨_,rfl⟩
   have z3:w3.heap.size=wr.heap.size+1+1:=by rw[ew3];simp[z2]
   have b3:∀ k,k<w2.heap.size→w3.heap[k]? = w2.heap[k]?:=fun k hk=>by rw[ew3];exact heap_alloc_old w2 _ hk
   have n10:w3.heap[wr.heap.size+1]? = some (.cells #[.int .i64 f.qr,.int .i64 f.f_a,.int .i64 f.f_b] 127 (0,0)):=by rw[ew3,← z2];exact heap_alloc_new w2 _
   have R3:ByRel w3 (w.heap.size+1+1+1+1+1+1) (w.heap.size+1+1+1) bl es2 clock2:=hR.below fun k hk h1=>by
    have h7:k≠w.heap.size+1+1+1+1+1:=by (rcases h1 with h1 | h1<;>omega)
    rw[b3 k (by omega),b2 k hk h7]
   have hgm:=R3.at'
   have hgm2:w2.drew.heap[w.heap.size+1+1+1]? = some (.map es2 clock2):=by
    rw[b3 (w.heap.size+1+1+1) (by omega)]at hgm;exact hgm
   obtain⟨v24,hlk,hown,hupd⟩:=R3.step hwf1 (by omega);have hlk2:=hlk _ hgm2
   have hfar:∀ k,k=wr.heap.size∨k=wr.heap.size+1→v24.ownBlock≠some k:=fun k hk e=>by
    obtain⟨v25,hlk',hown',_⟩:=hR.step hwf1 (by omega);have h1:=hlk' w3 R3.at';rw[hlk w3 R3.at']at h1;cases h1;have:=(hown'.lt k e).2;omega
   have hMl:(mget keq1 [] f.qr bl).length≤100000:=by
    have h1:=(hP f.qr).length_eq;have h2:=H4 (fun g=>g.qr == f.qr) (inl.map A0);rw[A8]at h1;rw[A5]at h2;omega
   have HW3:=(show Hid (w3=_) from ew3);have HW2:=(show Hid (w2=_) from ew2);obtain⟨i0,hi,hz0,hz1,hz2⟩:=info_parts Try.info127;clear ew2 ew3
   go_wp2
   rw[← HW2.out];refine wp_region_held_drew (S:=(fun w'=>w'.cell? ⟨w.heap.size+1+1+1+1,0,none⟩=some (.map (some (w.heap.size+1+1+1)))∧w'.cell? ⟨wr.heap.size,0,none⟩=some (.int .i64 f.qr)∧w'.cell? ⟨wr.heap.size,1,none⟩=some (.int .i64 f.f_a)∧w'.cell? ⟨wr.heap.size,2,none⟩=some (.int .i64 f.f_b))) (by kernel_rfl) K0 (fun hHeld=>?_);refine tkH (i:=0) (v:=.map (some (w.heap.size+1+1+1))) rfl (Or.inl ⟨by kernel_rfl,fun w' hw'=>?_⟩) hHeld ?_
   ·obtain⟨q0,q1,q2,q3⟩:=hw';go_simp
   simp only[Act.put,A9,A4,B0,B1,B4,B7];refine tkH (i:=1) (v:=.pointer (some ⟨wr.heap.size,0,none⟩)) rfl (Or.inl ⟨by kernel_rfl,fun w' hw'=>?_⟩) hHeld ?_
   ·obtain⟨q0,q1,q2,q3⟩:=hw';go_simp
   simp only[Act.put,A9,A4,B0,B1,B4,B7];refine tkH (i:=2) (v:=.int .i64 f.qr) rfl (Or.inl ⟨by kernel_rfl,fun w' hw'=>?_⟩) hHeld ?_
   ·obtain⟨q0,q1,q2,q3⟩:=hw';go_simp
   simp only[Act.put,A9,A4,B0,B1,B4,B7];refine tkH (i:=3) (v:=.map (some (w.heap.size+1+1+1))) rfl (Or.inl ⟨by kernel_rfl,fun w' hw'=>?_⟩) hHeld ?_
   ·obtain⟨q0,q1,q2,q3⟩:=hw';go_simp
   simp only[Act.put,A9,A4,B0,B1,B4,B7];refine tkH (i:=4) (v:=.pointer (some ⟨wr.heap.size,0,none⟩)) rfl (Or.inl ⟨by kernel_rfl,fun w' hw'=>?_⟩) hHeld ?_
   ·obtain⟨q0,q1,q2,q3⟩:=hw';go_simp
   simp only[Act.put,A9,A4,B0,B1,B4,B7];refine tkH (i:=5) (v:=.int .i64 f.qr) rfl (Or.inl ⟨by kernel_rfl,fun w' hw'=>?_⟩) hHeld ?_
   ·obtain⟨q0,q1,q2,q3⟩:=hw';go_simp
   simp only[Act.put,A9,A4,B0,B1,B4,B7];refine tkH (i:=7) (v:=.agg #[.int .i64 f.qr,.int .i64 f.f_a,.int .i64 f.f_b]) rfl (Or.inl ⟨by kernel_rfl,fun w' hw'=>?_⟩) hHeld ?_
   ·obtain⟨q0,q1,q2,q3⟩:=hw';go_simp
   simp only[Act.put,A9,A4,B0,B1,B4,B7];have hlk3:=hlk _ R3.at';have K3:=KK w3 (b3 _ (by omega)) (b3 _ (by omega));refine wpAnyH_ready (rs:=[6,8]) (by kernel_rfl) (by simp) (AllReadyH.cons rfl (fun K hK=>?_) (AllReadyH.cons rfl (fun K hK=>?_) AllReadyH.nil))
   ·rw[if_pos (by kernel_rfl)];go_simp;refine hK.out _ _ K0 (fun hHeld=>?_);clear hK K;refine wpAnyH_ready (rs:=[8]) (by kernel_rfl) (by simp) (AllReadyH.cons rfl (fun K hK=>?_) AllReadyH.nil);rw[if_pos (by kernel_rfl)];go_simp;rw[← HW3.out];refine hK.out _ _ K3 (fun hHeld=>?_);clear hK K;refine wpAnyH_ready (rs:=[9]) (by kernel_rfl) (by simp) (AllReadyH.cons rfl (fun K hK=>?_) AllReadyH.nil);refine step_append_lies w3 (by rfl) (.tmp 24) (.tmp 26) _ (by rfl) (w.heap.size+1+1+1+1+1+1) 127 i0 (.agg #[.int .i64 0,.int .i64 0,.int .i64 0]) 3 24 Try.underlying150 hi hz0 hz1 hz2 rfl (by omega) v24 _ _ (by rfl) hown _ _ _ [.int .i64 f.qr,.int .i64 f.f_a,.int .i64 f.f_b] (by rfl) rfl (F9 n10) (by simp[Value.oneCell']) (by omega) (by unfold maxLen;omega) (by omega) (by omega) _ rfl ?_;intro g1 c1 w5 ho1 hg1 ha1 hl1;obtain⟨es3,clock3,hup,R5⟩:=hupd f _ g1 w5 hg1 ho1 rfl (by rcases ha1 with h1 | h1;exact .inl h1;exact .inr (by omega))
    have hrow:∀ k,k<w.heap.size+1+1+1+1+1+1→some k≠v24.ownBlock:=fun k hk e=>by have:=(hown.lt k e.symm).1;omega
    have hrow2:∀ k,k=wr.heap.size∨k=wr.heap.size+1→some k≠v24.ownBlock:=fun k hk e=>hfar k hk e.symm
    have b5:∀ k,k<w3.heap.size→some k≠v24.ownBlock→w5.heap[k]? = w3.heap[k]?:=hg1.block;have K5:=KK w5 ((b5 _ (by omega) (hrow2 _ (.inl rfl))).trans (b3 _ (by omega))) ((b5 _ (by omega) (hrow _ (by omega))).trans (b3 _ (by omega)));have K6:=KK (setBlock w5 (w.heap.size+1+1+1) (.map es3 clock3)) ((setBlock_other (by omega)).trans ((b5 _ (by omega) (hrow2 _ (.inl rfl))).trans (b3 _ (by omega)))) ((setBlock_other (by omega)).trans ((b5 _ (by omega) (hrow _ (by omega))).trans (b3 _ (by omega))));refine hK.out _ _ K5 (fun hHeld=>?_);clear hK K;refine wpAnyH_ready (rs:=[10]) (by kernel_rfl) (by simp) (AllReadyH.cons rfl (fun K hK=>?_) AllReadyH.nil);rw[if_pos (by kernel_rfl)];go_simp;refine hK.out _ _ K6 (fun hHeld=>?_);clear hK K;refine wpAnyH_done (by kernel_rfl) ?_ _;have hs5:=hg1.size
    have hall:∀ k,k<w6.heap.size→k≠w.heap.size+1+1+1→k≠w.heap.size+1+1+1+1+1→(setBlock w5 (w.heap.size+1+1+1) (.map es3 clock3)).heap[k]? = w6.heap[k]?:=fun k hk h1 h2=>by
     rw[setBlock_other h1,b5 k (by omega) (hrow k (by omega)),b3 k (by omega),b2 k (by omega) h2,hold k hk h1 h2]
    have hI6:Iter factV (setBlock w5 (w.heap.size+1+1+1) (.map es3 clock3)) (w.heap.size+1+1+1+1+1) gi es clock (rem.eraseIdx j):=hIn.of (by
     rw[setBlock_other (by omega),b5 _ (by omega) (hrow _ (by omega)),b3 _ (by omega),HW2.out,heap_alloc_old _ _ (by omega)])
    go_wp2
    go_roundw
    case rel =>
     refine⟨⟨?_,?_,?_,?_,fun k hk=>?_⟩,?_,hall,_,es3,clock3,rem.eraseIdx j,R5,hI6,hP.take hj,?_⟩
     ·show w5.os=w.os
      rw[hg1.os,HW3.out];show w2.os=w.os;rw[HW2.out];exact hgr.os.trans hBr.os
     ·show w5.tape=w.tape
      rw[hg1.tape,HW3.out];show w2.tape=w.tape;rw[HW2.out];exact hgr.tape.trans hBr.tape
     ·show w5.output=w.output
      rw[hg1.output,HW3.out];show w2.output=w.output;rw[HW2.out];exact hgr.output.trans hBr.output
     ·rw[setBlock_size];omega
     ·rw[hall k (by omega) (by omega) (by omega)];exact B6.block k hk
     ·rw[setBlock_size];omega
     ·have h1:=qbz f.qr (mget keq1 [] f.qr bl++[f]) bl;rw[A6,if_pos hjl];omega
    case measure =>
     rw[hI6.left,hI.left,A6,if_pos hjl];omega
   ·rw[if_pos (by kernel_rfl)];go_simp;rw[← HW3.out];refine hK.out _ _ K3 (fun hHeld=>?_);clear hK K;refine wpAnyH_ready (rs:=[6]) (by kernel_rfl) (by simp) (AllReadyH.cons rfl (fun K hK=>?_) AllReadyH.nil);rw[if_pos (by kernel_rfl)];go_simp;refine hK.out _ _ K3 (fun hHeld=>?_);clear hK K;refine wpAnyH_ready (rs:=[9]) (by kernel_rfl) (by simp) (AllReadyH.cons rfl (fun K hK=>?_) AllReadyH.nil);refine step_append_lies w3 (by rfl) (.tmp 24) (.tmp 26) _ (by rfl) (w.heap.size+1+1+1+1+1+1) 127 i0 (.agg #[.int .i64 0,.int .i64 0,.int .i64 0]) 3 24 Try.underlying150 hi hz0 hz1 hz2 rfl (by omega) v24 _ _ (by rfl) hown _ _ _ [.int .i64 f.qr,.int .i64 f.f_a,.int .i64 f.f_b] (by rfl) rfl (F9 n10) (by simp[Value.oneCell']) (by omega) (by unfold maxLen;omega) (by omega) (by omega) _ rfl ?_;intro g1 c1 w5 ho1 hg1 ha1 hl1;obtain⟨es3,clock3,hup,R5⟩:=hupd f _ g1 w5 hg1 ho1 rfl (by rcases ha1 with h1 | h1;exact .inl h1;exact .inr (by omega))
    have hrow:∀ k,k<w.heap.size+1+1+1+1+1+1→some k≠v24.ownBlock:=fun k hk e=>by have:=(hown.lt k e.symm).1;omega
    have hrow2:∀ k,k=wr.heap.size∨k=wr.heap.size+1→some k≠v24.ownBlock:=fun k hk e=>hfar k hk e.symm
    have b5:∀ k,k<w3.heap.size→some k≠v24.ownBlock→w5.heap[k]? = w3.heap[k]?:=hg1.block;have K5:=KK w5 ((b5 _ (by omega) (hrow2 _ (.inl rfl))).trans (b3 _ (by omega))) ((b5 _ (by omega) (hrow _ (by omega))).trans (b3 _ (by omega)));have K6:=KK (setBlock w5 (w.heap.size+1+1+1) (.map es3 clock3)) ((setBlock_other (by omega)).trans ((b5 _ (by omega) (hrow2 _ (.inl rfl))).trans (b3 _ (by omega)))) ((setBlock_other (by omega)).trans ((b5 _ (by omega) (hrow _ (by omega))).trans (b3 _ (by omega))));refine hK.out _ _ K5 (fun hHeld=>?_);clear hK K;refine wpAnyH_ready (rs:=[10]) (by kernel_rfl) (by simp) (AllReadyH.cons rfl (fun K hK=>?_) AllReadyH.nil);rw[if_pos (by kernel_rfl)];go_simp;refine hK.out _ _ K6 (fun hHeld=>?_);clear hK K;refine wpAnyH_done (by kernel_rfl) ?_ _;have hs5:=hg1.size
    have hall:∀ k,k<w6.heap.size→k≠w.heap.size+1+1+1→k≠w.heap.size+1+1+1+1+1→(setBlock w5 (w.heap.size+1+1+1) (.map es3 clock3)).heap[k]? = w6.heap[k]?:=fun k hk h1 h2=>by
     rw[setBlock_other h1,b5 k (by omega) (hrow k (by omega)),b3 k (by omega),b2 k (by omega) h2,hold k hk h1 h2]
    have hI6:Iter factV (setBlock w5 (w.heap.size+1+1+1) (.map es3 clock3)) (w.heap.size+1+1+1+1+1) gi es clock (rem.eraseIdx j):=hIn.of (by
     rw[setBlock_other (by omega),b5 _ (by omega) (hrow _ (by omega)),b3 _ (by omega),HW2.out,heap_alloc_old _ _ (by omega)])
    go_wp2
    go_roundw
    case rel =>
     refine⟨⟨?_,?_,?_,?_,fun k hk=>?_⟩,?_,hall,_,es3,clock3,rem.eraseIdx j,R5,hI6,hP.take hj,?_⟩
     ·show w5.os=w.os
      rw[hg1.os,HW3.out];show w2.os=w.os;rw[HW2.out];exact hgr.os.trans hBr.os
     ·show w5.tape=w.tape
      rw[hg1.tape,HW3.out];show w2.tape=w.tape;rw[HW2.out];exact hgr.tape.trans hBr.tape
     ·show w5.output=w.output
      rw[hg1.output,HW3.out];show w2.output=w.output;rw[HW2.out];exact hgr.output.trans hBr.output
     ·rw[setBlock_size];omega
     ·rw[hall k (by omega) (by omega) (by omega)];exact B6.block k hk
     ·rw[setBlock_size];omega
     ·have h1:=qbz f.qr (mget keq1 [] f.qr bl++[f]) bl;rw[A6,if_pos hjl];omega
    case measure =>
     rw[hI6.left,hI.left,A6,if_pos hjl];omega
end Go.Proofs
namespace Go.Proofs
open Go.RowKit Go.AM
open Go.ChangeMaps (setBlock)
def headsP (out:List (rufact×Bool)) (head:qo) (d:List (List Int)):List rufact:=d.filterMap fun v=>(ja v head).bind fun f=>if mget qu false f out then none else some f
def okD (head:qo) (L0:List rufact) (d:List (List Int)):Prop:=L0.length+d.length≤1000000000∧∀ v,v∈d→∃ f,ja v head=some f∧wfF f=true
theorem HM (out:List (rufact×Bool)) (head:qo) (d:List (List Int)):(headsP out head d).length≤d.length:=List.length_filterMap_le _ _
structure FS (M0:Mem) (wR:World) (bfr:Nat) (out:List (rufact×Bool)) (head:qo) (L0:List rufact) (d:List (List Int)) (M:Mem) (w:World):Prop where
 cons:Cons M w
 sub:Sub M0 M
 os:w.os=wR.os
 tape:w.tape=wR.tape
 output:w.output=wR.output
 size:wR.heap.size≤w.heap.size
 block:∀ k,k<wR.heap.size→k≠bfr→w.heap[k]? = wR.heap[k]?
 none':∀ o,M bfr o=none
 row:∃ vc,w.heap[bfr]? = some (.cells #[vc] 150 (0,0))∧w.ownsRow wR.heap.size 127 3 vc (L0++headsP out head d).length (factsC (L0++headsP out head d))∧∀ g,vc.ownBlock=some g→∀ o,M g o=none
theorem qhf {w w':World} {base:Nat} {vc:Value} {n:Nat} {xs:List Value} (h:w.ownsRow base 127 3 vc n xs) (hb:∀ k,k<w.heap.size→vc.ownBlock=some k→w'.heap[k]? = w.heap[k]?):w'.ownsRow base 127 3 vc n xs:=by
 obtain⟨q1,q2⟩:=h;refine⟨q1,?_⟩
 rcases q2 with hn | ⟨g,cap,cur,rfl,hb',hgg,rest⟩
 ·exact .inl hn
 ·exact .inr ⟨g,cap,cur,rfl,hb',by rw[hb g (lt_of_block hgg) rfl];exact hgg,rest⟩
theorem FS.grow {M0:Mem} {wR:World} {bfr:Nat} {out:List (rufact×Bool)} {head:qo} {L0:List rufact} {d:List (List Int)} {M M':Mem} {w w':World} (h:FS M0 wR bfr out head L0 d M w) (hbf:bfr<wR.heap.size) (hB:Below w.heap.size w w') (hs:Sub M M') (ho:∀ b o,b<w.heap.size→M' b o=M b o) (hC:Cons M' w'):FS M0 wR bfr out head L0 d M' w':=by
 obtain⟨h1,h2,h3,h4,h5,h6,h7,h8,vc,h9,h10,h11⟩:=h;refine⟨hC,Sub.trans h2 hs,hB.os.trans h3,hB.tape.trans h4,hB.output.trans h5,F7 h6 hB.size,fun k hk hne=>(hB.block k (by omega)).trans (h7 k hk hne),fun o=>by rw[ho _ _ (by omega)];exact h8 o,vc,(hB.block bfr (by omega)).trans h9,qhf h10 fun k hk _=>hB.block k hk,fun g hg o=>?_⟩;rw[ho _ _ (h10.lt g hg).2];exact h11 g hg o
theorem qaY (w:World) (base:Nat) (v:Value) (l:List rufact) (x:rufact) (hown:w.ownsRow base 127 3 v l.length (factsC l)) {B:Nat} {fz:Nat×Nat} (hx:w.heap[B]? = some (.cells #[.int .i64 x.qr,.int .i64 x.f_a,.int .i64 x.f_b] 127 fz)) (hlen:l.length≤1000000000) (hb:base≤w.heap.size) (ty:TypeId) (c0:Nat) :
  ∃ g cap w',(Builtin.append_ #[150,150] ty #[v,.slice (some ⟨B,0,none⟩) 1 c0]).run Try.prog w=.ok (.slice (some ⟨g,0,none⟩) (l.length+1) cap) w'∧w'.ownsRow base 127 3 (.slice (some ⟨g,0,none⟩) (l.length+1) cap) (l.length+1) (factsC (l++[x]))∧w.grownBy w' v.ownBlock∧(v.ownBlock=some g∨g=w.heap.size)∧g<w'.heap.size:=by
 obtain⟨i0,hi,hz0,hz1,hz2⟩:=info_parts Try.info127;have h:=run_append_lies (P:=Try.prog) w 150 ty base 127 i0 (.agg #[.int .i64 0,.int .i64 0,.int .i64 0]) 3 24 Try.underlying150 hi hz0 hz1 hz2 rfl (by omega) v l.length (factsC l) hown ⟨B,0,none⟩ 1 c0 [.int .i64 x.qr,.int .i64 x.f_a,.int .i64 x.f_b] rfl (F9 hx) (by simp[Value.oneCell']) (by omega) (by unfold maxLen;omega) (by omega) hb _ rfl;rw[Hn];exact h
theorem Hp {ops:Array Oper} {rest:List Oper} {o:Oper} {a:Act} {w:World} {Q:Exit→Act→World→Prop} (hgd:o.guard=none) (s x:Operand) (ho:o.op=.call { callee:=.builtin .append,args:=#[s,x],argTypes:=#[150,150] }) {base:Nat} {v:Value} {l:List rufact} {f:rufact} {B c0:Nat} {fz:Nat×Nat}
  (hs:a.eval s=v) (hx:a.eval x=.slice (some ⟨B,0,none⟩) 1 c0) (hown:w.ownsRow base 127 3 v l.length (factsC l)) (hb:w.heap[B]? = some (.cells #[.int .i64 f.qr,.int .i64 f.f_a,.int .i64 f.f_b] 127 fz)) (hlen:l.length≤1000000000) (hbase:base≤w.heap.size)
  (h:∀ g cap w',w'.ownsRow base 127 3 (.slice (some ⟨g,0,none⟩) (l.length+1) cap) (l.length+1) (factsC (l++[f]))→w.grownBy w' v.ownBlock→(v.ownBlock=some g∨g=w.heap.size)→g<w'.heap.size→wpList Try.prog ops Q rest (a.put o.dst (.slice (some ⟨g,0,none⟩) (l.length+1) cap)) w'):wpList Try.prog ops Q (o::rest) a w:=by
 obtain⟨g,cap,w',hr,h2,h3,h4,h5⟩:=qaY w base v l f hown hb hlen hbase o.type c0
 refine wpList_plain hgd fun K hK=>?_
 unfold Oper.wp execOp;simp only[ho,resolve,invoke,builtin,Sem.run_bind,Sem.run_pure,Result.andThen_ok,List.map_toArray,A2,List.map_nil,hs,hx,hr];exact hK _ _ (h g cap w' h2 h3 h4 h5)
theorem Try.enter117:∀ args w,(callFunc 117 args).run Try.prog w=.ok (.enter 117 args) w:=fun args w=>by
 have h := Try.func117;have h1 : Try.f117.name ≠ "runtime.NumGoroutine" := oT (by kernel_rfl)
 have h2:Try.f117.body≠none:=fun e=>absurd (show Try.f117.body.isNone=false by kernel_rfl) (by rw[e];decide)
 simp[callFunc,h,h1,h2]
set_option maxHeartbeats 4000000 in
theorem Try.back117 (M0:Mem) (wR:World) (br bo bfr:Nat) (out:List (rufact×Bool)) (rel:Int) (args:List Int) (L0:List rufact) (hbf:bfr<wR.heap.size) (hv:Value) (h0:M0 br 0=some (.int .i64 rel)) (h1:M0 br 1=some hv) (hr:R M0 (l3 none args) hv) (mo:Option Nat) (h2:M0 bo 0=some (.map mo)) (ho:R M0 (mpE qj AV.bool out) (.map mo))
  (d:List (List Int)) (M:Mem) (w:World) (v:List Int) (hv8:v.length=8) (hD:okD ⟨rel,args⟩ L0 (d++[v])) (hS:FS M0 wR bfr out ⟨rel,args⟩ L0 d M w) :
  Calls Try.prog 117 #[valsV v,.pointer (some ⟨br,0,none⟩),.pointer (some ⟨bo,0,none⟩),.pointer (some ⟨bfr,0,none⟩)] w fun e w'=>e=retU∧FS M0 wR bfr out ⟨rel,args⟩ L0 (d++[v]) M w':=by
 have mixed:=mixedP;have t3:=Try.underlying3;have a3:=Try.isAgg3;have z3:=Try.sizeOf3;have v3:=Try.zeroValue3;have u3:=run_underlying Try.underlying3;have t4:=Try.underlying4;have a4:=Try.isAgg4;have z4:=Try.sizeOf4;have v4:=Try.zeroValue4;have u4:=run_underlying Try.underlying4;have t39:=Try.underlying39;have a39:=Try.isAgg39;have z39:=Try.sizeOf39;have v39:=Try.zeroValue39;have u39:=run_underlying Try.underlying39;have t50:=Try.underlying50;have a50:=Try.isAgg50;have z50:=Try.sizeOf50;have v50:=Try.zeroValue50;have u50:=run_underlying Try.underlying50;have t54:=Try.underlying54;have a54:=Try.isAgg54;have z54:=Try.sizeOf54;have v54:=Try.zeroValue54;have u54:=run_underlying Try.underlying54;have t105:=Try.underlying105;have a105:=Try.isAgg105;have z105:=Try.sizeOf105;have v105:=Try.zeroValue105;have u105:=run_underlying Try.underlying105;have t127:=Try.underlying127;have a127:=Try.isAgg127;have z127:=Try.sizeOf127;have v127:=Try.zeroValue127;have u127:=run_underlying Try.underlying127;have t150:=Try.underlying150;have a150:=Try.isAgg150;have z150:=Try.sizeOf150;have v150:=Try.zeroValue150;have u150:=run_underlying Try.underlying150;have t178:=Try.underlying178;have a178:=Try.isAgg178;have z178:=Try.sizeOf178;have v178:=Try.zeroValue178;have u178:=run_underlying Try.underlying178;obtain⟨x0,x1,x2,x3,x4,x5,x6,x7,rfl⟩:=eight hv8;obtain⟨f,hf,hwf⟩:=hD.2 _ (F8 _ (List.mem_singleton.2 rfl))
 have hlen:(L0++headsP out ⟨rel,args⟩ d).length≤1000000000:=by
  have h1:=hD.1;have h2:=HM out ⟨rel,args⟩ d;rw[A8]at h1 ⊢;omega
 have hC:=hS.cons;have hsub:=hS.sub;obtain⟨aa,ac,rfl⟩:=Vn hr;rw[A5]at hr h1
 have c0:∀ o,(w.alloc o).cell? ⟨br,0,none⟩=some (.int .i64 rel):=fun o=>Qj ((hC.alloc o) _ _ _ (hsub _ _ _ h0)) rfl
 have c1:∀ o,(w.alloc o).cell? ⟨br,1,none⟩=some (.slice aa args.length ac):=fun o=>Qj ((hC.alloc o) _ _ _ (hsub _ _ _ h1)) rfl
 have c118:=qge (Yd [x0,x1,x2,x3,x4,x5,x6,x7] ⟨rel,args⟩ f hf) M (w.alloc (.cells #[.int .i64 x0,.int .i64 x1,.int .i64 x2,.int .i64 x3,.int .i64 x4,.int .i64 x5,.int .i64 x6,.int .i64 x7] 178)) [valsV [x0,x1,x2,x3,x4,x5,x6,x7],.agg #[.int .i64 rel,.slice aa args.length ac]] (glob0 M) (hC.alloc _) rfl (fun j a b ha hb=>by
  match j,ha,hb with
  | 0,ha,hb=>cases ha;cases hb;exact qfT _ _
  | 1,ha,hb=>cases ha;cases hb;exact qgP (hr.mono hsub))
 go_enter Try.func117,Try.ntmps117
 go_wp2_with fail
 refine Calls.mono c118 ?_
 rintro e w5 ⟨fv,M5,rfl,hB5,s5,C5,o5,r5,_⟩
 obtain rfl:fv=.agg #[.int .i64 f.qr,.int .i64 f.f_a,.int .i64 f.f_b]:=qfx r5;have B5:Below w.heap.size w w5:=((Below.refl _ _).alloc (A1 _) _).trans (hB5.mono (by simp));obtain⟨w6,ew6⟩:∃ w6,w6=w5.alloc (.cells #[.int .i64 f.qr,.int .i64 f.f_a,.int .i64 f.f_b] 127):=⟨_,rfl⟩
 have B6:Below w.heap.size w w6:=by rw[ew6];exact B5.alloc B5.size _
 have S6:=hS.grow hbf B6 (Sub.refl M) (fun _ _ _=>rfl) (hC.below B6)
 have n5:w6.heap[w5.heap.size]? = some (.cells #[.int .i64 f.qr,.int .i64 f.f_a,.int .i64 f.f_b] 127 (0,0)):=by rw[ew6];exact heap_alloc_new _ _
 have z6:w6.heap.size=w5.heap.size+1:=by rw[ew6];simp
 have k1:w6.cell? ⟨bo,0,none⟩=some (.map mo):=jK S6.cons (hsub _ _ _ h2) rfl
 have f0:w6.cell? ⟨w5.heap.size,0,none⟩=some (.int .i64 f.qr):=by simp[A3,n5]
 have f1:w6.cell? ⟨w5.heap.size,1,none⟩=some (.int .i64 f.f_a):=by simp[A3,n5]
 have f2:w6.cell? ⟨w5.heap.size,2,none⟩=some (.int .i64 f.f_b):=by simp[A3,n5]
 have hlk:=qiI (ho.mono hsub) hwf w6 S6.cons
 have hheads:headsP out ⟨rel,args⟩ (d++[[x0,x1,x2,x3,x4,x5,x6,x7]])=headsP out ⟨rel,args⟩ d++(if mget qu false f out then [] else [f]):=by
  unfold headsP;rw[List.filterMap_append]
  congr 1
  simp only[List.filterMap_cons,hf,Option.bind_some,List.filterMap_nil];cases mget qu false f out<;>rfl
 have HW:=(show Hid (w6=_) from ew6);obtain⟨bq,ebq⟩:∃ bq,bq=mget qu false f out:=⟨_,rfl⟩;rw[← ebq]at hheads hlk;rw[ew6]at k1 f0 f1 f2 hlk;clear ew6 c118 ebq
 cases bq with
 | true =>
  have HH:=(show Hid _ from hheads);have H6:=(show Hid _ from S6);clear hheads S6 hS hC hsub c0 c1 hD n5 B5 B6 hB5 z6 s5 C5 o5 r5 hf hwf
  go_wp2
  refine bodyPost_end (results_none rfl _ _ _) rfl ?_;refine⟨rfl,?_⟩;rw[← HW.out];obtain⟨g1,g2,g3,g4,g5,g6,g7,g8,g9⟩:=H6.out;refine⟨g1,g2,g3,g4,g5,g6,g7,g8,?_⟩;rw[HH.out]
  simpa using g9
 | false =>
  obtain⟨vc,p1,p2,p3⟩:=S6.row;obtain⟨LL,eLL⟩:∃ LL,LL=L0++headsP out ⟨rel,args⟩ d:=⟨_,rfl⟩;rw[← eLL]at p2 hlen;have HL:=(show Hid _ from eLL);clear eLL;have hbl:bfr<w6.heap.size:=lt_of_block p1;have k2:w6.cell? ⟨bfr,0,none⟩=some vc:=cell_of_one p1;obtain⟨w7,ew7⟩:∃ w7,w7=w6.alloc (.cells #[.int .i64 f.qr,.int .i64 f.f_a,.int .i64 f.f_b] 127):=⟨_,rfl⟩
  have n7:w7.heap[w6.heap.size]? = some (.cells #[.int .i64 f.qr,.int .i64 f.f_a,.int .i64 f.f_b] 127 (0,0)):=by rw[ew7];exact heap_alloc_new _ _
  have z7:w7.heap.size=w6.heap.size+1:=by rw[ew7];simp
  have p27:w7.ownsRow wR.heap.size 127 3 vc LL.length (factsC LL):=by rw[ew7];exact p2.alloc _
  have hbase:wR.heap.size≤w7.heap.size:=by have:=S6.size;omega
  rw[HW.out]at k2;rw[HW.out]at ew7;rw[z6]at n7;have HW7:=(show Hid (w7=_) from ew7);rw[ew7]at n7 p27 hbase
  have hB8:∀ w':World,w7.grownBy w' vc.ownBlock→w'.heap[bfr]? = some (.cells #[vc] 150 (0,0)):=fun w' hg=>by
   rw[hg.block bfr (by omega) (fun e=>by have:=(p2.lt bfr e.symm).1;omega),HW7.out,heap_alloc_old _ _ (by rw[← HW.out];exact hbl),← HW.out];exact p1
  have HB:=(show Hid _ from hB8);have H6:=(show Hid _ from S6);have H1:=(show Hid _ from p1);have H2:=(show Hid _ from p2);have H3:=(show Hid _ from p3);have Z6:=(show Hid _ from z6);have Z7:=(show Hid _ from z7);have HH:=(show Hid _ from hheads);clear hB8 ew7 S6 p1 p2 p3 z6 z7 hheads hbl hS hC hsub c0 c1 hD n5 B5 B6 hB5 s5 C5 o5 r5 hf hwf
  go_wp2_with (first | (at_builtin;refine Hp rfl (.tmp 14) (.tmp 16) (by rfl) (by rfl) (by rfl) p27 n7 hlen hbase ?_;intro g1 c1 w8 ho8 hg8 ha8 hl8;rw[← HW7.out]at hg8 ha8;have nb8:=HB.out _ hg8;have d1:=free_of_one nb8;have d2:=cell_of_one nb8))
  refine bodyPost_end (results_none rfl _ _ _) rfl ?_;refine⟨rfl,?_⟩;obtain⟨y1,y2,y3,y4,y5,y6,y7,y8,_⟩:=H6.out;have z7:=Z7.out;have z6:=Z6.out
  have b7:∀ k,k<w6.heap.size→w7.heap[k]? = w6.heap[k]?:=fun k hk=>by rw[HW7.out,← HW.out];exact heap_alloc_old _ _ hk
  have b8:∀ k,k<w6.heap.size→k≠bfr→some k≠vc.ownBlock→(w8.setCell ⟨bfr,0,none⟩ (.slice (some ⟨g1,0,none⟩) (LL.length+1) c1)).heap[k]? = w6.heap[k]?:=fun k hk h1 h2=>by
   rw[Below.heap_setCell _ _ _ _ h1,hg8.block k (by omega) h2,b7 k hk]
  have hs8:=hg8.size
  have hnew:∀ o,M g1 o=none:=fun o=>by
   rcases ha8 with h | h
   ·exact H3.out g1 h o
   ·cases hm:M g1 o with
    | none=>rfl
    | some u=>have:=UT (y1 _ _ _ hm);omega
  refine⟨y1.of_blocks fun b o u hu hb=>b8 b hb (fun e=>by rw[e,y8]at hu;cases hu) (fun e=>by rw[H3.out b e.symm]at hu;cases hu),y2,?_,?_,?_,?_,fun k hk hne=>?_,y8,_,one_setCell nb8,?_,fun g hg o=>?_⟩
  ·show w8.os=_;rw[hg8.os,HW7.out,← HW.out];exact y3
  ·show w8.tape=_;rw[hg8.tape,HW7.out,← HW.out];exact y4
  ·show w8.output=_;rw[hg8.output,HW7.out,← HW.out];exact y5
  ·rw[Yi];omega
  ·rw[b8 k (by omega) hne (fun e=>by have:=(World.ownsRow.lt H2.out k e.symm).1;omega)];exact y7 k hk hne
  ·rw[HH.out]
   have e1:L0++(headsP out ⟨rel,args⟩ d++(if false=true then [] else [f]))=LL++[f]:=by rw[HL.out];simp
   rw[e1,A8]
   refine qhf ho8 fun k hk hkb=>Below.heap_setCell _ _ _ _ fun e=>?_
   have h9:=(ho8.lt k hkb).1;have e:k=bfr:=e;omega
  ·cases hg;exact hnew o
theorem FS.cb {M0:Mem} {wR:World} {br bo bfr:Nat} {out:List (rufact×Bool)} {rel:Int} {args:List Int} {L0:List rufact} (hbf:bfr<wR.heap.size) {hv:Value} (h0:M0 br 0=some (.int .i64 rel)) (h1:M0 br 1=some hv) (hr:R M0 (l3 none args) hv) {mo:Option Nat} (h2:M0 bo 0=some (.map mo)) (ho:R M0 (mpE qj AV.bool out) (.map mo)) :
  CB (okD ⟨rel,args⟩ L0) 117 #[.pointer (some ⟨br,0,none⟩),.pointer (some ⟨bo,0,none⟩),.pointer (some ⟨bfr,0,none⟩)] M0 (FS M0 wR bfr out ⟨rel,args⟩ L0):=by
 refine⟨fun h=>⟨?_,fun v hv=>h.2 v (List.mem_append_left _ hv)⟩,Try.enter117,fun h=>⟨h.cons,h.sub⟩,fun h hB hs ho hC=>h.grow hbf hB hs ho hC,fun h h1 h2=>?_,fun v hv8 hD hS=>Try.back117 M0 wR br bo bfr out rel args L0 hbf hv h0 h1 hr mo h2 ho _ _ _ v hv8 hD hS⟩
 ·have:=h.1;rw[A8]at this;omega
 ·obtain⟨y1,y2,y3,y4,y5,y6,y7,y8,vc,y9,y10,y11⟩:=h;rename_i M M' _
  have none_of:∀ {b o:Nat},M b o=none→M' b o=none:=fun {b o} hm=>by
   cases hq:M' b o with
   | none=>rfl
   | some u=>have:=h2 b o u hq;rw[hm]at this;cases this
  exact⟨fun b o u hu=>y1 b o u (h2 b o u hu),h1,y3,y4,y5,y6,y7,fun o=>none_of (y8 o),vc,y9,y10,fun g hg o=>none_of (y11 g hg o)⟩
end Go.Proofs
namespace Go.AM
open Go.Proofs
theorem Dw {x y:rufact}:qu x y=true↔x=y:=by
 obtain⟨a,b,c⟩:=x;obtain⟨d,e,f⟩:=y;simp[qu]
theorem qal {x y:rufact}:qu x y=false↔x≠y:=by
 rw[← Bool.not_eq_true,Dw]
def byRelL (out:List (rufact×Bool)):List (Int×List rufact):=out.foldl (fun bl p=>mset keq1 p.1.qr (mget keq1 [] p.1.qr bl++[p.1]) bl) []
def headOk (head:qo) (d:List (List Int)):Bool:=d.all fun v=>match ja v head with
 | some f=>wfF f
 | none=>false
def freshL (no out:List (rufact×Bool)):List ruRule→List rufact→Option (List rufact)
 | [],acc=>some acc
 | r::rs,acc=>chk (decide (r.qd.length≤1000)) ((tryP r.qd no (byRelL out) r.qd (C9 8 0)).bind fun d=>chk (decide (acc.length+d.length≤900000000)&&headOk r.qg d) (freshL no out rs (acc++headsP out r.qg d)))
def addF (out:List (rufact×Bool)) (fr:List rufact):List (rufact×Bool):=fr.foldl (fun o f=>mset qu f true o) out
def consR (l:List ruRule) (no:List (rufact×Bool)):Nat→List (rufact×Bool)→Option (List (rufact×Bool))
 | 0,_=>none
 | n+1,out=>chk (decide (out.length≤100000)) ((freshL no out l []).bind fun fr=>bif fr.isEmpty then some out else consR l no n (addF out fr))
def consP (fuel:Nat) (l:List ruRule) (gv no:List (rufact×Bool)):Option (List (rufact×Bool)) :=
 chk (gv.all (fun p=>wfF p.1)&&decide (l.length≤100000∧gv.length≤100000)) (consR l no fuel (addF [] (gv.map A0)))
structure NT (out:List (rufact×Bool)):Prop where
 t:∀ p,p∈out→p.2=true
 n:(out.map A0).Nodup
theorem NT.mget {out:List (rufact×Bool)} (h:∀ p,p∈out→p.2=true) (f:rufact):mget qu false f out=true↔f∈out.map A0:=by
 induction out with
 | nil=>simp[Go.AM.mget]
 | cons p r ih =>
  have ih:=ih fun q hq=>h q (E0 _ hq)
  simp only[Go.AM.mget]
  cases hq:qu p.1 f with
  | true =>
   have:=Dw.1 hq;simp[this,h p (List.mem_cons_self ..)]
  | false =>
   have:=qal.1 hq;simp only[cN,ih,A2,E7];constructor
   ·exact .inr
   ·rintro (h1 | h1)
    ·exact absurd h1.symm this
    ·exact h1
theorem NT.mset {out:List (rufact×Bool)} (h:NT out) (f:rufact):NT (mset qu f true out)∧(∀ g,g∈(mset qu f true out).map A0↔g=f∨g∈out.map A0)∧out.length≤(mset qu f true out).length∧(f ∉ out.map A0→(mset qu f true out).length=out.length+1):=by
 induction out with
 | nil=>exact⟨⟨by simp[Go.AM.mset],by simp[Go.AM.mset]⟩,by simp[Go.AM.mset],by simp,by simp[Go.AM.mset]⟩
 | cons p r ih =>
  obtain⟨h1,h2⟩:=h;rw[A2,List.nodup_cons]at h2;obtain⟨ih1,ih2,ih3,ih4⟩:=ih ⟨fun q hq=>h1 q (E0 _ hq),h2.2⟩;simp only[Go.AM.mset]
  cases hq:qu p.1 f with
  | true =>
   have:=Dw.1 hq;subst this;simp only[cT];refine⟨⟨fun q hq=>?_,by simpa using h2⟩,fun g=>by simp,by simp,fun hn=>absurd (by simp) hn⟩
   rcases List.mem_cons.1 hq with rfl | hq
   ·rfl
   ·exact h1 q (E0 _ hq)
  | false =>
   have hne:=qal.1 hq;simp only[cN];refine⟨⟨fun q hq=>?_,?_⟩,fun g=>?_,by simpa using ih3,fun hn=>?_⟩
   ·rcases List.mem_cons.1 hq with rfl | hq
    ·exact h1 _ (List.mem_cons_self ..)
    ·exact ih1.t q hq
   ·rw[A2,List.nodup_cons];refine⟨fun hm=>?_,ih1.n⟩
    rcases (ih2 _).1 hm with h | h
    ·exact hne h
    ·exact h2.1 h
   ·rw[A2,E7,ih2,A2,E7];constructor
    ·rintro (h | h | h)
     ·exact .inr (.inl h)
     ·exact .inl h
     ·exact .inr (.inr h)
    ·rintro (h | h | h)
     ·exact .inr (.inl h)
     ·exact .inl h
     ·exact .inr (.inr h)
   ·rw[G0,ih4 (fun h=>hn (by rw[A2];exact E0 _ h)),G0]
theorem NT.add {fr:List rufact}:∀ {out:List (rufact×Bool)},NT out→NT (addF out fr)∧(∀ g,g∈(addF out fr).map A0↔g∈fr∨g∈out.map A0)∧out.length≤(addF out fr).length∧(∀ f,f∈fr→f ∉ out.map A0→out.length<(addF out fr).length):=by
 induction fr with
 | nil=>intro out h;exact⟨h,fun g=>by simp[addF],A1 _,fun f hf=>by simp at hf⟩
 | cons f fr ih =>
  intro out h;obtain⟨m1,m2,m3,m4⟩:=h.mset f;obtain⟨a1,a2,a3,a4⟩:=ih m1;have e:addF out (f::fr)=addF (Go.AM.mset qu f true out) fr:=rfl;rw[e];refine⟨a1,fun g=>?_,F7 m3 a3,fun g hg hn=>?_⟩
  ·rw[a2,m2,E7];constructor
   ·rintro (h | h | h)
    ·exact .inl (.inr h)
    ·exact .inl (.inl h)
    ·exact .inr h
   ·rintro ((h | h) | h)
    ·exact .inr (.inl h)
    ·exact .inl h
    ·exact .inr (.inr h)
  ·rcases List.mem_cons.1 hg with rfl | hg
   ·have:=m4 hn;omega
   ·by_cases hgf:g=f
    ·subst hgf;have:=m4 hn;omega
    ·have:=a4 g hg (fun h=>by
      rcases (m2 g).1 h with h | h
      ·exact hgf h
      ·exact hn h)
     omega
theorem NT.nodup {out:List (rufact×Bool)} (h:NT out):out.Nodup:=List.Pairwise.of_map A0 (fun a b h e=>h (by rw[e])) h.n
theorem NT.mem {out:List (rufact×Bool)} (h:NT out) (p:rufact×Bool):p∈out↔p.2=true∧p.1∈out.map A0:=by
 constructor
 ·intro hp;exact⟨h.t p hp,List.mem_map.2 ⟨p,hp,rfl⟩⟩
 ·rintro⟨h1,h2⟩
  obtain⟨q,hq,he⟩:=List.mem_map.1 h2;have:=h.t q hq;have:q=p:=Prod.ext he (by rw[h1,this]);rw[← this];exact hq
theorem NT.perm {a b:List (rufact×Bool)} (ha:NT a) (hb:NT b) (h:∀ g,g∈a.map A0↔g∈b.map A0):a.Perm b:=by
 classical
 refine (List.perm_ext_iff_of_nodup ha.nodup hb.nodup).2 fun p=>?_
 rw[ha.mem,hb.mem,h]
theorem NT.of_perm {a b:List (rufact×Bool)} (ha:NT a) (h:a.Perm b):NT b:=⟨fun p hp=>ha.t p (h.mem_iff.2 hp),(h.map A0).nodup_iff.1 ha.n⟩
theorem NT.empty:NT []:=⟨fun p hp=>by simp at hp,by simp⟩
theorem qfn {out out':List (rufact×Bool)} (ha:NT out) (hp:out.Perm out') (head:qo) (d:List (List Int)):headsP out head d=headsP out' head d:=by
 have hb:=ha.of_perm hp;unfold headsP
 congr 1
 funext v
 congr 1
 funext f
 have:mget qu false f out=mget qu false f out':=by
  rw[Bool.eq_iff_iff,NT.mget ha.t,NT.mget hb.t,(hp.map A0).mem_iff]
 rw[this]
theorem qej {out:List (rufact×Bool)} {head:qo} {d d':List (List Int)} (hp:d.Perm d'):(headsP out head d).Perm (headsP out head d'):=hp.filterMap _
theorem qcf (rel:Int):∀ (out:List (rufact×Bool)) (bl:List (Int×List rufact)),mget keq1 [] rel (out.foldl (fun bl p=>mset keq1 p.1.qr (mget keq1 [] p.1.qr bl++[p.1]) bl) bl)=mget keq1 [] rel bl++(out.map A0).filter fun f=>f.qr == rel
 | [],bl=>by simp
 | p::out,bl=>by
  rw[List.foldl_cons,qcf rel out,qai,A2,List.filter_cons];by_cases h:rel=p.1.qr
  ·subst h;simp
  ·have:(p.1.qr == rel)=false:=by simp;omega
   simp[h,this]
theorem qav (rel:Int) (out:List (rufact×Bool)):mget keq1 [] rel (byRelL out)=(out.map A0).filter fun f=>f.qr == rel:=by
 unfold byRelL;rw[qcf];simp[mget]
theorem qik {k k':List Int→Option (List (List Int))} {a:qo} {v:List Int} (hk:∀ v o,k v=some o→∃ o',k' v=some o'∧o.Perm o'):∀ (gs:List rufact) (o:List (List Int)),fitL k a v gs=some o→∃ o',fitL k' a v gs=some o'∧o.Perm o':=by
 intro gs
 induction gs with
 | nil=>intro o h;cases h;exact⟨[],rfl,List.Perm.refl _⟩
 | cons g gs ih =>
  intro o h;unfold fitL at h;obtain⟨p,hp,h⟩:=qe h;obtain⟨l,hl,h⟩:=qe h;obtain⟨m,hm,h⟩:=qe h;cases h;obtain⟨m',hm',pm⟩:=ih m hm
  obtain⟨l',hl',pl⟩:∃ l',(bif p.2 then k' p.1 else some [])=some l'∧l.Perm l':=by
   cases hb:p.2 with
   | true =>
    rw[hb]at hl;exact hk _ _ hl
   | false =>
    rw[hb]at hl;cases hl;exact⟨[],rfl,List.Perm.refl _⟩
  refine⟨l'++m',?_,pl.append pm⟩;unfold fitL;rw[hp];show (bif p.2 then k' p.1 else some []).bind _=_;rw[hl'];show (fitL k' a v gs).bind _=_;rw[hm'];rfl
theorem qij {k:List Int→Option (List (List Int))} {a:qo} {v:List Int} {gs gs':List rufact} (h:gs.Perm gs'):∀ o,fitL k a v gs=some o→∃ o',fitL k a v gs'=some o'∧o.Perm o':=by
 induction h with
 | nil=>intro o h;exact⟨o,h,List.Perm.refl _⟩
 | cons g hp ih =>
  intro o h;unfold fitL at h;obtain⟨p,hp,h⟩:=qe h;obtain⟨l,hl,h⟩:=qe h;obtain⟨m,hm,h⟩:=qe h;cases h;obtain⟨m',hm',pm⟩:=ih m hm;refine⟨l++m',?_,pm.append_left l⟩;unfold fitL;rw[hp];show (bif p.2 then k p.1 else some []).bind _=_;rw[hl];show (fitL k a v _).bind _=_;rw[hm'];rfl
 | swap g1 g2 gs =>
  intro o h;unfold fitL at h;obtain⟨p,hp,h⟩:=qe h;obtain⟨l,hl,h⟩:=qe h;obtain⟨m,hm,h⟩:=qe h;cases h;unfold fitL at hm;obtain⟨p',hp',hm⟩:=qe hm;obtain⟨l',hl',hm⟩:=qe hm;obtain⟨m',hm',hm⟩:=qe hm;cases hm;refine⟨l'++(l++m'),?_,?_⟩
  ·unfold fitL;rw[hp'];show (bif p'.2 then k p'.1 else some []).bind _=_;rw[hl'];show (fitL k a v (g2::gs)).bind _=_;unfold fitL;rw[hp];show ((bif p.2 then k p.1 else some []).bind _).bind _=_;rw[hl];show ((fitL k a v gs).bind _).bind _=_;rw[hm'];rfl
  ·rw[← G1,← G1];exact List.perm_append_comm.append_right _
 | trans _ _ ih1 ih2 =>
  intro o h;obtain⟨o1,h1,p1⟩:=ih1 o h;obtain⟨o2,h2,p2⟩:=ih2 o1 h1;exact⟨o2,h2,p1.trans p2⟩
theorem qcJ {all:List ruLit} {no:List (rufact×Bool)} {bl bl':List (Int×List rufact)} (hp:∀ rel,(mget keq1 [] rel bl).Perm (mget keq1 [] rel bl')):∀ (body:List ruLit) (v:List Int) (o:List (List Int)),tryP all no bl body v=some o→∃ o',tryP all no bl' body v=some o'∧o.Perm o':=by
 intro body
 induction body with
 | nil=>intro v o h;exact⟨o,h,List.Perm.refl _⟩
 | cons x body ih =>
  intro v o h;unfold tryP at h ⊢
  cases hn:x.qp with
  | true =>
   rw[hn]at h;exact ih v o h
  | false =>
   rw[hn]at h;obtain⟨hc,h⟩:=qi (show chk (wfI .i64 x.qc.qb) (fitL (tryP all no bl body) x.qc v (mget keq1 [] x.qc.qb bl))=some o from h);obtain⟨o1,h1,p1⟩:=qik (k':=tryP all no bl' body) (fun v o h=>ih v o h) _ _ h;obtain⟨o2,h2,p2⟩:=qij (hp x.qc.qb) _ h1;refine⟨o2,?_,p1.trans p2⟩;show chk (wfI .i64 x.qc.qb) _=_;rw[hc];exact h2
theorem qbH {head:qo} {d:List (List Int)} (h:headOk head d=true):∀ v,v∈d→∃ f,ja v head=some f∧wfF f=true:=by
 intro v hv;have:=List.all_eq_true.1 h v hv
 cases hg:ja v head with
 | none=>rw[hg]at this;cases this
 | some f=>rw[hg]at this;exact⟨f,rfl,this⟩
theorem qif {out:List (rufact×Bool)} {head:qo} {d:List (List Int)} (h:headOk head d=true):∀ f,f∈headsP out head d→wfF f=true∧mget qu false f out=false:=by
 intro f hf;unfold headsP at hf;obtain⟨v,hv,he⟩:=List.mem_filterMap.1 hf;obtain⟨g,h1,h2⟩:=qbH h v hv;rw[h1]at he;simp only[Option.bind_some]at he;split at he
 ·cases he
 ·rename_i hq;cases he;exact⟨h2,by simpa using hq⟩
end Go.AM
namespace Go.AM
open Go.RowKit Go.Proofs
open Go.ChangeMaps (setBlock)
variable {K V:Type} {F:K→AV} {G:V→AV} {eq:K→K→Bool}
def MapAt (M:Mem) (w:World) (g:Nat) (F:K→AV) (G:V→AV) (l:List (K×V)):Prop :=
 ∃ es clock,w.heap[g]? = some (.map es clock)∧EntOk M es clock (l.map fun p=>F p.1) (l.map fun p=>G p.2)
theorem MapAt.mono {M M':Mem} {w:World} {g:Nat} {l:List (K×V)} (h:MapAt M w g F G l) (hs:Sub M M'):MapAt M' w g F G l:=by
 obtain⟨es,clock,h1,h2⟩:=h;exact⟨es,clock,h1,h2.mono hs⟩
theorem MapAt.of {M:Mem} {w w':World} {g:Nat} {l:List (K×V)} (h:MapAt M w g F G l) (hb:w'.heap[g]? = w.heap[g]?):MapAt M w' g F G l:=by
 obtain⟨es,clock,h1,h2⟩:=h;exact⟨es,clock,hb.trans h1,h2⟩
theorem MapAt.lt {M:Mem} {w:World} {g:Nat} {l:List (K×V)} (h:MapAt M w g F G l):g<w.heap.size:=by
 obtain⟨es,clock,h1,_⟩:=h;exact (Array.getElem?_eq_some_iff.1 h1).1
theorem MapAt.empty {M:Mem} {w:World} {g:Nat} (h:w.heap[g]? = some (.map #[] 0)):MapAt M w g F G []:=⟨#[],0,h,(H0 _ _).2 ⟨by simp,by simp,by simp⟩,D4 _,rfl,rfl,fun j k e hk=>by simp at hk,fun j k e hk=>by simp at hk⟩
theorem Try.update_own {M:Mem} {es:Array MapEntry} {clock:Nat} {t kt e:TypeId} {l:List (K×V)} (E:EntOk M es clock (l.map fun p=>F p.1) (l.map fun p=>G p.2)) (ht:XK Try.prog t=some (kt,e)) (hf:∀ x,keyFits Try.prog kt (F x)=true) (he:∀ x y,akeq (F x) (F y)=eq x y) {k:K} {v:V} {kv vv:Value} (hkv:(F k).keyV=some kv) (hvv:R M (G v) vv) (hl:l.length<1000000000) :
  ∃ es' clock',EntOk M es' clock' ((mset eq k v l).map fun p=>F p.1) ((mset eq k v l).map fun p=>G p.2)∧∀ (w:World) (g:Nat),w.heap[g]? = some (.map es clock)→(Instr.mapUpdate t (.map (some g)) kv vv).run Try.prog w=.ok () (setBlock w g (.map es' clock')):=by
 have ht':=XX ht
 have fnd:=fun w=>Vy (P:=Try.prog) (w:=w) (hf k) hkv (DA hf l) E
 obtain⟨E1,E2,E3,E4,E5,E6⟩:=E;have w0:World:=(default:World);obtain⟨_,_,hfd⟩:=fnd w0
 rcases hfd with ⟨f1,_,f3⟩ | ⟨j,e0,f1,_,f3,f4⟩
 ·rcases Ha (G:=G) he k v l with ⟨i,g1,_⟩ | ⟨g1,g2,g3⟩
  ·rw[f1]at g1;cases g1
  ·rw[g2,g3];refine⟨es.push ⟨kv,vv,clock⟩,clock+1,⟨G7 E1 f3,by simp[maxLen];simp at E3;omega,by simp at E3 ⊢;exact E3,by simp at E4 ⊢;exact E4,fun j k' e' hk' he'=>?_,fun j v' e' hv' he'=>?_⟩,fun w g hb=>?_⟩
   ·rw[D3]at he';split at he'
    ·rename_i hj;cases he';rw[hj,← E3]at hk';simp only[D8,Option.some.injEq]at hk';subst hk';exact hkv
    ·rename_i hj
     have hjl:j<(l.map fun p=>F p.1).length:=by
      have:=(Array.getElem?_eq_some_iff.1 he').1;omega
     rw[D9 hjl]at hk';exact E5 j k' e' hk' he'
   ·rw[D3]at he';split at he'
    ·rename_i hj;cases he';rw[hj,← E4]at hv';simp only[D8,Option.some.injEq]at hv';subst hv';exact hvv
    ·rename_i hj
     have hjl:j<(l.map fun p=>G p.2).length:=by
      have:=(Array.getElem?_eq_some_iff.1 he').1;omega
     rw[D9 hjl]at hv';exact E6 j v' e' hv' he'
   ·obtain⟨hck,hst,hfd⟩:=fnd w
    rcases hfd with ⟨_,f2,_⟩ | ⟨j,e0,q1,_⟩
    ·simp[Instr.mapUpdate,run_underlying ht',C8 hb,hck,f2,D7 _ hb,A7,setBlock]
    ·rw[f1]at q1;cases q1
 ·rcases Ha (G:=G) he k v l with ⟨i,g1,g2,g3⟩ | ⟨g1,_⟩
  ·rw[f1]at g1;cases g1;rw[g2,g3]
   have hj:es[j]? = some e0:=by simpa using f3
   have hjs:j<es.size:=(Array.getElem?_eq_some_iff.1 hj).1
   have hkeyf:∀ e',es[j]? = some e'→({ e' with key:=kv,val:=vv }:MapEntry).key=e'.key:=fun e' he'=>by rw[hj]at he';cases he';exact f4.symm
   refine⟨es.modify j (fun e'=>{ e' with key:=kv,val:=vv }),clock,⟨G6 E1 _ _ (fun _ _=>rfl) (fun e' _ he'=>hkeyf e' he'),by simpa using E2,by simpa using E3,by simpa using E4,fun i k' e' hk' he'=>?_,fun i v' e' hv' he'=>?_⟩,fun w g hb=>?_⟩
   ·rw[D0]at he';split at he'
    ·rename_i hij;subst hij;rw[hj]at he';cases he';show k'.keyV=some kv;rw[← f4];exact E5 j k' e0 hk' hj
    ·exact E5 i k' e' hk' he'
   ·rw[D0]at he';split at he'
    ·rename_i hij;subst hij;rw[hj]at he';cases he';rw[List.getElem?_set_self (by omega)]at hv';cases hv';exact hvv
    ·rename_i hij;rw[List.getElem?_set_ne hij]at hv';exact E6 i v' e' hv' he'
   ·obtain⟨hck,hst,hfd⟩:=fnd w
    rcases hfd with ⟨q1,_⟩ | ⟨j',e',q1,f2,q3,q4⟩
    ·rw[f1]at q1;cases q1
    ·rw[f1]at q1;cases q1;simp[Instr.mapUpdate,run_underlying ht',C8 hb,hck,f2,hj,f4,hst,D7 _ hb,A7,setBlock]
  ·rw[f1]at g1;cases g1
theorem setBlock_at {w:World} {g:Nat} {o o':Obj} (h:w.heap[g]? = some o):(setBlock w g o').heap[g]? = some o':=by
 have:=(Array.getElem?_eq_some_iff.1 h).1;unfold setBlock;simp[this]
theorem setBlock_other {w:World} {g k:Nat} {o':Obj} (h:k≠g):(setBlock w g o').heap[k]? = w.heap[k]?:=by
 unfold setBlock;simp[G2,Ne.symm h]
theorem setBlock_size {w:World} {g:Nat} {o':Obj}:(setBlock w g o').heap.size=w.heap.size:=by
 unfold setBlock;simp
end Go.AM
namespace Go.Proofs
open Go.RowKit Go.AM
open Go.ChangeMaps (setBlock)
def IterG (M:Mem) (es:Array MapEntry) (w:World) (gi:Nat) (rem:List rufact):Prop :=
 (es=#[]∧rem=[]∧w.heap[gi]? = some (.mapIter none 0 #[] 0))∨∃ bm clock,M bm 0=some (mapCell es clock)∧E8 es clock∧Iter factV w gi bm es clock rem
theorem IterG.of {M:Mem} {es:Array MapEntry} {w w':World} {gi:Nat} {rem:List rufact} (h:IterG M es w gi rem) (hb:w'.heap[gi]? = w.heap[gi]?):IterG M es w' gi rem:=by
 rcases h with ⟨h1,h2,h3⟩ | ⟨bm,clock,h1,h2,h3⟩
 ·exact .inl ⟨h1,h2,hb.trans h3⟩
 ·exact .inr ⟨bm,clock,h1,h2,h3.of hb⟩
theorem IterG.left {M:Mem} {es:Array MapEntry} {w:World} {gi:Nat} {rem:List rufact} (h:IterG M es w gi rem):itLeft es gi w=rem.length:=by
 rcases h with ⟨h1,h2,h3⟩ | ⟨bm,clock,h1,h2,h3⟩
 ·subst h1;subst h2;unfold itLeft;rw[h3];rfl
 ·exact h3.left
theorem IterG.next {M:Mem} {es:Array MapEntry} {w:World} {gi:Nat} {rem:List rufact} (h:IterG M es w gi rem) (hC:Cons M w) (ty:TypeId) :
  (rem=[]∧(Instr.next (.pointer (some ⟨gi,0,none⟩)) false ty).run Try.prog w=.ok (.tuple #[.bool false]) w) ∨
  ∃ (j:Nat) (f:rufact) (v:Value) (w1:World),rem[j]? = some f∧(Instr.next (.pointer (some ⟨gi,0,none⟩)) false ty).run Try.prog w=.ok (.tuple #[.bool true,.agg #[.int .i64 f.qr,.int .i64 f.f_a,.int .i64 f.f_b],v]) w1∧w.grownBy w1 (some gi)∧w1.heap.size=w.heap.size∧IterG M es w1 gi (rem.eraseIdx j) ∧
   ∀ w2,w2.heap[gi]? = w1.heap[gi]?→Cons M w2→(Instr.entry (.pointer (some ⟨gi,0,none⟩))).run Try.prog w2=.ok (.tuple #[.agg #[.int .i64 f.qr,.int .i64 f.f_a,.int .i64 f.f_b],v]) w2:=by
 rcases h with ⟨h1,h2,h3⟩ | ⟨bm,clock,h1,h2,h3⟩
 ·left;refine⟨h2,?_⟩;simp[Instr.next,getObj,Sem.run,h3,A7]
 ·rcases h3.next (Ua (hC _ _ _ h1)) h2 ty with ⟨q1,q2⟩ | ⟨j,f,v,w1,q1,q2,q3,q4,q5,q6⟩
  ·exact .inl ⟨q1,q2⟩
  ·exact .inr ⟨j,f,v,w1,q1,q2,q3,q4,.inr ⟨bm,clock,h1,h2,q5⟩,fun w2 e1 e2=>q6 w2 e1 (Ua (e2 _ _ _ h1))⟩
theorem qhT {M:Mem} {inl:List (rufact×Bool)} {mv:Value} (h:R M (mpE qj AV.bool inl) mv):∃ (es:Array MapEntry) (fs:List rufact),(inl.map A0).Perm fs∧∀ w,Cons M w→∃ o,(Instr.range 105 mv).run Try.prog w=.ok (.pointer (some ⟨w.heap.size,0,none⟩)) (w.alloc o)∧IterG M es (w.alloc o) w.heap.size fs:=by
 obtain⟨mo,rfl⟩:=Dr h
 cases mo with
 | none =>
  have h0:inl=[]:=by
   have h':R M (.mpv (inl.map fun p=>qj p.1) (inl.map fun p=>AV.bool p.2)) (.map none):=h
   rcases Dq h' with ⟨_,h1,_⟩ | ⟨ks',vs',b,es,clock,hp,hv,_⟩
   ·exact List.map_eq_nil_iff.1 h1
   ·cases hv
  subst h0;exact⟨#[],[],List.Perm.refl _,fun w hC=>⟨_,run_range_nilMap w 105 127 4 Try.underlying105,.inl ⟨rfl,rfl,heap_alloc_new _ _⟩⟩⟩
 | some gi =>
  obtain⟨es,clock,fs,q1,q2,q3,q4,q5⟩:=qeL h;refine⟨es,fs,q3,fun w hC=>?_⟩;have hb:=Ua (hC _ _ _ q1);exact⟨_,run_range_map w 105 127 4 gi es clock Try.underlying105 hb,.inr ⟨gi,clock,q1,q2,Iter.start (heap_alloc_new _ _) q4 q5⟩⟩
abbrev SetAt (w:World) (g:Nat) (out:List (rufact×Bool)):Prop:=MapAt (fun _ _=>none) w g qj AV.bool out
theorem fits127 (x:rufact):keyFits Try.prog 127 (qj x)=true:=by kernel_rfl
theorem SetAt.put {w:World} {g:Nat} {out:List (rufact×Bool)} (h:SetAt w g out) {f:rufact} (hf:wfF f=true) (hl:out.length<1000000000) :
  ∃ o',(Instr.mapUpdate 105 (.map (some g)) (.agg #[.int .i64 f.qr,.int .i64 f.f_a,.int .i64 f.f_b]) (.bool true)).run Try.prog w=.ok () (setBlock w g o')∧SetAt (setBlock w g o') g (mset qu f true out):=by
 obtain⟨es,clock,hb,hE⟩:=h
 have hk:(qj f).keyV=some (.agg #[.int .i64 f.qr,.int .i64 f.f_a,.int .i64 f.f_b]):=by
  unfold wfF at hf;rw[C0,C0]at hf;simp only[qj,AV.keyV,keyVs,hf.1.1,hf.1.2,hf.2]
 obtain⟨es',clock',hE',hU⟩:=Try.update_own (t:=105) (kt:=127) (e:=4) (eq:=qu) (G:=AV.bool) hE (by kernel_rfl) fits127 (fun x y=>rfl) (k:=f) (v:=true) hk (.bool true) hl;exact⟨_,hU w g hb,es',clock',Go.AM.setBlock_at hb,hE'⟩
theorem SetAt.freeze {M:Mem} {w:World} {g B:Nat} {out:List (rufact×Bool)} (h:SetAt w g out) (hB:B≤g):R (mtail M B w) (mpE qj AV.bool out) (.map (some g)):=by
 obtain⟨es,clock,hb,hE⟩:=h
 obtain⟨h2,h3,h4,h5,h6,h7⟩:=EntOk.mono hE (M':=mtail M B w) fun b o u hu=>by cases hu
 exact .mpv (by rw[XW hB];exact Um hb) h2 h3 h4 h5 h6 h7
theorem qhW {a b:List (rufact×Bool)} (h:a.Perm b):PermKV (b.map fun p=>qj p.1) (b.map fun p=>AV.bool p.2) (a.map fun p=>qj p.1) (a.map fun p=>AV.bool p.2):=by
 refine⟨by simp,by simp,?_⟩
 have e:∀ l:List (rufact×Bool),(l.map fun p=>qj p.1).zip (l.map fun p=>AV.bool p.2)=l.map fun p=>(qj p.1,AV.bool p.2):=fun l=>by
  induction l with
  | nil=>rfl
  | cons p l ih=>simp[ih]
 rw[e,e];exact h.symm.map _
theorem qiH {M:Mem} {a b:List (rufact×Bool)} (h:a.Perm b) {mo:Option Nat} (hr:R M (mpE qj AV.bool a) (.map mo)):R M (mpE qj AV.bool b) (.map mo):=.mpp (qhW h) hr
theorem FS.pack {M0 M':Mem} {wR:World} {bfr:Nat} {out:List (rufact×Bool)} {head h2:qo} {L0:List rufact} {d:List (List Int)} {M:Mem} {w:World} (h:FS M0 wR bfr out head L0 d M w) (hs:Sub M' M):FS M' wR bfr out h2 (L0++headsP out head d) [] M w:=by
 obtain⟨y1,y2,y3,y4,y5,y6,y7,y8,vc,y9,y10,y11⟩:=h;refine⟨y1,hs,y3,y4,y5,y6,y7,y8,vc,y9,?_,y11⟩
 have:L0++headsP out head d++headsP out h2 []=L0++headsP out head d:=by simp[headsP]
 rw[this];exact y10
theorem qgg {M:Mem} {l:List ruRule} {v:Value} (h:R M (l54 none l) v):∃ a cap,v=.slice a l.length cap∧∀ i x,l[i]? = some x→∃ b off hv bv,a=some ⟨b,off,none⟩∧M b (off+i*3)=some (.int .i64 x.qg.qb)∧M b (off+i*3+1)=some hv∧M b (off+i*3+2)=some bv∧R M (l3 none x.qg.qa) hv∧R M (l56 none x.qd) bv:=by
 obtain⟨a,cap,rfl,hc⟩:=qaj h;refine⟨a,cap,by rw[A5],fun i x hx=>?_⟩;obtain⟨b,off,rfl,hcell⟩:=hc i (Qp x) (by simp[hx]);obtain⟨u0,h0,r0⟩:=hcell 0 _ rfl;obtain⟨u1,h1,r1⟩:=hcell 1 _ rfl;obtain⟨u2,h2,r2⟩:=hcell 2 _ rfl;cases r0;exact⟨b,off,u1,u2,rfl,h0,h1,h2,r1,r2⟩
theorem qfd {fr:List rufact} {out:List (rufact×Bool)} (h:NT out) {P:rufact→Prop} (h1:∀ f,f∈fr→P f) (h2:∀ p,p∈out→P p.1):∀ p,p∈addF out fr→P p.1:=fun p hp=>by
 rcases (h.add.2.1 p.1).1 (List.mem_map.2 ⟨p,hp,rfl⟩) with h3 | h3
 ·exact h1 _ h3
 ·obtain⟨q,hq,he⟩:=List.mem_map.1 h3;rw[← he];exact h2 q hq
theorem qci:∀ (fr:List rufact) (out:List (rufact×Bool)),(addF out fr).length≤out.length+fr.length
 | [],out=>A1 _
 | f::fr,out=>by
  have h1:=qci fr (mset qu f true out)
  have h2:∀ o:List (rufact×Bool),(mset qu f true o).length≤o.length+1:=by
   intro o
   induction o with
   | nil=>simp[mset]
   | cons p r ih =>
    unfold mset;cases qu p.1 f<;>simp<;>omega
  have h3:=h2 out;show (addF (mset qu f true out) fr).length≤_;rw[G0];omega
end Go.Proofs
namespace Go.Proofs
open Go.RowKit Go.AM
open Go.ChangeMaps (setBlock)
def mapLen (g:Nat) (w:World):Nat:=match w.heap[g]? with
 | some (.map es _)=>es.size
 | _=>0
theorem SetAt.len {w:World} {g:Nat} {out:List (rufact×Bool)} (h:SetAt w g out):mapLen g w=out.length:=by
 obtain⟨es,clock,hb,_,_,h3,_⟩:=h;unfold mapLen;rw[hb]
 simpa using h3.symm
theorem qfy {α:Type}:∀ (l:List α) (j:Nat) (h:j<l.length),l.Perm (l[j]::l.eraseIdx j)
 | [],j,h=>by simp at h
 | a::l,0,h=>by simp
 | a::l,j+1,h=>by
  simp only[A4,G8];exact ((qfy l j (by simpa using h)).cons a).trans (List.Perm.swap _ _ _)
def boolOf:Value→Bool
 | .bool b=>b
 | _=>false
structure I2 (l:List ruRule) (no r:List (rufact×Bool)) (w w3:World) (b:Bool) (wr:World):Prop where
 below:Below w.heap.size w wr
 size:w3.heap.size≤wr.heap.size
 old:∀ k,k<w3.heap.size→k≠w.heap.size→wr.heap[k]? = w3.heap[k]?
 set:∃ outp,SetAt wr w.heap.size outp∧NT outp∧(∀ p,p∈outp→wfF p.1=true)∧(b=true→∃ n outc,consR l no n outc=some r∧outp.Perm outc)∧(b=false→outp.Perm r)
theorem qbO (no out:List (rufact×Bool)):∀ (l:List ruRule) (acc fr:List rufact),freshL no out l acc=some fr→acc.length≤900000000→fr.length≤900000000
 | [],acc,fr,h,ha=>by cases h;exact ha
 | r::rs,acc,fr,h,ha=>by
  obtain⟨_,h⟩:=qi (show chk (decide (r.qd.length≤1000)) ((tryP r.qd no (byRelL out) r.qd (C9 8 0)).bind fun d=>chk (decide (acc.length+d.length≤900000000)&&headOk r.qg d) (freshL no out rs (acc++headsP out r.qg d)))=some fr from h);obtain⟨d,_,h⟩:=qe h;obtain⟨hc,h⟩:=qi h;rw[C0,decide_eq_true_eq]at hc;refine qbO no out rs _ _ h ?_;rw[A8];have:=HM out r.qg d;omega
def qjF (w:World) (r:List (rufact×Bool)) (e:Ending) (w':World):Prop:=e=.returned (.map (some w.heap.size))∧Below w.heap.size w w'∧∃ outp,SetAt w' w.heap.size outp∧NT outp∧outp.Perm r∧∀ p,p∈outp→wfF p.1=true
set_option maxHeartbeats 8000000 in
theorem Try.cons74o {fuel:Nat} {l:List ruRule} {gv no r:List (rufact×Bool)} (h:consP fuel l gv no=some r) {M:Mem} {w:World} (hC:Cons M w) {lv gvv nov:Value} (rl:R M (l54 none l) lv) (rg:R M (mpE qj AV.bool gv) gvv) (rn:R M (mpE qj AV.bool no) nov):Calls Try.prog 74 #[lv,gvv,nov] w (qjF w r):=by
 unfold consP at h;obtain⟨hck,h⟩:=qi h;rw[C0,decide_eq_true_eq,E9]at hck;obtain⟨hwg,hll,hgl⟩:=hck;obtain⟨la,lc,rfl,hrules⟩:=qgg rl;obtain⟨mo,rfl⟩:=Dr rn;obtain⟨es,fs,hfs,hrange⟩:=qhT rg;have mixed:=mixedP;have t3:=Try.underlying3;have a3:=Try.isAgg3;have z3:=Try.sizeOf3;have v3:=Try.zeroValue3;have u3:=run_underlying Try.underlying3;have t4:=Try.underlying4;have a4:=Try.isAgg4;have z4:=Try.sizeOf4;have v4:=Try.zeroValue4;have u4:=run_underlying Try.underlying4;have t27:=Try.underlying27;have a27:=Try.isAgg27;have z27:=Try.sizeOf27;have v27:=Try.zeroValue27;have u27:=run_underlying Try.underlying27;have t39:=Try.underlying39;have a39:=Try.isAgg39;have z39:=Try.sizeOf39;have v39:=Try.zeroValue39;have u39:=run_underlying Try.underlying39;have t50:=Try.underlying50;have a50:=Try.isAgg50;have z50:=Try.sizeOf50;have v50:=Try.zeroValue50;have u50:=run_underlying Try.underlying50;have t52:=Try.underlying52;have a52:=Try.isAgg52;have z52:=Try.sizeOf52;have v52:=Try.zeroValue52;have u52:=run_underlying Try.underlying52;have t54:=Try.underlying54;have a54:=Try.isAgg54;have z54:=Try.sizeOf54;have v54:=Try.zeroValue54;have u54:=run_underlying Try.underlying54;have t105:=Try.underlying105;have a105:=Try.isAgg105;have z105:=Try.sizeOf105;have v105:=Try.zeroValue105;have u105:=run_underlying Try.underlying105;have t127:=Try.underlying127;have a127:=Try.isAgg127;have z127:=Try.sizeOf127;have v127:=Try.zeroValue127;have u127:=run_underlying Try.underlying127;have t150:=Try.underlying150;have a150:=Try.isAgg150;have z150:=Try.sizeOf150;have v150:=Try.zeroValue150;have u150:=run_underlying Try.underlying150;have t178:=Try.underlying178;have a178:=Try.isAgg178;have z178:=Try.sizeOf178;have v178:=Try.zeroValue178;have u178:=run_underlying Try.underlying178;have t180:=Try.underlying180;have a180:=Try.isAgg180;have z180:=Try.sizeOf180;have v180:=Try.zeroValue180;have u180:=run_underlying Try.underlying180;have hmm:=@run_makeMap Try.prog
 have hmf:∀ (fn:Fn) (first cap:Array Value) (w:World),(Instr.makeFunc fn first cap).run Try.prog w=.ok (.func fn first cap) w:=fun _ _ _ _=>rfl
 obtain⟨w2,ew2⟩:∃ w2,w2=(w.alloc (.map #[] 0)).alloc (.cells #[.map (some w.heap.size)] 105):=⟨_,rfl⟩
 have z2:w2.heap.size=w.heap.size+1+1:=by rw[ew2];simp
 have B2:Below w.heap.size w w2:=by rw[ew2];exact ((Below.refl _ _).alloc (A1 _) _).alloc (by simp) _
 have e0:w2.heap[w.heap.size]? = some (.map #[] 0):=by rw[ew2,heap_alloc_old _ _ (by simp)];exact heap_alloc_new _ _
 have e1:w2.heap[w.heap.size+1]? = some (.cells #[.map (some w.heap.size)] 105 (0,0)):=by
  rw[ew2];have:=heap_alloc_new (w.alloc (.map #[] 0)) (.cells #[.map (some w.heap.size)] 105)
  simpa using this
 obtain⟨ob,hrg,hI0⟩:=hrange w2 (hC.below B2);obtain⟨w3,ew3⟩:∃ w3,w3=w2.alloc ob:=⟨_,rfl⟩
 have z3:w3.heap.size=w.heap.size+1+1+1:=by rw[ew3];simp[z2]
 have B3:Below w.heap.size w w3:=by rw[ew3];exact B2.alloc (by omega) _
 have e0:w3.heap[w.heap.size]? = some (.map #[] 0):=by rw[ew3,heap_alloc_old _ _ (by omega)];exact e0
 have e1:w3.heap[w.heap.size+1]? = some (.cells #[.map (some w.heap.size)] 105 (0,0)):=by rw[ew3,heap_alloc_old _ _ (by omega)];exact e1
 rw[← ew3,z2]at hI0;rw[← ew3,z2,ew2]at hrg;clear ew2 ew3 B2 hrange;have S0:SetAt w3 w.heap.size []:=.empty e0
 go_enter Try.func74,Try.ntmps74
 go_wp2
 go_loopw [] (fun wr=>Below w.heap.size w wr∧w3.heap.size≤wr.heap.size∧(∀ k,k<w3.heap.size→k≠w.heap.size→k≠w.heap.size+1+1→wr.heap[k]? = w3.heap[k]?)∧∃ done rem,(done++rem).Perm fs∧IterG M es wr (w.heap.size+1+1) rem∧SetAt wr w.heap.size (addF [] done))
  (fun wr=>itLeft es (w.heap.size+1+1) wr)
 case atStart=>exact⟨B3,A1 _,fun _ _ _ _=>rfl,[],fs,List.Perm.refl _,hI0,S0⟩
 case round =>
  obtain⟨hBr,hsz,hold,done,rem,hp,hI,hS⟩:=hrel;have hCr:=hC.below hBr
  rcases hI.next hCr 0 with ⟨rfl,hrun⟩ | ⟨j,f,v,wn,hj,hrun,hgr,hszn,hIn,hent⟩
  ·have hnx:∀ ty,(Instr.next (.pointer (some ⟨w.heap.size+1+1,0,none⟩)) false ty).run Try.prog wr=_:=fun _=>hrun
   have hpf:done.Perm fs:=by simpa using hp
   have N0:NT (addF [] done):=NT.empty.add.1
   have P0:(addF [] done).Perm (addF [] (gv.map A0)):=NT.perm N0 NT.empty.add.1 fun g=>by
    rw[NT.empty.add.2.1,NT.empty.add.2.1,hpf.mem_iff,← hfs.mem_iff]
   have W0:∀ p,p∈addF [] done→wfF p.1=true:=qfd NT.empty (P:=fun f=>wfF f=true) (fun f hf=>by
    have h1:=hfs.mem_iff.2 (hpf.mem_iff.1 hf);obtain⟨p,hp,rfl⟩:=List.mem_map.1 h1
    exact hwg p hp) (fun p hp=>by simp at hp)
   have J0:I2 l no r w wr true wr:=⟨hBr,A1 _,fun _ _ _=>rfl,addF [] done,hS,N0,W0,fun _=>⟨fuel,_,h,P0⟩,fun h=>by cases h⟩;have b1:wr.heap[w.heap.size+1]? = some (.cells #[.map (some w.heap.size)] 105 (0,0)):=(hold _ (by omega) (by omega) (by omega)).trans e1
   have z1:w.heap.size+1<wr.heap.size:=by omega
   clear e0 e1 hI0 hfs S0 hI hrun hS hold h P0 N0 W0 hwg hp hpf hgl B3 hrg
   go_wp2
   clear hnx;obtain⟨w7,rfl⟩:∃ w7,w7=wr:=⟨_,rfl⟩
   go_loopw [9] (fun b wx=>∃ bb:Bool,b=.bool bb∧I2 l no r w w7 bb wx) (fun b wx=>if boolOf b then 200000 - mapLen w.heap.size wx else 0)
   case atStart=>exact⟨true,rfl,J0⟩
   case round =>
    obtain⟨bb,rfl,hJ⟩:=hrel;obtain⟨jb,jz,jo,outp,jS,jN,jW,jt,jf⟩:=hJ;have c1:wr.heap[w.heap.size+1]? = some (.cells #[.map (some w.heap.size)] 105 (0,0)):=(jo _ z1 (by omega)).trans b1
    cases bb with
    | false =>
     have k1:=cell_of_one c1
     go_wp2
     go_ret
     exact⟨rfl,jb,outp,jS,jN,(by first | exact jf rfl | exact jf trivial),jW⟩
    | true =>
     obtain⟨n,outc,hcons,hpo⟩:=jt rfl
     cases n with
     | zero=>cases hcons
     | succ n =>
      obtain⟨hc1,hcons⟩:=qi (show chk (decide (outc.length≤100000)) ((freshL no outc l []).bind fun fr=>bif fr.isEmpty then some outc else consR l no n (addF outc fr))=some r from hcons);obtain⟨fr,hfr,hcons⟩:=qe hcons
      have hlo:outp.length≤100000:=by rw[hpo.length_eq];exact oT hc1
      obtain⟨w8,ew8⟩:∃ w8,w8=wr.alloc (.cells #[.slice none 0 0] 150):=⟨_,rfl⟩
      have z8:w8.heap.size=wr.heap.size+1:=by rw[ew8];simp
      have B8:Below w.heap.size w w8:=by rw[ew8];exact jb.alloc (by omega) _
      have b8:∀ k,k<wr.heap.size→w8.heap[k]? = wr.heap[k]?:=fun k hk=>by rw[ew8];exact heap_alloc_old _ _ hk
      have n8:w8.heap[wr.heap.size]? = some (.cells #[.slice none 0 0] 150 (0,0)):=by rw[ew8];exact heap_alloc_new _ _
      obtain⟨M1,eM1⟩:∃ M1,M1=mtail M w.heap.size wr:=⟨_,rfl⟩
      have C1:Cons M1 w8:=by rw[eM1,ew8];exact (HA hC jb).alloc _
      have s1:Sub M M1:=by rw[eM1];exact qah hC jb (A1 _)
      have RS:R M1 (mpE qj AV.bool outp) (.map (some w.heap.size)):=by rw[eM1];exact SetAt.freeze jS (A1 _)
      have m1:M1 (w.heap.size+1) 0=some (.map (some w.heap.size)):=by rw[eM1,XW (by omega)];exact qbA c1 rfl rfl
      have mo1:∀ b o,b<w.heap.size→M1 b o=M b o:=fun b o hb=>by rw[eM1,Ul hb]
      have mn1:∀ o,M1 wr.heap.size o=none:=fun o=>by
       rw[eM1,XW (by omega)]
       cases hm:mc wr wr.heap.size o with
       | none=>rfl
       | some u=>have:=UT hm;omega
      have F0:FS M1 w8 wr.heap.size outp ⟨0,[]⟩ [] [] M1 w8:=⟨C1,Sub.refl _,rfl,rfl,rfl,A1 _,fun _ _ _=>rfl,mn1,_,n8,by simpa[headsP,factsC] using World.ownsRow_nil w8 w8.heap.size 127 3,fun g hg=>by cases hg⟩;have HW8:=(show Hid (w8=_) from ew8);have HS:=(show Hid _ from jS);have HN:=(show Hid _ from jN);have Hjo:=(show Hid _ from jo);have HB8:=(show Hid _ from B8);have Hm1:=(show Hid _ from mo1);have Hn1:=(show Hid _ from mn1);clear ew8 eM1 jt jf hc1 n8 jS jo mo1 mn1 jb;obtain⟨w6,rfl⟩:∃ w6,w6=wr:=⟨_,rfl⟩
      go_wp2
      rw[← HW8.out]
      go_loopw [27] (fun i wx=>∃ k:Nat,k≤l.length∧i=.int .i64 k∧∃ M' acc' acc,Sub M1 M'∧FS M' w8 w6.heap.size outp ⟨0,[]⟩ acc' [] M' wx∧freshL no outc (l.drop k) acc=some fr∧acc'.Perm acc∧∀ f,f∈acc'→wfF f=true∧mget qu false f outp=false)
       (fun i _=>l.length - (RowKit.intOf i).toNat)
      case atStart=>exact⟨0,D4 _,rfl,M1,[],[],Sub.refl _,F0,hfr,List.Perm.refl _,fun f hf=>by simp at hf⟩
      case round =>
       obtain⟨k,hk,rfl,M2,acc2,acc,s2,F2,hfk,hpa,hwa⟩:=hrel
       rcases Nat.lt_or_ge k l.length with hk1 | hk1
       ·obtain⟨b,off,hv,bv,rfl,q0,q1,q2,rhv,rbv⟩:=hrules k _ (C7 hk1);rw[List.drop_eq_getElem_cons hk1]at hfk;have i0:(0:Int)≤(k:Int):=Int.natCast_nonneg _
        have i1:(k:Int)<(l.length:Int):=by omega
        obtain⟨ha,hac,rfl⟩:=Vn rhv;obtain⟨ba,bac,rfl⟩:=Vn rbv;have f0:=jK F2.cons (s2 _ _ _ (s1 _ _ _ q0)) rfl;have f1:=jK F2.cons (s2 _ _ _ (s1 _ _ _ q1)) rfl;have f2:=jK F2.cons (s2 _ _ _ (s1 _ _ _ q2)) rfl;generalize l[k]=x at hfk q0 q1 q2 rhv rbv f0 f1 f2;obtain⟨⟨hrel,hargs⟩,body⟩:=x;simp only[A5]at q1 q2 rhv rbv f1 f2
        have c4:∀ o,(wr.alloc o).cell? ⟨w.heap.size+1,0,none⟩=some (.map (some w.heap.size)):=fun o=>jK (F2.cons.alloc o) (s2 _ _ _ m1) rfl
        obtain⟨hcb,hfk⟩:=qi (show chk (decide (body.length≤1000)) ((tryP body no (byRelL outc) body (C9 8 0)).bind fun d=>chk (decide (acc.length+d.length≤900000000)&&headOk ⟨hrel,hargs⟩ d) (freshL no outc (l.drop (k+1)) (acc++headsP outc ⟨hrel,hargs⟩ d)))=some fr from hfk);obtain⟨dd,hdd,hfk⟩:=qe hfk;obtain⟨hcd,hfk⟩:=qi hfk;rw[C0,decide_eq_true_eq]at hcd;obtain⟨w9,ew9⟩:∃ w9,w9=wr.alloc (.cells #[.int .i64 hrel,.slice ha hargs.length hac,.slice ba body.length bac] 54):=⟨_,rfl⟩;obtain⟨M3,eM3⟩:∃ M3,M3=mbox M2 wr.heap.size #[.int .i64 hrel,.slice ha hargs.length hac,.slice ba body.length bac]:=⟨_,rfl⟩
        have s3:Sub M2 M3:=by rw[eM3];exact ZR F2.cons (A1 _)
        have s03:Sub M M3:=Sub.trans s1 (Sub.trans s2 s3)
        have t3c:∀ (j:Nat) u,(#[.int .i64 hrel,.slice ha hargs.length hac,.slice ba body.length bac]:Array Value)[j]? = some u→isTup u=false:=fun j u h=>by
         match j,h with
         | 0,h | 1,h | 2,h=>cases h;rfl
        have C3:Cons M3 w9:=by rw[eM3,ew9];exact qcZ (F2.cons.alloc _) (heap_alloc_new _ _) t3c
        have F3a:FS M2 w8 w6.heap.size outp ⟨0,[]⟩ acc2 [] M3 w9:=F2.grow (by omega) (by rw[ew9];exact (Below.refl _ _).alloc (A1 _) _) s3 (fun b o hb=>by rw[eM3,HE (by omega)]) C3
        have F3:FS M3 w8 w6.heap.size outp ⟨hrel,hargs⟩ acc2 [] M3 w9:=by
         have h1:=F3a.pack (M':=M3) (h2:=⟨hrel,hargs⟩) (Sub.refl _)
         simpa[headsP] using h1
        have g12:∀ j:Nat,M3 wr.heap.size j=(#[.int .i64 hrel,.slice ha hargs.length hac,.slice ba body.length bac]:Array Value)[j]?:=fun j=>by rw[eM3,NR]
        have cbk:=FS.cb (M0:=M3) (wR:=w8) (br:=wr.heap.size) (bo:=w.heap.size+1) (bfr:=w6.heap.size) (out:=outp) (rel:=hrel) (args:=hargs) (L0:=acc2) (by omega) (g12 0) (g12 1) (rhv.mono s03) (mo:=some w.heap.size) (s3 _ _ _ (s2 _ _ _ m1)) (RS.mono (Sub.trans s2 s3));have hpl:acc2.length=acc.length:=hpa.length_eq
        have hcall:=Try.inst116 (okD ⟨hrel,hargs⟩ acc2) 117 _ M3 _ cbk body outp no hrel (.slice ha hargs.length hac) (.slice ba body.length bac) w.heap.size mo [] M3 w9 F3 ⟨rfl,rfl⟩ (rbv.mono s03) (RS.mono (Sub.trans s2 s3)) (rn.mono s03) (fun p hp=>by
         have h1:=jW p hp;unfold wfF at h1;rw[C0,C0]at h1
         exact h1.1.1) hlo (oT hcb) (fun bl hbl=>by
         obtain⟨o2,ho2,hp2⟩:=qcJ (bl:=byRelL outc) (bl':=bl) (fun rel=>by
          rw[qav]
          exact (((hpo.map A0).symm).filter _).trans (hbl rel).symm) body _ _ hdd
         refine⟨o2,ho2,?_,fun v hv=>qbH hcd.2 v (hp2.mem_iff.2 (by simpa using hv))⟩;have h1:=hp2.length_eq;have h2:=hcd.1;rw[F6]
         omega)
        have HW9:=(show Hid (w9=_) from ew9);have HC:=(show Hid _ from hcall);clear ew9 eM3 hcall cbk F3 F3a g12 C3
        go_wp2_with fail
        rw[← HW9.out];refine Calls.mono HC.out ?_
        rintro e wt ⟨rfl,bl,o2,hbl,ho2,F4⟩
        go_wp2
        go_roundw
        case rel =>
         obtain⟨o3,ho3,hp3⟩:=qcJ (bl:=byRelL outc) (bl':=bl) (fun rel=>by
          rw[qav]
          exact (((hpo.map A0).symm).filter _).trans (hbl rel).symm) body _ _ hdd
         rw[ho2]at ho3;cases ho3;have F5:=F4.pack (M':=M3) (h2:=⟨0,[]⟩) (Sub.refl _);rw[F6]at F5;refine⟨k+1,hk1,by go_num,M3,_,_,Sub.trans s2 s3,F5,hfk,?_,fun f hf=>?_⟩
         ·rw[← qfn HN.out hpo];exact hpa.append (qej hp3.symm)
         ·rcases List.mem_append.1 hf with h1 | h1
          ·exact hwa f h1
          ·refine qif (d:=o2) ?_ f h1;unfold headOk;rw[E9];intro v hv;exact List.all_eq_true.1 hcd.2 v (hp3.mem_iff.2 hv)
        case measure=>simp[RowKit.intOf];omega
       ·have hkl:k=l.length:=by omega
        subst hkl;rw[List.drop_length]at hfk;have hfk:=Option.some.inj hfk;subst hfk;obtain⟨y1,y2,y3,y4,y5,y6,y7,y8,vc,y9,y10,y11⟩:=F2
        have hnil:acc2++headsP outp ⟨0,[]⟩ []=acc2:=by simp[headsP]
        rw[hnil]at y10;obtain⟨M4,eM4⟩:∃ M4,M4=mtail M (w.heap.size+1) wr:=⟨_,rfl⟩
        have hb5:∀ k,k<w.heap.size→wr.heap[k]? = w.heap[k]?:=fun k hk=>by rw[y7 k (by omega) (by omega)];exact HB8.out.block k hk
        have C4:Cons M4 wr:=fun b o u hu=>by
         rw[eM4]at hu;unfold mtail at hu;split at hu
         ·have h1:=hC _ _ _ hu;rw[XJ (hb5 b (UT h1))];exact h1
         ·exact hu
        have m4:∀ o,M4 w.heap.size o=none:=fun o=>by
         rw[eM4,Ul (by omega)]
         cases hm:M w.heap.size o with
         | none=>rfl
         | some u=>have:=UT (hC _ _ _ hm);omega
        have rv:R M4 (lF acc2) vc:=by rw[eM4];exact qjZ y10 (by omega)
        obtain⟨va,vcap,rfl,hvc⟩:=qbV rv
        have cm:∀ wx:World,wx.heap[w.heap.size+1]? = wr.heap[w.heap.size+1]?→wx.cell? ⟨w.heap.size+1,0,none⟩=some (.map (some w.heap.size)):=fun wx hx=>by
         refine cell_of_one (t:=105) ?_;rw[hx,y7 _ (by omega) (by omega),b8 _ (by omega)];exact c1
        have k10:wr.cell? ⟨w6.heap.size,0,none⟩=some (.slice va acc2.length vcap):=cell_of_one y9
        have S5:SetAt wr w.heap.size (addF outp (acc2.take 0)):=by
         have h0:addF outp (acc2.take 0)=outp:=by simp[addF]
         rw[h0];refine MapAt.of HS.out ?_;rw[y7 _ (by omega) (by omega),b8 _ (by omega)]
        have hal2:acc2.length≤900000000:=by rw[hpa.length_eq];exact qbO _ _ _ _ _ hfr (by simp)
        clear eM4 y2 y8 y11 rv hnil;obtain⟨w5,rfl⟩:∃ w5,w5=wr:=⟨_,rfl⟩
        go_wp2
        go_loopw [39] (fun i wx=>∃ k:Nat,k≤acc2.length∧i=.int .i64 k∧SetAt wx w.heap.size (addF outp (acc2.take k))∧wx.os=w5.os∧wx.tape=w5.tape∧wx.output=w5.output∧w5.heap.size≤wx.heap.size∧∀ j,j<w5.heap.size→j≠w.heap.size→wx.heap[j]? = w5.heap[j]?)
         (fun i _=>acc2.length - (RowKit.intOf i).toNat)
        case atStart=>exact⟨0,D4 _,rfl,S5,rfl,rfl,rfl,A1 _,fun _ _ _=>rfl⟩
        case round =>
         obtain⟨k,hk,rfl,hS,g1,g2,g3,g4,g5⟩:=hrel
         have C6:Cons M4 wr:=C4.of_blocks fun b o u hu hb=>g5 b hb fun e=>by rw[e,m4]at hu;cases hu
         rcases Nat.lt_or_ge k acc2.length with hk1 | hk1
         ·obtain⟨fb,fo,rfl,q0,q1,q2⟩:=hvc k _ (C7 hk1);have i0:(0:Int)≤(k:Int):=Int.natCast_nonneg _
          have i1:(k:Int)<(acc2.length:Int):=by omega
          have f0:=jK C6 q0 rfl;have f1:=jK C6 q1 rfl;have f2:=jK C6 q2 rfl
          have htk:addF outp (acc2.take (k+1))=mset qu acc2[k] true (addF outp (acc2.take k)):=by
           show List.foldl _ outp (acc2.take (k+1))=_;rw[List.take_add_one,C7 hk1,Option.toList_some,List.foldl_append];rfl
          have hwk:=(hwa _ (List.getElem_mem hk1)).1;have hlk:=qci (acc2.take k) outp;rw[List.length_take]at hlk;generalize acc2[k]=x at q0 q1 q2 f0 f1 f2 htk hwk;obtain⟨w4,ew4⟩:∃ w4,w4=wr.alloc (.cells #[.int .i64 x.qr,.int .i64 x.f_a,.int .i64 x.f_b] 127):=⟨_,rfl⟩
          have z4:w4.heap.size=wr.heap.size+1:=by rw[ew4];simp
          have b4:∀ k,k<wr.heap.size→w4.heap[k]? = wr.heap[k]?:=fun k hk=>by rw[ew4];exact heap_alloc_old _ _ hk
          have n9:w4.heap[wr.heap.size]? = some (.cells #[.int .i64 x.qr,.int .i64 x.f_a,.int .i64 x.f_b] 127 (0,0)):=by rw[ew4];exact heap_alloc_new _ _
          have k1:=cm w4 ((b4 _ (by omega)).trans (g5 _ (by omega) (by omega)))
          have k2:w4.cell? ⟨wr.heap.size,0,none⟩=some (.int .i64 x.qr):=by simp[A3,n9]
          have k3:w4.cell? ⟨wr.heap.size,1,none⟩=some (.int .i64 x.f_a):=by simp[A3,n9]
          have k4:w4.cell? ⟨wr.heap.size,2,none⟩=some (.int .i64 x.f_b):=by simp[A3,n9]
          have S4:SetAt w4 w.heap.size (addF outp (acc2.take k)):=hS.of (b4 _ (by omega));obtain⟨o',hup,S6⟩:=S4.put hwk (by omega)
          have g0:w4.os=w5.os∧w4.tape=w5.tape∧w4.output=w5.output:=by rw[ew4];exact⟨g1,g2,g3⟩
          have HG:=(show Hid _ from g0);have HT:=(show Hid _ from htk);have HS6:=(show Hid _ from S6);have HW:=(show Hid (w4=_) from ew4);rw[ew4]at k1 k2 k3 k4 hup;clear ew4 S4 S6 n9 g0 hS htk
          go_wp2
          rw[← HW.out]
          go_roundw
          case rel =>
           refine⟨k+1,hk1,by go_num,by rw[HT.out];exact HS6.out,HG.out.1,HG.out.2.1,HG.out.2.2,by rw[setBlock_size];omega,fun j hj hne=>?_⟩;rw[setBlock_other hne,b4 j (by omega),g5 j hj hne]
          case measure=>simp[RowKit.intOf];omega
         ·have hkl:k=acc2.length:=by omega
          subst hkl;rw[List.take_length]at hS;have k11:wr.cell? ⟨w6.heap.size,0,none⟩=some (.slice va acc2.length vcap):=cell_of_one ((g5 _ (by omega) (by omega)).trans y9);have N2:NT outp:=HN.out
          have hJ2:∀ bb:Bool,(bb=true→∃ n outc,consR l no n outc=some r∧(addF outp acc2).Perm outc)→(bb=false→(addF outp acc2).Perm r)→I2 l no r w w7 bb wr:=fun bb h1 h2=>by
           refine⟨⟨?_,?_,?_,?_,fun k hk=>?_⟩,by omega,fun k hk hne=>?_,addF outp acc2,hS,N2.add.1,qfd N2 (P:=fun f=>wfF f=true) (fun f hf=>(hwa f hf).1) (fun p hp=>jW p hp),h1,h2⟩
           ·rw[g1,y3];exact HB8.out.os
           ·rw[g2,y4];exact HB8.out.tape
           ·rw[g3,y5];exact HB8.out.output
           ·omega
           ·rw[g5 k (by omega) (by omega)];exact hb5 k hk
           ·rw[g5 k (by omega) hne,y7 k (by omega) (by omega),b8 k (by omega)];exact Hjo.out k hk hne
          have HJ2:=(show Hid _ from hJ2);have hml:mapLen w.heap.size wr=(addF outp acc2).length:=hS.len;have hml0:mapLen w.heap.size w6=outp.length:=SetAt.len HS.out;clear hJ2 hS;by_cases h0:acc2=[]
          ·subst h0
           go_wp2
           go_roundw
           case rel =>
            refine⟨false,rfl,HJ2.out false (fun h=>by cases h) fun _=>?_⟩
            have h1:acc=[]:=by have:=hpa.length_eq;exact D5 this.symm
            subst h1;have h2:outc=r:=Option.some.inj hcons;rw[← h2];exact hpo
           case measure =>
            simp only[boolOf];rw[hml0];simp;omega
          ·have hpos:(0:Int)<(acc2.length:Int):=by have:=List.length_pos_iff.2 h0;omega
           go_wp2
           go_roundw
           case rel =>
            refine⟨true,by rw[dT (List.length_pos_iff.2 h0)],HJ2.out true (fun _=>?_) (fun h=>by cases h)⟩
            have h1:acc.isEmpty=false:=by
             cases acc with
             | nil=>exact absurd (D5 hpa.length_eq) h0
             | cons a b=>rfl
            rw[h1]at hcons;have NC:NT outc:=N2.of_perm hpo;refine⟨n,_,hcons,NT.perm N2.add.1 NC.add.1 fun g=>?_⟩;rw[N2.add.2.1,NC.add.2.1,hpa.mem_iff,(hpo.map A0).mem_iff]
           case measure =>
            have hd:decide (0<acc2.length)=true:=dT (List.length_pos_iff.2 h0);simp only[boolOf,hd,if_true];rw[hml0,hml];obtain⟨f,hf⟩:=List.exists_mem_of_ne_nil _ h0
            have h1:=N2.add.2.2.2 f hf (fun h=>by
             have h2:=(NT.mget N2.t f).2 h;rw[(hwa f hf).2]at h2
             cases h2)
            omega
  ·have hnx:∀ ty,(Instr.next (.pointer (some ⟨w.heap.size+1+1,0,none⟩)) false ty).run Try.prog wr=_:=fun _=>hrun
   have Cn:Cons M wn:=hCr.of_blocks fun b o u hu hb=>hgr.block b hb fun e=>by have:=UT (hC _ _ _ hu);cases e;omega
   have hen:=hent wn rfl Cn;have hfm:f∈fs:=hp.mem_iff.1 (F8 _ (H5 hj))
   have hwf1:wfF f=true:=by
    have h1:=hfs.mem_iff.2 hfm;obtain⟨p,hp,rfl⟩:=List.mem_map.1 h1;exact hwg p hp
   have hlen:done.length+rem.length≤100000:=by
    have h1:=hp.length_eq;have h2:=hfs.length_eq;rw[A8]at h1;rw[A5]at h2;omega
   have hjl:=(List.getElem?_eq_some_iff.1 hj).1;have hal:=qci done [];rw[List.length_nil]at hal;obtain⟨w4,ew4⟩:∃ w4,w4=wn.alloc (.cells #[.int .i64 f.qr,.int .i64 f.f_a,.int .i64 f.f_b] 127):=⟨_,rfl⟩
   have z4:w4.heap.size=wr.heap.size+1:=by rw[ew4];simp[hszn]
   have b4:∀ k,k<wr.heap.size→k≠w.heap.size+1+1→w4.heap[k]? = wr.heap[k]?:=fun k hk hne=>by
    rw[ew4,heap_alloc_old _ _ (by omega)];exact hgr.block k hk (fun e=>hne (Option.some.inj e))
   have n9:w4.heap[wr.heap.size]? = some (.cells #[.int .i64 f.qr,.int .i64 f.f_a,.int .i64 f.f_b] 127 (0,0)):=by rw[ew4,← hszn];exact heap_alloc_new _ _
   have n1:w4.heap[w.heap.size+1]? = some (.cells #[.map (some w.heap.size)] 105 (0,0)):=by rw[b4 _ (by omega) (by omega),hold _ (by omega) (by omega) (by omega)];exact e1
   have k1:=cell_of_one n1
   have k2:w4.cell? ⟨wr.heap.size,0,none⟩=some (.int .i64 f.qr):=by simp[A3,n9]
   have k3:w4.cell? ⟨wr.heap.size,1,none⟩=some (.int .i64 f.f_a):=by simp[A3,n9]
   have k4:w4.cell? ⟨wr.heap.size,2,none⟩=some (.int .i64 f.f_b):=by simp[A3,n9]
   have S4:SetAt w4 w.heap.size (addF [] done):=hS.of (b4 _ (by omega) (by omega));obtain⟨o',hup,S5⟩:=S4.put hwf1 (by omega)
   have g0:w4.os=w.os∧w4.tape=w.tape∧w4.output=w.output:=by rw[ew4];exact⟨hgr.os.trans hBr.os,hgr.tape.trans hBr.tape,hgr.output.trans hBr.output⟩
   have hi4:w4.heap[w.heap.size+1+1]? = wn.heap[w.heap.size+1+1]?:=by rw[ew4,heap_alloc_old _ _ (by omega)]
   have HS:=(show Hid _ from S5);have HG:=(show Hid _ from g0);have HW:=(show Hid (w4=_) from ew4);rw[ew4]at k1 k2 k3 k4 hup;clear ew4 S4 S5 n9 n1 g0 hS
   go_wp2
   rw[← HW.out]
   go_roundw
   case rel =>
    have hall:∀ k,k<wr.heap.size→k≠w.heap.size→k≠w.heap.size+1+1→(setBlock w4 w.heap.size o').heap[k]? = wr.heap[k]?:=fun k hk h1 h2=>by rw[setBlock_other h1,b4 k hk h2]
    refine⟨⟨HG.out.1,HG.out.2.1,HG.out.2.2,by rw[setBlock_size];omega,fun k hk=>?_⟩,by rw[setBlock_size];omega,fun k hk h1 h2=>?_,done++[f],rem.eraseIdx j,?_,hIn.of ?_,?_⟩
    ·rw[hall k (by omega) (by omega) (by omega)];exact hBr.block k hk
    ·rw[hall k (by omega) h1 h2];exact hold k hk h1 h2
    ·refine List.Perm.trans ?_ hp;rw[G1];refine List.Perm.append_left _ ?_;have h1:=qfy rem j hjl;rw[(List.getElem?_eq_some_iff.1 hj).2]at h1;exact h1.symm
    ·rw[setBlock_other (by omega)];exact hi4
    ·have:addF [] (done++[f])=mset qu f true (addF [] done):=by simp[addF]
     rw[this];exact HS.out
   case measure =>
    have h1:=(hIn.of (w':=setBlock w4 w.heap.size o') (by rw[setBlock_other (by omega)];exact hi4)).left;rw[h1,hI.left,A6,if_pos hjl];omega
theorem Try.cons74 {fuel:Nat} {l:List ruRule} {gv no r:List (rufact×Bool)} (h:consP fuel l gv no=some r):CallOk Try.prog 74 [l54 none l,mpE qj AV.bool gv,mpE qj AV.bool no] (mpE qj AV.bool r):=by
 intro M w vs hG hC hl hR
 obtain⟨lv,gvv,nov,rfl⟩:∃ a b c,vs=[a,b,c]:=by
  match vs,hl with
  | [a,b,c],_=>exact⟨a,b,c,rfl⟩
 refine Calls.mono (Try.cons74o h hC (hR 0 _ lv rfl rfl) (hR 1 _ gvv rfl rfl) (hR 2 _ nov rfl rfl)) ?_
 rintro e w' ⟨rfl,hB,outp,hS,_,hp,_⟩
 exact⟨_,mtail M w.heap.size w',rfl,hB,qah hC hB (A1 _),HA hC hB,fun b o hb=>Ul hb,qiH hp (SetAt.freeze hS (A1 _)),trivial⟩
end Go.Proofs
