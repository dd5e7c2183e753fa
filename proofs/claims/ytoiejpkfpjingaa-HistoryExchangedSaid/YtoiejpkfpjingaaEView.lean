import Derived.Test.YtoiejpkfpjingaaEMap
import Derived.Test.YtoiejpkfpjingaaECyc3
import Derived.Test.YtoiejpkfpjingaaASimJ
import Derived.Test.YtoiejpkfpjingaaChecked
import Derived.Laws.EntriesVeiled
import Derived.StillTailTactics
import Derived.BigQuiet
import Derived.Deep.QuietTactic
set_option linter.all false
set_option maxRecDepth 100000
open Go.World renaming cell?→A0, frozen?→A7
open List renaming getElem_toArray→A1, getElem_cons_succ→A2, getElem_cons_zero→A3, setIfInBounds_toArray→A4, set_cons_zero→A5, set_cons_succ→A6, getElem?_map→A9, getElem?_eq_getElem→D0, getElem?_concat_length→D2, getElem?_append_left→D3, drop_eq_getElem_cons→D4
open Array renaming getElem?_eq_getElem→A8, getElem?_modify→B7, getElem?_push→B8
open Option renaming map_eq_some_iff→B3
open Nat renaming le_refl→B4
open Go.MapKept renaming run_getObj_map→B5, run_setObj_map→D1
open Go.Result renaming andThen→B6
namespace Go.Proofs
open Go.RowKit Go.AM
open Go.ChangeMaps (setBlock)
abbrev lI (l:List Int):AV:=.lst 3 1 none (cL l)
theorem Zp (l m:List Int):intsV (l++m)=intsV l++intsV m:=by simp[intsV]
abbrev kE (bl:List (Int×List Int)):List AV:=bl.map fun p=>AV.int .i64 p.1
abbrev tE (bl:List (Int×List Int)):List AV:=bl.map fun _=>AV.top
structure ByRel (w:World) (base gm:Nat) (bl:List (Int×List Int)) (es:Array MapEntry) (clock:Nat):Prop where
 at':w.heap[gm]? = some (.map es clock)
 ent:EntOk (fun _ _=>none) es clock (kE bl) (tE bl)
 row:∀ (j:Nat) p e,bl[j]? = some p→es[j]? = some e→p.2≠[]∧w.ownsRow base 3 1 e.val p.2.length (intsV p.2)
 apart:∀ (i j:Nat) e f g,es[i]? = some e→es[j]? = some f→e.val.ownBlock=some g→f.val.ownBlock=some g→i=j
 lt:gm<base
theorem ByRel.below {w w':World} {base gm:Nat} {bl:List (Int×List Int)} {es:Array MapEntry} {clock:Nat} (h:ByRel w base gm bl es clock) (hB:∀ k,k<w.heap.size→(k=gm∨base≤k)→w'.heap[k]? = w.heap[k]?):ByRel w' base gm bl es clock:=by
 obtain⟨h1,h2,h3,h4,h5⟩:=h;refine⟨(hB gm (lt_of_block h1) (.inl rfl)).trans h1,h2,fun j p e hp he=>⟨(h3 j p e hp he).1,?_⟩,h4,h5⟩;obtain⟨q1,q2⟩:=(h3 j p e hp he).2;refine⟨q1,?_⟩
 rcases q2 with hn | ⟨g,cap,cur,hv,hb,hgg,rest⟩
 ·exact .inl hn
 ·exact .inr ⟨g,cap,cur,hv,hb,by rw[hB g (lt_of_block hgg) (.inr hb)];exact hgg,rest⟩
theorem fits3 (x:Int):keyFits Try.prog 3 (AV.int .i64 x)=true:=by kernel_rfl
theorem qaM (x y:Int):akeq (AV.int .i64 x) (AV.int .i64 y)=keq1 x y:=by simp[akeq,keq1,kbeq]
theorem Ue (k:Int):∀ bl:List (Int×List Int),(∃ j l,findA (AV.int .i64 k) (kE bl)=some j∧bl[j]? = some (k,l)∧mget keq1 [] k bl=l∧∀ m,mset keq1 k m bl=bl.set j (k,m))∨(findA (AV.int .i64 k) (kE bl)=none∧mget keq1 [] k bl=[]∧∀ m,mset keq1 k m bl=bl++[(k,m)])
 | []=>.inr ⟨rfl,rfl,fun m=>rfl⟩
 | p::r=>by
  have ih:=Ue k r;simp only[kE,List.map_cons,findA,mget,mset,qaM]at ih ⊢
  cases hq:keq1 p.1 k with
  | true =>
   have:p.1=k:=by simpa[keq1] using hq
   subst this;exact .inl ⟨0,p.2,rfl,rfl,rfl,fun m=>rfl⟩
  | false =>
   simp only[cN]
   rcases ih with ⟨j,l,h1,h2,h3,h4⟩ | ⟨h1,h2,h3⟩
   ·rw[h1];exact .inl ⟨j+1,l,rfl,by simpa using h2,h3,fun m=>by rw[h4];rfl⟩
   ·rw[h1];exact .inr ⟨rfl,h2,fun m=>by rw[h3];rfl⟩
theorem ByRel.step {w:World} {base gm:Nat} {bl:List (Int×List Int)} {es:Array MapEntry} {clock:Nat} (h:ByRel w base gm bl es clock) {k:Int} (hwf:wfI .i64 k=true) (hlen:bl.length<1000000000) :
  ∃ v24,(∀ w',w'.heap[gm]? = some (.map es clock)→(Instr.lookup 87 (.map (some gm)) (.int .i64 k) false).run Try.prog w'=.ok v24 w')∧w.ownsRow base 3 1 v24 (mget keq1 [] k bl).length (intsV (mget keq1 [] k bl)) ∧
   ∀ (x:Int) (vv:Value) (g:Nat) (w2:World),w.grownBy w2 v24.ownBlock→w2.ownsRow base 3 1 vv ((mget keq1 [] k bl).length+1) (intsV (mget keq1 [] k bl)++[.int .i64 x])→vv.ownBlock=some g→(v24.ownBlock=some g∨w.heap.size≤g) →
    ∃ es' clock',(Instr.mapUpdate 87 (.map (some gm)) (.int .i64 k) vv).run Try.prog w2=.ok () (setBlock w2 gm (.map es' clock'))∧ByRel (setBlock w2 gm (.map es' clock')) base gm (mset keq1 k (mget keq1 [] k bl++[x]) bl) es' clock':=by
 obtain⟨h1,E,h3,h4,h5⟩:=h
 have ht:JC Try.prog 87=some (3,24):=by kernel_rfl
 have ht':=JB ht
 have hkv:(AV.int .i64 k).keyV=some (.int .i64 k):=by simp only[AV.keyV,hwf]
 have hall:(kE bl).all (keyFits Try.prog 3)=true:=by
  rw[List.all_map,List.all_eq_true]
  exact fun p _=>fits3 p.1
 have fnd:=fun w=>XM (P:=Try.prog) (w:=w) (fits3 k) hkv hall E
 obtain⟨E1,E2,E3,E4,E5,E6⟩:=E
 have hsz:es.size=bl.length:=by simpa[kE] using E3.symm
 have hzero:∀ w,(zeroValue 24).run Try.prog w=.ok (.slice none 0 0) w:=Try.zeroValue24
 have kept:∀ {w2:World} {row:Option Nat},w.grownBy w2 row→∀ (j:Nat) p e,bl[j]? = some p→es[j]? = some e→(e.val.ownBlock=none∨e.val.ownBlock≠row)→∀ es' clock',(setBlock w2 gm (.map es' clock')).ownsRow base 3 1 e.val p.2.length (intsV p.2):=by
  intro w2 row hg j p e hp he hne es' clock';have h6:=World.ownsRow.kept (h3 j p e hp he).2 hg hne;obtain⟨q1,q2⟩:=h6;refine⟨q1,?_⟩
  rcases q2 with hn | ⟨g,cap,cur,hv,hb,hgg,rest⟩
  ·exact .inl hn
  ·exact .inr ⟨g,cap,cur,hv,hb,by rw[QS (by omega)];exact hgg,rest⟩
 have keptN:∀ {w2:World} {vv:Value} {n:Nat} {xs:List Value},w2.ownsRow base 3 1 vv n xs→∀ es' clock',(setBlock w2 gm (.map es' clock')).ownsRow base 3 1 vv n xs:=by
  intro w2 vv n xs h6 es' clock';obtain⟨q1,q2⟩:=h6;refine⟨q1,?_⟩
  rcases q2 with hn | ⟨g,cap,cur,hv,hb,hgg,rest⟩
  ·exact .inl hn
  ·exact .inr ⟨g,cap,cur,hv,hb,by rw[QS (by omega)];exact hgg,rest⟩
 have hlt:∀ (j:Nat) e g,es[j]? = some e→e.val.ownBlock=some g→g<w.heap.size∧gm≠g:=by
  intro j e g he hg
  have hj:j<bl.length:=by rw[← hsz];exact (Array.getElem?_eq_some_iff.1 he).1
  have:=(h3 j _ e (D0 hj) he).2.lt g hg;omega
 rcases Ue k bl with ⟨j,l,a1,a2,a3,a4⟩ | ⟨a1,a2,a3⟩
 ·
  obtain⟨e0,he0⟩:∃ e0,es[j]? = some e0:=by
   have:j<es.size:=by rw[hsz];exact (List.getElem?_eq_some_iff.1 a2).1
   exact⟨_,A8 this⟩
  have hf:∀ w',(Instr.findKey 3 (.int .i64 k) es.toList).run Try.prog w'=.ok (some (j,e0.val)) w'∧e0.key=.int .i64 k:=fun w'=>by
   obtain⟨_,_,hfd⟩:=fnd w'
   rcases hfd with ⟨k1,_,_⟩ | ⟨j',e',k1,k2,k3,k4⟩
   ·rw[a1]at k1;cases k1
   ·rw[a1]at k1;cases k1
    have:es[j]? = some e':=by simpa using k3
    rw[this]at he0;cases he0;exact⟨k2,k4⟩
  have hrow:=h3 j _ e0 a2 he0;simp only[a3,a4];refine⟨e0.val,fun w' hb=>?_,hrow.2,fun x vv g w2 hg ho hvg hat=>⟨es.modify j (fun e'=>{ e' with key:=.int .i64 k,val:=vv }),clock,?_,⟨Vf ((hg.block gm (lt_of_block h1) (fun e=>(hlt j e0 gm he0 e.symm).2 rfl)).trans h1),⟨MapKept.stamped_modify E1 _ _ (fun _ _=>rfl) (fun e' _ he'=>by rw[he0]at he';cases he';exact ((hf w).2).symm),by simpa using E2,by simp[kE,hsz],by simp[tE,hsz],fun i k' e' hk' he'=>?_,fun i v' e' hv' he'=>?_⟩,fun i p e' hp he'=>?_,fun i i' e f gg he hf' g1 g2=>?_,h5⟩⟩⟩
  ·obtain⟨hck,_,_⟩:=fnd w';have hj:es[j]? = some e0:=he0;simp[Instr.lookup,run_underlying ht',B5 hb,hck,(hf w').1,hj,B6]
  ·have hb2:w2.heap[gm]? = some (.map es clock):=(hg.block gm (lt_of_block h1) (fun e=>(hlt j e0 gm he0 e.symm).2 rfl)).trans h1;obtain⟨hck,hst,_⟩:=fnd w2;have f4:=(hf w2).2;simp[Instr.mapUpdate,run_underlying ht',B5 hb2,hck,(hf w2).1,he0,f4,hst,D1 _ hb2,B6,setBlock]
  ·rw[B7]at he';simp only[kE,A9,B3]at hk';obtain⟨p,hp,rfl⟩:=hk';rw[List.getElem?_set]at hp;split at he'
   ·rename_i hij;subst hij;rw[he0]at he';cases he';rw[if_pos rfl]at hp;split at hp
    ·cases hp;exact hkv
    ·cases hp
   ·rename_i hij;rw[if_neg hij]at hp;exact E5 i _ e' (by simp[kE,hp]) he'
  ·simp only[tE,A9,B3]at hv';obtain⟨_,_,rfl⟩:=hv';exact .top _
  ·rw[B7]at he';rw[List.getElem?_set]at hp;split at he'
   ·rename_i hij;subst hij;rw[he0]at he';cases he';rw[if_pos rfl]at hp;split at hp
    ·cases hp;refine⟨by simp,?_⟩;rw[Zp,List.length_append];exact keptN ho _ _
    ·cases hp
   ·rename_i hij;rw[if_neg hij]at hp;refine⟨(h3 i p e' hp he').1,kept hg i p e' hp he' ?_ _ _⟩
    cases hob:e'.val.ownBlock with
    | none=>exact .inl rfl
    | some b=>exact .inr fun e=>hij (h4 j i e0 e' b he0 he' e.symm hob)
  ·
   rw[B7]at he hf';split at he <;> split at hf'
   ·rename_i q1 q2;omega
   ·rename_i q1 q2;subst q1;rw[he0]at he;cases he;have g1':vv.ownBlock=some gg:=g1;rw[hvg]at g1';cases g1'
    rcases hat with h6 | h6
    ·exact absurd (h4 j i' e0 f _ he0 hf' h6 g2) q2
    ·have:=(hlt i' f _ hf' g2).1;omega
   ·rename_i q1 q2;subst q2;rw[he0]at hf';cases hf';have g2':vv.ownBlock=some gg:=g2;rw[hvg]at g2';cases g2'
    rcases hat with h6 | h6
    ·exact absurd (h4 j i e0 e _ he0 he h6 g1) q1
    ·have:=(hlt i e _ he g1).1;omega
   ·exact h4 i i' e f gg he hf' g1 g2
 ·
  have hf:∀ w',(Instr.findKey 3 (.int .i64 k) es.toList).run Try.prog w'=.ok none w'∧(∀ e∈es.toList,e.key≠.int .i64 k):=fun w'=>by
   obtain⟨_,_,hfd⟩:=fnd w'
   rcases hfd with ⟨k1,k2,k3⟩ | ⟨j',e',k1,k2,k3,k4⟩
   ·exact⟨k2,k3⟩
   ·rw[a1]at k1;cases k1
  simp only[a2,a3];refine⟨.slice none 0 0,fun w' hb=>?_,World.ownsRow_nil _ _ _ _,fun x vv g w2 hg ho hvg hat=>⟨es.push ⟨.int .i64 k,vv,clock⟩,clock+1,?_,⟨Vf ((hg.block gm (lt_of_block h1) (fun e=>by cases e)).trans h1),⟨MapKept.stamped_push E1 (hf w).2,by simp[maxLen];omega,by simp[kE,hsz],by simp[tE,hsz],fun i k' e' hk' he'=>?_,fun i v' e' hv' he'=>?_⟩,fun i p e' hp he'=>?_,fun i i' e f gg he hf' g1 g2=>?_,h5⟩⟩⟩
  ·obtain⟨hck,_,_⟩:=fnd w';simp[Instr.lookup,run_underlying ht',B5 hb,hck,(hf w').1,hzero,B6]
  ·have hb2:w2.heap[gm]? = some (.map es clock):=(hg.block gm (lt_of_block h1) (fun e=>by cases e)).trans h1;obtain⟨hck,hst,_⟩:=fnd w2;simp[Instr.mapUpdate,run_underlying ht',B5 hb2,hck,(hf w2).1,D1 _ hb2,B6,setBlock]
  ·rw[B8]at he';simp only[kE,A9,B3]at hk';obtain⟨p,hp,rfl⟩:=hk';split at he'
   ·rename_i hi;cases he';rw[hi,hsz,D2]at hp;cases hp;exact hkv
   ·have hi:=(Array.getElem?_eq_some_iff.1 he').1;rw[D3 (by omega)]at hp;exact E5 i _ e' (by simp[kE,hp]) he'
  ·simp only[tE,A9,B3]at hv';obtain⟨_,_,rfl⟩:=hv';exact .top _
  ·rw[B8]at he';split at he'
   ·rename_i hi;cases he';rw[hi,hsz,D2]at hp;cases hp;refine⟨by simp,?_⟩;have:=keptN ho (es.push ⟨.int .i64 k,vv,clock⟩) (clock+1)
    simpa[intsV] using this
   ·have hi:=(Array.getElem?_eq_some_iff.1 he').1;rw[D3 (by omega)]at hp;exact⟨(h3 i p e' hp he').1,kept hg i p e' hp he' (by cases hob:e'.val.ownBlock with | none=>exact .inl rfl | some b=>exact .inr fun e=>by cases e) _ _⟩
  ·rw[B8]at he hf'
   have hnew:∀ (i:Nat) e',es[i]? = some e'→e'.val.ownBlock=some g→False:=fun i e' he' hg'=>by
    have:=(hlt i e' _ he' hg').1
    rcases hat with h6 | h6
    ·cases h6
    ·omega
   split at he <;> split at hf'
   ·omega
   ·cases he;have g1':vv.ownBlock=some gg:=g1;rw[hvg]at g1';cases g1';exact (hnew i' f hf' g2).elim
   ·cases hf';have g2':vv.ownBlock=some gg:=g2;rw[hvg]at g2';cases g2';exact (hnew i e he g1).elim
   ·exact h4 i i' e f gg he hf' g1 g2
theorem YV (k rel:Int) (l:List Int):∀ bl:List (Int×List Int),mget keq1 [] rel (mset keq1 k l bl)=if rel=k then l else mget keq1 [] rel bl
 | []=>by
  simp only[mset,mget,keq1];by_cases h:rel=k
  ·subst h;simp
  ·have:(k == rel)=false:=by simp;omega
   simp[this,h]
 | p::r=>by
  have ih:=YV k rel l r;simp only[mset]
  cases hq:keq1 p.1 k with
  | true =>
   have hpk:p.1=k:=by simpa[keq1] using hq
   simp only[cond_true,mget,keq1,hpk];by_cases h:rel=k
   ·subst h;simp[hpk]
   ·have h2:(k == rel)=false:=by simp;omega
    rw[h2];simp[h]
  | false =>
   have hpk:¬ p.1=k:=by simpa[keq1] using hq
   simp only[cN,mget];rw[ih];by_cases h:rel=k
   ·subst h;rw[hq];simp
   ·simp[h]
theorem Nd (k:Int) (l:List Int):∀ bl:List (Int×List Int),(mset keq1 k l bl).length≤bl.length+1
 | []=>by simp[mset]
 | p::r=>by
  have:=Nd k l r;unfold mset;cases keq1 p.1 k <;> simp <;> omega
def mtail (M:Mem) (B:Nat) (w:World):Mem:=fun b o=>if b<B then M b o else mc w b o
theorem Nb {M:Mem} {B b o:Nat} {w:World} (h:b<B):mtail M B w b o=M b o:=by unfold mtail;rw[if_pos h]
theorem Nc {M:Mem} {B b o:Nat} {w:World} (h:B≤b):mtail M B w b o=mc w b o:=by unfold mtail;rw[if_neg (by omega)]
theorem qas {M:Mem} {B:Nat} {w0 w:World} (hC:Cons M w0) (hB:Below B w0 w):Cons (mtail M B w) w:=fun b o u hu=>by
 unfold mtail at hu;split at hu
 ·rename_i h;have h1:=hC _ _ _ hu;rw[Ji (hB.block b h)];exact h1
 ·exact hu
theorem qbi {M:Mem} {B:Nat} {w0 w:World} (hC:Cons M w0) (hB:Below B w0 w) (hb:w0.heap.size≤B):Sub M (mtail M B w):=fun b o u hu=>by
 rw[Nb (by have:=XV (hC _ _ _ hu);omega)];exact hu
theorem XW {w:World} {b o:Nat} {t:TypeId} {fz:Nat×Nat} {cs:Array Value} {u:Value} (h:w.heap[b]? = some (.cells cs t fz)) (hu:cs[o]? = some u) (ht:isTup u=false):mc w b o=some u:=by
 unfold mc;rw[h];exact qW hu ht
theorem qcP {M:Mem} {w:World} {base B:Nat} {v:Value} {l:List Int} (h:w.ownsRow base 3 1 v l.length (intsV l)) (hB:B≤base):R (mtail M B w) (lI l) v:=by
 obtain⟨q1,q2⟩:=h
 rcases q2 with ⟨rfl,h0⟩ | ⟨g,cap,cur,rfl,hb,hg,hn,hm,hs,ht⟩
 ·have:l=[]:=List.eq_nil_of_length_eq_zero h0;subst this;exact .lstn _ _ _
 ·refine Hh hn fun j hj=>?_
  have h1:=congrArg (fun l=>l[j]?) ht;simp only[List.getElem?_take,Array.getElem?_toList]at h1
  have hu:(intsV l)[j]? = some (.int .i64 l[j]):=by simp[intsV,hj]
  rw[hu]at h1;split at h1
  ·rw[Nc (by omega),Nat.zero_add];exact XW hg h1 rfl
  ·cases h1
theorem ByRel.freeze {M:Mem} {w:World} {base gm B:Nat} {bl:List (Int×List Int)} {es:Array MapEntry} {clock:Nat} (h:ByRel w base gm bl es clock) (hB:B≤gm):R (mtail M B w) (mpE (AV.int .i64) lI bl) (.map (some gm)):=by
 obtain⟨h1,⟨E1,E2,E3,E4,E5,E6⟩,h3,h4,h5⟩:=h
 refine .mpv (by rw[Nc hB];exact Yx h1) E1 E2 E3 (by simpa[kE] using E3) E5 fun j v e hv he=>?_
 simp only[A9,B3]at hv;obtain⟨p,hp,rfl⟩:=hv;exact qcP (h3 j p e hp he).2 (by omega)
theorem Ni {M:Mem} {e k:Nat} {xs:List AV} {v:Value} (h:R M (.lst e k none xs) v):∃ a cap,v=.slice a xs.length cap∧∀ i x,xs[i]? = some x→∃ b off,a=some ⟨b,off,none⟩∧∀ j c,x.cells[j]? = some c→∃ u,M b (off+(i * k+j))=some u∧R M c u:=by
 cases h with
 | lstn=>exact⟨none,0,rfl,fun i x hx=>by simp at hx⟩
 | lste _ _ _ ad cap=>exact⟨some ad,cap,rfl,fun i x hx=>by simp at hx⟩
 | lst us h1 h2 h5 h3 h4 =>
  rename_i b off cap;refine⟨some ⟨b,off,none⟩,cap,rfl,fun i x hx=>⟨b,off,rfl,fun j c hc=>?_⟩⟩;have hk:=h2 x (List.mem_of_getElem? hx)
  have hj:j<k:=by rw[← hk];exact (List.getElem?_eq_some_iff.1 hc).1
  have hf:=(JW h2 hx j hj).trans hc;exact⟨us (i * k+j),h3 _ _ hf,h4 _ _ hf⟩
theorem Zk {M:Mem} {l:List hsOp} {v:Value} (h:R M (l44 none l) v):∃ a cap,v=.slice a l.length cap∧∀ i x,l[i]? = some x→∃ b off,a=some ⟨b,off,none⟩∧M b (off+i * 3)=some (.int .i64 x.qa)∧M b (off+i * 3+1)=some (.int .i64 x.qb)∧M b (off+i * 3+2)=some (.int .i64 x.qc):=by
 obtain⟨a,cap,rfl,hc⟩:=Ni h;refine⟨a,cap,by rw[List.length_map],fun i x hx=>?_⟩;obtain⟨b,off,rfl,hcell⟩:=hc i (qR x) (by simp[hx]);obtain⟨u0,h0,r0⟩:=hcell 0 _ rfl;obtain⟨u1,h1,r1⟩:=hcell 1 _ rfl;obtain⟨u2,h2,r2⟩:=hcell 2 _ rfl;cases r0;cases r1;cases r2;exact⟨b,off,rfl,h0,h1,h2⟩
theorem qF {w:World} {b j:Nat} {cs:Array Value} {t:TypeId} (u:Value) (h:w.heap[b]? = some (.cells cs t (0,0))):(w.setCell ⟨b,j,none⟩ u).heap[b]? = some (.cells (cs.setIfInBounds j u) t (0,0)):=by
 have hlt:=lt_of_block h
 have h':w.heap[b]=.cells cs t (0,0):=by simpa[A8 hlt] using h
 show (w.heap.modify b _)[b]? = _;rw[A8 (by simpa using hlt),Array.getElem_modify_self,h'];rfl
theorem qr {w:World} {b j k:Nat} {u:Value} (h:k≠b):(w.setCell ⟨b,j,none⟩ u).heap[k]? = w.heap[k]?:=Below.heap_setCell w ⟨b,j,none⟩ u k h
theorem Ju {w:World} {a:Addr} {u:Value}:(w.setCell a u).heap.size=w.heap.size:=by simp[World.setCell]
end Go.Proofs
namespace Go.AM
open Go.Proofs
def qw (v18:(List hsOp)):Option (List hsOp) :=
 (some v18)
def qL (N1:((List hsOp)→Option (List hsOp))) (v17:(List hsOp)):Option (List hsOp) :=
 (N1 v17)
def jq (N2:((List hsOp)→Option (List hsOp))) (v16:(List hsOp)):Option (List hsOp) :=
 (N2 v16)
def qv (x1:Int) (K8:((List hsOp)→Option (List hsOp))):List hsOp→Nat→(List hsOp)→Option (List hsOp)
 | [],k2,v11=>(K8 v11)
 | x2::r2,k2,v11=>(bif (x2.qa == x1) then (chk (capOk 24 ((v11++[x2])).length) ((jq (qv x1 K8 r2 (k2+1))) (v11++[x2]))) else ((jq (qv x1 K8 r2 (k2+1))) v11))
def qq (a1:(List hsOp)) (K5:((List hsOp)→Option (List hsOp))):List Int→Nat→(List hsOp)→Option (List hsOp)
 | [],k1,v7=>(K5 v7)
 | x1::r1,k1,v7=>(chk (lenOk a1) (qv x1 (qL (qq a1 K5 r1 (k1+1))) a1 0 v7))
def jy (a1:(List hsOp)) (a2:(List Int)):Option (List hsOp) :=
 (chk (lenOk a2) (qq a1 (qw) a2 0 ([]:(List hsOp))))
theorem XZ (a1:(List hsOp)) (a2:(List Int)) (r:(List hsOp)) (h:jy a1 a2=some r):Run Try.prog (.call 65 [l44 none a1,l3 none a2] (l44 (some 1) r)):=by
 refine cW Try.func65 rfl (env0:=[(0,l44 none a1),(1,l3 none a2)]) ?_;unfold jy at h;refine W.seq ?_;let z0:=fun t=>EN ((0,l44 none a1)::t);let z1:=fun t=>z0 ((1,l3 none a2)::t);refine W.rt (e2:=z1 []) ?_;refine W.seq<|W.rt (e2:=z1 [(5,.nils)]) ?_;refine W.seq<|W.join (σ:=((List hsOp))) (fun s=>[(5,l44 (some 10500) s)]) (fun s=>(qw) s=some r) (fun v18 h=>?_) (fun hK5=>?_)
 ·unfold qw at h;refine W.seq<|W.rt (e2:=[(4,l44 (some 10500) v18)]) ?_;refine W.weak [4] [] [] [(10500,some 1)] (env':=[(4,l44 (some 1) v18)]) (by kernel_rfl) ?_;cases h;exact W.rr
 refine W.sr<|WO.pq 1 (jM (.int .i64) a2) (e1:=z1 [(5,.nils),(10,l3 none a2),(11,I6 (a2.length:Int))])<|WO.fn (e2:=z0 [(5,.nils),(10,l3 none a2),(11,I6 (a2.length:Int)),(12,.int .i64 0)]) ?_;refine W.block ?_;obtain⟨hl1,h⟩:=qx h;refine W.weak [0,5,10,11,12] [] [(5,0,44,3,10500)] [] (env':=z0 [(5,l44 (some 10500) ([]:(List hsOp))),(10,l3 none a2),(11,I6 (a2.length:Int)),(12,I6 ((0:Nat):Int))]) (by kernel_rfl)<|W.range (σ:=((List hsOp))) a2 (fun k1 s=>z0 [(5,l44 (some 10500) s),(10,l3 none a2),(11,I6 (a2.length:Int)),(12,I6 (k1:Int))]) (fun r0 k0 s=>qq a1 (qw) r0 k0 s=some r) (fun v7 h=>?_) (fun x1 r1 k1 s hx1 hk1 h hN1=>?_) ([]:(List hsOp)) h
 ·have h:qq a1 (qw) [] (a2).length v7=some r:=h;rw[qq.eq_1]at h;refine W.sr ?_;let y0:Env:=[(5,l44 (some 10500) v7),(10,l3 none a2),(11,I6 (a2.length:Int)),(12,I6 ((a2).length:Int)),(13,.bool false)];refine WO.pq 0 (jB (Jj (l:=a2))) (e1:=z0 y0)<|WO.fn (e2:=z0 y0) ?_;refine W.seq<|W.cF<|W.exit<|W.wk (e:=[(5,l44 (some 10500) v7)]) ?_;exact hK5 v7 h
 ·obtain⟨v7,rfl⟩:∃ x,x=s:=⟨s,rfl⟩;have h:qq a1 (qw) (x1::r1) k1 v7=some r:=h;rw[qq.eq_2]at h;refine W.sr ?_;let y1:Env:=[(5,l44 (some 10500) v7),(10,l3 none a2),(11,I6 (a2.length:Int)),(12,I6 (k1:Int)),(13,.bool true)];refine WO.pq 0 (jB (JG hk1)) (e1:=z0 y1)<|WO.fn (e2:=z0 y1) ?_;refine W.seq<|W.cT<|W.skip ?_;let y2:Env:=[(10,l3 none a2),(11,I6 (a2.length:Int)),(12,I6 (k1:Int))];let z2:=fun t=>z0 ((5,l44 (some 10500) v7)::t);refine W.wk (e:=z2 y2)<|W.seq<|W.join (σ:=((List hsOp))) (fun s=>z0 ((5,l44 (some 10500) s)::y2)) (fun s=>(qL (qq a1 (qw) r1 (k1+1))) s=some r) (fun v17 h=>?_) (fun hK8=>?_)
  ·unfold qL at h;refine W.rg ?_;let z3:=fun t=>z0 ((5,l44 (some 10500) v17)::(10,l3 none a2)::(11,I6 (a2.length:Int))::t);refine WO.pq 0 (jI (jK hl1 hk1)) (e1:=z3 [(12,I6 (k1:Int)),(31,I6 ((k1+1:Nat):Int))])<|WO.fn (e2:=z3 [(12,I6 ((k1+1:Nat):Int))]) ?_;exact hN1 v17 h
  refine W.block<|W.sr<|WO.pq 0 (JI (f:=(AV.int .i64)) hx1) (e1:=z2 [(10,l3 none a2),(11,I6 (a2.length:Int)),(12,I6 (k1:Int)),(14,.ptr (I6 x1))]) ?_;let z4:=fun t=>z2 ((7,I6 x1)::t);refine WO.fn (e2:=z4 y2) ?_;refine W.sr ?_;let z5:=fun t=>z4 ((10,l3 none a2)::(11,I6 (a2.length:Int))::(12,I6 (k1:Int))::(16,l44 none a1)::(17,I6 (a1.length:Int))::t);refine WO.pq 1 (jM qR a1) (e1:=z5 [])<|WO.fn (e2:=z5 [(18,.int .i64 0)]) ?_;refine W.block ?_;obtain⟨hl2,h⟩:=qx h;refine W.wk (e:=z5 [(18,I6 ((0:Nat):Int))])<|W.range (σ:=((List hsOp))) a1 (fun k2 s=>z0 [(5,l44 (some 10500) s),(7,I6 x1),(10,l3 none a2),(11,I6 (a2.length:Int)),(12,I6 (k1:Int)),(16,l44 none a1),(17,I6 (a1.length:Int)),(18,I6 (k2:Int))]) (fun r0 k0 s=>qv x1 (qL (qq a1 (qw) r1 (k1+1))) r0 k0 s=some r) (fun v11 h=>?_) (fun x2 r2 k2 s hx2 hk2 h hN2=>?_) v7 h
  ·have h:qv x1 (qL (qq a1 (qw) r1 (k1+1))) [] (a1).length v11=some r:=h;rw[qv.eq_1]at h;refine W.sr ?_;let y3:Env:=[(5,l44 (some 10500) v11),(7,I6 x1),(10,l3 none a2),(11,I6 (a2.length:Int)),(12,I6 (k1:Int)),(16,l44 none a1),(17,I6 (a1.length:Int)),(18,I6 ((a1).length:Int)),(19,.bool false)];refine WO.pq 0 (jB (Jj (l:=a1))) (e1:=z0 y3)<|WO.fn (e2:=z0 y3) ?_;refine W.seq<|W.cF<|W.exit<|W.wk (e:=z0 ((5,l44 (some 10500) v11)::y2)) ?_;exact hK8 v11 h
  ·obtain⟨v11,rfl⟩:∃ x,x=s:=⟨s,rfl⟩;have h:qv x1 (qL (qq a1 (qw) r1 (k1+1))) (x2::r2) k2 v11=some r:=h;rw[qv.eq_2]at h;refine W.sr ?_;let y4:Env:=[(5,l44 (some 10500) v11),(7,I6 x1),(10,l3 none a2),(11,I6 (a2.length:Int)),(12,I6 (k1:Int)),(16,l44 none a1),(17,I6 (a1.length:Int)),(18,I6 (k2:Int)),(19,.bool true)];refine WO.pq 0 (jB (JG hk2)) (e1:=z0 y4)<|WO.fn (e2:=z0 y4) ?_;refine W.seq<|W.cT<|W.skip ?_;let y5:Env:=[(10,l3 none a2),(11,I6 (a2.length:Int)),(12,I6 (k1:Int)),(16,l44 none a1),(17,I6 (a1.length:Int)),(18,I6 (k2:Int))];let z6:=fun t=>z0 ((5,l44 (some 10500) v11)::(7,I6 x1)::t);refine W.wk (e:=z6 y5)<|W.seq<|W.join (σ:=((List hsOp))) (fun s=>z0 ((5,l44 (some 10500) s)::(7,I6 x1)::y5)) (fun s=>(jq (qv x1 (qL (qq a1 (qw) r1 (k1+1))) r2 (k2+1))) s=some r) (fun v16 h=>?_) (fun hK12=>?_)
   ·unfold jq at h;refine W.rg ?_;let z7:=fun t=>z0 ((5,l44 (some 10500) v16)::(7,I6 x1)::(10,l3 none a2)::(11,I6 (a2.length:Int))::(12,I6 (k1:Int))::(16,l44 none a1)::(17,I6 (a1.length:Int))::t);refine WO.pq 0 (jI (jK hl2 hk2)) (e1:=z7 [(18,I6 (k2:Int)),(30,I6 ((k2+1:Nat):Int))])<|WO.fn (e2:=z7 [(18,I6 ((k2+1:Nat):Int))]) ?_;exact hN2 v16 h
   refine W.block<|W.sr<|WO.pq 0 (JI (f:=qR) hx2) (e1:=z6 [(10,l3 none a2),(11,I6 (a2.length:Int)),(12,I6 (k1:Int)),(16,l44 none a1),(17,I6 (a1.length:Int)),(18,I6 (k2:Int)),(20,.ptr (.agg [I6 x2.qa,I6 x2.qb,I6 x2.qc]))]) ?_;let z8:=fun t=>z6 ((9,.ptr (.agg [I6 x2.qa,I6 x2.qb,I6 x2.qc]))::t);refine WO.fi [0,5,7,9,10,11,12,16,17,18] [9] (e2:=z8 y5) ?_;refine W.seq<|W.rt (e2:=z8 [(10,l3 none a2),(11,I6 (a2.length:Int)),(12,I6 (k1:Int)),(16,l44 none a1),(17,I6 (a1.length:Int)),(18,I6 (k2:Int)),(25,.bool (x2.qa == x1))]) ?_;refine W.ch (x2.qa == x1) h (fun h=>?_) (fun h=>?_)
   ·refine W.rg ?_;obtain⟨hc15,h⟩:=qx h;refine WO.appendK 3 (d:=29) (e:=44) (s:=3) (bytes:=24) (xs:=(List.map qR v11)) (ys:=(List.map qR [x2])) (zs:=(List.map qR (v11++[x2]))) (env1:=[(0,l44 none a1),(5,l44 none v11),(7,I6 x1),(9,.ptr (.agg [I6 x2.qa,I6 x2.qb,I6 x2.qc])),(10,l3 none a2),(11,I6 (a2.length:Int)),(12,I6 (k1:Int)),(16,l44 none a1),(17,I6 (a1.length:Int)),(18,I6 (k2:Int)),(25,.bool (x2.qa == x1)),(26,l44 none v11),(27,.agg [I6 x2.qa,I6 x2.qb,I6 x2.qc]),(28,l44 (some 28) [x2])]) (by kernel_rfl) (List.map_append.symm) (by rw[List.length_map];exact hc15) (e1:=z0 [(5,l44 none v11),(7,I6 x1),(9,.ptr (.agg [I6 x2.qa,I6 x2.qb,I6 x2.qc])),(10,l3 none a2),(11,I6 (a2.length:Int)),(12,I6 (k1:Int)),(16,l44 none a1),(17,I6 (a1.length:Int)),(18,I6 (k2:Int)),(25,.bool (x2.qa == x1)),(26,l44 none v11),(27,.agg [I6 x2.qa,I6 x2.qb,I6 x2.qc]),(28,l44 (some 28) [x2]),(29,l44 (some 29) (v11++[x2]))]) (by kernel_rfl) ?_;refine WO.fin [0,5,7,10,11,12,16,17,18] [] [] [(29,some 10500)] (e2:=z0 ((5,l44 (some 10500) (v11++[x2]))::(7,I6 x1)::y5)) (by kernel_rfl) (fun _ h=>h) ?_;exact hK12 (v11++[x2]) h
   refine W.sw (e:=z6 y5) ?_;exact hK12 v11 h
end Go.AM
namespace Go.AM
structure hsview where
 jz:List (Int×List Int)
 JY:List Int
def vstep (m:List (Int×List Int)) (x:hsOp) (f:Int):List (Int×List Int):=bif x.qb == 0 then mset keq1 x.qa (mget keq1 [] x.qa m++[f]) m else m
def lstep (s:List Int) (x:hsOp):List Int:=bif x.qb == 1 then s.set x.qc.toNat x.qa else s
def viewF:List hsOp→List Int→List (Int×List Int)→List Int→hsview
 | x::h,f::fs,m,s=>viewF h fs (vstep m x f) (lstep s x)
 | _,_,m,s=>⟨m,s⟩
def okV (x:hsOp):Bool:=wfI .i64 x.qa && (!(x.qb == 1) || (decide (0≤x.qc) && decide (x.qc<6)))
def viewP (fuel:Nat) (h:List hsOp):Option hsview:=(Jl fuel h).bind fun fs=>chk (decide (h.length≤100000) && (decide (fs.length=h.length) && h.all okV)) (some (viewF h fs [] [0,0,0,0,0,0]))
end Go.AM
namespace Go.Proofs
open Go.RowKit Go.AM
open Go.ChangeMaps (setBlock)
def viewAV (x:hsview):AV:=.agg (mpE (AV.int .i64) lI x.jz::x.JY.map (AV.int .i64))
theorem six {l:List Int} (h:l.length=6):∃ x0 x1 x2 x3 x4 x5,l=[x0,x1,x2,x3,x4,x5]:=by
 match l,h with
 | [x0,x1,x2,x3,x4,x5],_=>exact⟨_,_,_,_,_,_,rfl⟩
set_option maxHeartbeats 2000000 in
theorem Try.view63 {fuel:Nat} {h:List hsOp} {r:hsview} (hp:viewP fuel h=some r):CallOk Try.prog 63 [l44 none h] (viewAV r):=by
 intro M w vs hG hC hl hR
 obtain⟨v0,rfl⟩:∃ v0,vs=[v0]:=by
  match vs,hl with
  | [v0],_=>exact⟨v0,rfl⟩
 have r0:R M (l44 none h) v0:=hR 0 _ v0 rfl rfl;clear hR hl hG;show Calls Try.prog 63 [v0].toArray w (Vb M w (viewAV r));unfold viewP at hp;obtain⟨fs,hfr,hp⟩:=qd hp;obtain⟨hck,hp⟩:=qx hp;simp only[Bool.and_eq_true,decide_eq_true_eq]at hck;obtain⟨hlen,hfl,hok⟩:=hck;have hp:=Option.some.inj hp;have mixed:=mixedP;have t3:=Try.underlying3;have a3:=Try.isAgg3;have z3:=Try.sizeOf3;have v3:=Try.zeroValue3;have u3:=run_underlying Try.underlying3;have t4:=Try.underlying4;have a4:=Try.isAgg4;have z4:=Try.sizeOf4;have v4:=Try.zeroValue4;have t24:=Try.underlying24;have a24:=Try.isAgg24;have z24:=Try.sizeOf24;have v24:=Try.zeroValue24;have u24:=run_underlying Try.underlying24;have t29:=Try.underlying29;have a29:=Try.isAgg29;have z29:=Try.sizeOf29;have v29:=Try.zeroValue29;have u29:=run_underlying Try.underlying29;have t44:=Try.underlying44;have a44:=Try.isAgg44;have z44:=Try.sizeOf44;have v44:=Try.zeroValue44;have u44:=run_underlying Try.underlying44;have t87:=Try.underlying87;have a87:=Try.isAgg87;have z87:=Try.sizeOf87;have v87:=Try.zeroValue87;have u87:=run_underlying Try.underlying87;have t88:=Try.underlying88;have a88:=Try.isAgg88;have z88:=Try.sizeOf88;have v88:=Try.zeroValue88;have u88:=run_underlying Try.underlying88;have t90:=Try.underlying90;have a90:=Try.isAgg90;have z90:=Try.sizeOf90;have v90:=Try.zeroValue90;have u90:=run_underlying Try.underlying90;have hmm:=@run_makeMap Try.prog
 go_enter Try.func63,Try.ntmps63
 go_wp2_with fail
 obtain⟨w0,ew0⟩:∃ w0,w0=((w.alloc (.cells #[.map none,.int .i64 0,.int .i64 0,.int .i64 0,.int .i64 0,.int .i64 0,.int .i64 0] 90)).alloc (.map #[] 0)).alloc (.cells #[.map (some (w.heap.size+1)),.int .i64 0,.int .i64 0,.int .i64 0,.int .i64 0,.int .i64 0,.int .i64 0] 90):=⟨_,rfl⟩
 have z0:w0.heap.size=w.heap.size+1+1+1:=by rw[ew0];simp
 have C0:Cons M w0:=by rw[ew0];exact ((hC.alloc _).alloc _).alloc _
 have B0:Below w.heap.size w w0:=by rw[ew0];exact (((Below.refl _ _).alloc (B4 _) _).alloc (by simp) _).alloc (by simp;omega) _
 have n0:w0.heap[w.heap.size]? = some (.cells #[.map none,.int .i64 0,.int .i64 0,.int .i64 0,.int .i64 0,.int .i64 0,.int .i64 0] 90 (0,0)):=by
  rw[ew0,heap_alloc_old _ _ (by simp;omega),heap_alloc_old _ _ (by simp)];exact heap_alloc_new _ _
 have n1:w0.heap[w.heap.size+1]? = some (.map #[] 0):=by
  rw[ew0,heap_alloc_old _ _ (by simp)];have:=heap_alloc_new (w.alloc (.cells #[.map none,.int .i64 0,.int .i64 0,.int .i64 0,.int .i64 0,.int .i64 0,.int .i64 0] 90)) (.map #[] 0)
  simpa using this
 have n2:w0.heap[w.heap.size+1+1]? = some (.cells #[.map (some (w.heap.size+1)),.int .i64 0,.int .i64 0,.int .i64 0,.int .i64 0,.int .i64 0,.int .i64 0] 90 (0,0)):=by
  rw[ew0];have:=heap_alloc_new ((w.alloc (.cells #[.map none,.int .i64 0,.int .i64 0,.int .i64 0,.int .i64 0,.int .i64 0,.int .i64 0] 90)).alloc (.map #[] 0)) (.cells #[.map (some (w.heap.size+1)),.int .i64 0,.int .i64 0,.int .i64 0,.int .i64 0,.int .i64 0,.int .i64 0] 90)
  simpa using this
 rw[← ew0];have c60:=jg (YJ fuel h fs hfr) M w0 [v0] (glob0 M) C0 rfl (fun j a b ha hb=>by match j,ha,hb with | 0,ha,hb=>cases ha;cases hb;exact r0);refine Calls.mono c60 ?_
 rintro e w1 ⟨fv,M1,rfl,hB1,s1,C1,o1,r1,_⟩
 obtain⟨fa,fc,rfl,hfc⟩:=QN (l:=fs) (R.setLab (l':=none) r1);obtain⟨ha,hcap,rfl,hops⟩:=Zk r0;have z1:=hB1.size;have B1:Below w.heap.size w w1:=B0.trans (hB1.mono (by omega));have n0:=(hB1.block _ (by omega)).trans n0;have n1:=(hB1.block _ (by omega)).trans n1;have n2:=(hB1.block _ (by omega)).trans n2
 have hno:∀ b o,w.heap.size≤b→b<w0.heap.size→M1 b o=none:=fun b o h1 h2=>by
  rw[o1 b o h2]
  cases hm:M b o with
  | none=>rfl
  | some u=>have:=XV (hC _ _ _ hm);omega
 have R0:ByRel w1 w1.heap.size (w.heap.size+1) [] #[] 0:=⟨n1,⟨(MapKept.stamped_iff _ _).2 ⟨by simp,by simp,by simp⟩,Nat.zero_le _,rfl,rfl,fun j k e hk=>by simp at hk,fun j k e hk=>by simp at hk⟩,fun j p e hp=>by simp at hp,fun i j e f g he=>by simp at he,by omega⟩;clear ew0 c60 n1
 go_wp2
 go_loopw [11] (fun i wr=>∃ k:Nat,k≤h.length∧i=.int .i64 k∧(∃ m x0 x1 x2 x3 x4 x5 es clock,viewF (h.drop k) (fs.drop k) m [x0,x1,x2,x3,x4,x5]=r∧m.length≤k∧(∀ t,(mget keq1 [] t m).length≤k)∧ByRel wr w1.heap.size (w.heap.size+1) m es clock∧wr.heap[w.heap.size+1+1]? = some (.cells #[.map (some (w.heap.size+1)),.int .i64 x0,.int .i64 x1,.int .i64 x2,.int .i64 x3,.int .i64 x4,.int .i64 x5] 90 (0,0)))∧wr.os=w1.os∧wr.tape=w1.tape∧wr.output=w1.output∧w1.heap.size≤wr.heap.size∧∀ j,j<w1.heap.size→j≠w.heap.size+1→j≠w.heap.size+1+1→wr.heap[j]? = w1.heap[j]?)
  (fun i _=>h.length - (RowKit.intOf i).toNat)
 case atStart=>exact⟨0,Nat.zero_le _,rfl,⟨[],0,0,0,0,0,0,#[],0,hp,B4 _,fun t=>B4 _,R0,n2⟩,rfl,rfl,rfl,B4 _,fun _ _ _ _=>rfl⟩
 case round =>
  clear R0 n2;obtain⟨k,hk,rfl,⟨m,x0,x1,x2,x3,x4,x5,es,clock,hF,hml,hmt,hR,n2⟩,g1,g2,g3,g4,g5⟩:=hrel
  have hCr:Cons M1 wr:=C1.of_blocks fun b o u hu hb=>g5 b hb (fun e=>by rw[e,hno _ _ (by omega) (by omega)]at hu;cases hu) (fun e=>by rw[e,hno _ _ (by omega) (by omega)]at hu;cases hu)
  rcases Nat.lt_or_ge k h.length with hk1 | hk1
  ·obtain⟨b,off,rfl,e0,e1,e2⟩:=hops k _ (D0 hk1);obtain⟨fb,foff,rfl,ef⟩:=hfc k (by omega);have hxo:=List.all_eq_true.1 hok _ (List.getElem_mem hk1);rw[D4 hk1,D4 (by omega:k<fs.length)]at hF;have q0:=qu (hCr _ _ _ (s1 _ _ _ e0)) rfl;have q1:=qu (hCr _ _ _ (s1 _ _ _ e1)) rfl;have q2:=qu (hCr _ _ _ (s1 _ _ _ e2)) rfl;have qf:=qu (hCr _ _ _ ef) rfl;have j0:(0:Int)≤(k:Int):=Int.natCast_nonneg _
   have j1:(k:Int)<(h.length:Int):=by omega
   have j2:(k:Int)<(fs.length:Int):=by omega
   generalize h[k]=x at hF q0 q1 q2 hxo e0 e1 e2;generalize fs[k]=f at hF qf ef;obtain⟨tx,kx,ix⟩:=x;simp only at q0 q1 q2;simp only[okV,Bool.and_eq_true,Bool.or_eq_true,Bool.not_eq_true',decide_eq_true_eq]at hxo;have hF:viewF (h.drop (k+1)) (fs.drop (k+1)) (vstep m ⟨tx,kx,ix⟩ f) (lstep [x0,x1,x2,x3,x4,x5] ⟨tx,kx,ix⟩)=r:=hF;unfold vstep lstep at hF;have hF:=(show Hid _ from hF);by_cases hk0:kx=0
   ·subst hk0
    have K0:wr.drew.cell? ⟨w.heap.size+1+1,0,none⟩=some (.map (some (w.heap.size+1)))∧wr.drew.cell? ⟨b,off+k * 3,none⟩=some (.int .i64 tx):=by
     refine⟨?_,q0⟩;have:wr.drew.heap[w.heap.size+1+1]? = _:=n2;simp[A0,this]
    obtain⟨w3,ew3⟩:∃ w3,w3=(wr.alloc (.cells #[.int .i64 f] 3)).drew:=⟨_,rfl⟩
    have z3':w3.heap.size=wr.heap.size+1:=by rw[ew3];simp
    have b3:∀ j,j<wr.heap.size→w3.heap[j]? = wr.heap[j]?:=fun j hj=>by rw[ew3];exact heap_alloc_old wr _ hj
    have n3:w3.heap[wr.heap.size]? = some (.cells #[.int .i64 f] 3 (0,0)):=by rw[ew3];exact heap_alloc_new wr _
    have R3:ByRel w3 w1.heap.size (w.heap.size+1) m es clock:=hR.below fun j hj _=>b3 j hj
    have hgm:=R3.at';have hgm2:wr.drew.heap[w.heap.size+1]? = some (.map es clock):=hR.at';obtain⟨v24',hlk,hown,hupd⟩:=R3.step hxo.1 (by omega);have hlk2:=hlk _ hgm2;have hlk3:=hlk _ hgm
    have hfar:v24'.ownBlock≠some wr.heap.size:=fun e=>by
     obtain⟨v25,hlk',hown',_⟩:=hR.step hxo.1 (by omega);have h1:=hlk' w3 hgm;rw[hlk3]at h1;cases h1;have:=(hown'.lt _ e).2;omega
    have hMl:=hmt tx
    have K3:w3.cell? ⟨w.heap.size+1+1,0,none⟩=some (.map (some (w.heap.size+1)))∧w3.cell? ⟨b,off+k * 3,none⟩=some (.int .i64 tx):=by
     have C3:Cons M1 w3:=hCr.of_blocks fun b o u hu hb=>b3 b hb
     refine⟨?_,qu (C3 _ _ _ (s1 _ _ _ e0)) rfl⟩;have:w3.heap[w.heap.size+1+1]? = _:=(b3 _ (by omega)).trans n2;simp[A0,this]
    have HW3:=(show Hid (w3=_) from ew3);obtain⟨i0,hi,hz0,hz1,hz2⟩:=info_parts Try.infoInt;clear ew3
    go_wp2
    refine wp_region_held_drew (S:=(fun w'=>w'.cell? ⟨w.heap.size+1+1,0,none⟩=some (.map (some (w.heap.size+1)))∧w'.cell? ⟨b,off+k * 3,none⟩=some (.int .i64 tx))) (by kernel_rfl) K0 (fun hHeld=>?_);refine wpAnyH_take (i:=0) (v:=.pointer (some ⟨w.heap.size+1+1,0,none⟩)) rfl (by kernel_rfl) (by kernel_rfl) (by kernel_rfl) (fun _ _ _ h=>h) (Or.inl ⟨by kernel_rfl,fun w' hw'=>?_⟩) hHeld ?_
    ·obtain⟨p0,p1⟩:=hw';go_simp
    simp only[Act.put,A1,A2,A3,A4,A5,A6];refine wpAnyH_take (i:=1) (v:=.map (some (w.heap.size+1))) rfl (by kernel_rfl) (by kernel_rfl) (by kernel_rfl) (fun _ _ _ h=>h) (Or.inl ⟨by kernel_rfl,fun w' hw'=>?_⟩) hHeld ?_
    ·obtain⟨p0,p1⟩:=hw';go_simp
    simp only[Act.put,A1,A2,A3,A4,A5,A6];refine wpAnyH_take (i:=2) (v:=.slice (some ⟨b,off,none⟩) h.length hcap) rfl (by kernel_rfl) (by kernel_rfl) (by kernel_rfl) (fun _ _ _ h=>h) (Or.inl ⟨by kernel_rfl,fun w' hw'=>?_⟩) hHeld ?_
    ·obtain⟨p0,p1⟩:=hw';go_simp
    simp only[Act.put,A1,A2,A3,A4,A5,A6];refine wpAnyH_take (i:=3) (v:=.int .i64 k) rfl (by kernel_rfl) (by kernel_rfl) (by kernel_rfl) (fun _ _ _ h=>h) (Or.inl ⟨by kernel_rfl,fun w' hw'=>?_⟩) hHeld ?_
    ·obtain⟨p0,p1⟩:=hw';go_simp
    simp only[Act.put,A1,A2,A3,A4,A5,A6];refine wpAnyH_take (i:=4) (v:=.pointer (some ⟨b,off+k * 3,none⟩)) rfl (by kernel_rfl) (by kernel_rfl) (by kernel_rfl) (fun _ _ _ h=>h) (Or.inl ⟨by kernel_rfl,fun w' hw'=>?_⟩) hHeld ?_
    ·obtain⟨p0,p1⟩:=hw';go_simp
    simp only[Act.put,A1,A2,A3,A4,A5,A6];refine wpAnyH_take (i:=5) (v:=.pointer (some ⟨b,off+k * 3,none⟩)) rfl (by kernel_rfl) (by kernel_rfl) (by kernel_rfl) (fun _ _ _ h=>h) (Or.inl ⟨by kernel_rfl,fun w' hw'=>?_⟩) hHeld ?_
    ·obtain⟨p0,p1⟩:=hw';go_simp
    simp only[Act.put,A1,A2,A3,A4,A5,A6];refine wpAnyH_take (i:=6) (v:=.int .i64 tx) rfl (by kernel_rfl) (by kernel_rfl) (by kernel_rfl) (fun _ _ _ h=>h) (Or.inl ⟨by kernel_rfl,fun w' hw'=>?_⟩) hHeld ?_
    ·obtain⟨p0,p1⟩:=hw';go_simp
    simp only[Act.put,A1,A2,A3,A4,A5,A6];refine wpAnyH_take (i:=7) (v:=.pointer (some ⟨w.heap.size+1+1,0,none⟩)) rfl (by kernel_rfl) (by kernel_rfl) (by kernel_rfl) (fun _ _ _ h=>h) (Or.inl ⟨by kernel_rfl,fun w' hw'=>?_⟩) hHeld ?_
    ·obtain⟨p0,p1⟩:=hw';go_simp
    simp only[Act.put,A1,A2,A3,A4,A5,A6];refine wpAnyH_take (i:=8) (v:=.map (some (w.heap.size+1))) rfl (by kernel_rfl) (by kernel_rfl) (by kernel_rfl) (fun _ _ _ h=>h) (Or.inl ⟨by kernel_rfl,fun w' hw'=>?_⟩) hHeld ?_
    ·obtain⟨p0,p1⟩:=hw';go_simp
    simp only[Act.put,A1,A2,A3,A4,A5,A6];refine wpAnyH_take (i:=9) (v:=.slice (some ⟨b,off,none⟩) h.length hcap) rfl (by kernel_rfl) (by kernel_rfl) (by kernel_rfl) (fun _ _ _ h=>h) (Or.inl ⟨by kernel_rfl,fun w' hw'=>?_⟩) hHeld ?_
    ·obtain⟨p0,p1⟩:=hw';go_simp
    simp only[Act.put,A1,A2,A3,A4,A5,A6];refine wpAnyH_take (i:=10) (v:=.int .i64 k) rfl (by kernel_rfl) (by kernel_rfl) (by kernel_rfl) (fun _ _ _ h=>h) (Or.inl ⟨by kernel_rfl,fun w' hw'=>?_⟩) hHeld ?_
    ·obtain⟨p0,p1⟩:=hw';go_simp
    simp only[Act.put,A1,A2,A3,A4,A5,A6];refine wpAnyH_take (i:=11) (v:=.pointer (some ⟨b,off+k * 3,none⟩)) rfl (by kernel_rfl) (by kernel_rfl) (by kernel_rfl) (fun _ _ _ h=>h) (Or.inl ⟨by kernel_rfl,fun w' hw'=>?_⟩) hHeld ?_
    ·obtain⟨p0,p1⟩:=hw';go_simp
    simp only[Act.put,A1,A2,A3,A4,A5,A6];refine wpAnyH_take (i:=12) (v:=.pointer (some ⟨b,off+k * 3,none⟩)) rfl (by kernel_rfl) (by kernel_rfl) (by kernel_rfl) (fun _ _ _ h=>h) (Or.inl ⟨by kernel_rfl,fun w' hw'=>?_⟩) hHeld ?_
    ·obtain⟨p0,p1⟩:=hw';go_simp
    simp only[Act.put,A1,A2,A3,A4,A5,A6];refine wpAnyH_take (i:=13) (v:=.int .i64 tx) rfl (by kernel_rfl) (by kernel_rfl) (by kernel_rfl) (fun _ _ _ h=>h) (Or.inl ⟨by kernel_rfl,fun w' hw'=>?_⟩) hHeld ?_
    ·obtain⟨p0,p1⟩:=hw';go_simp
    simp only[Act.put,A1,A2,A3,A4,A5,A6];refine wpAnyH_take (i:=15) (v:=.int .i64 f) rfl (by kernel_rfl) (by kernel_rfl) (by kernel_rfl) (fun _ _ _ h=>h) (Or.inl ⟨by kernel_rfl,fun w' hw'=>?_⟩) hHeld ?_
    ·obtain⟨p0,p1⟩:=hw';go_simp
    simp only[Act.put,A1,A2,A3,A4,A5,A6];refine wpAnyH_ready (rs:=[14,16]) (by kernel_rfl) (by simp) (AllReadyH.cons rfl (fun K hK=>?_) (AllReadyH.cons rfl (fun K hK=>?_) AllReadyH.nil))
    all_goals first
     | (rw[if_pos (by kernel_rfl)];go_simp;refine hK.out _ _ K0 (fun hHeld=>?_);clear hK K;refine wpAnyH_ready (rs:=[16]) (by kernel_rfl) (by simp) (AllReadyH.cons rfl (fun K hK=>?_) AllReadyH.nil);rw[if_pos (by kernel_rfl)];go_simp;rw[← HW3.out];refine hK.out _ _ K3 (fun hHeld=>?_);clear hK K)
     | (rw[if_pos (by kernel_rfl)];go_simp;rw[← HW3.out];refine hK.out _ _ K3 (fun hHeld=>?_);clear hK K;refine wpAnyH_ready (rs:=[14]) (by kernel_rfl) (by simp) (AllReadyH.cons rfl (fun K hK=>?_) AllReadyH.nil);rw[if_pos (by kernel_rfl)];go_simp;refine hK.out _ _ K3 (fun hHeld=>?_);clear hK K)
    all_goals
     refine wpAnyH_ready (rs:=[17]) (by kernel_rfl) (by simp) (AllReadyH.cons rfl (fun K hK=>?_) AllReadyH.nil);refine step_append_lies w3 (by rfl) (.tmp 36) (.tmp 38) _ (by rfl) w1.heap.size 3 i0 (.int .i64 0) 1 8 Try.underlying24 hi hz0 hz1 hz2 rfl (by omega) v24' _ _ (by rfl) hown _ _ _ [.int .i64 f] (by rfl) rfl (World.news_of_block n3) (by simp[Value.oneCell']) (by omega) (by unfold maxLen;omega) (by omega) (by omega) _ rfl ?_;intro ga ca w5 ho1 hg1 ha1 hl1;obtain⟨es3,clock3,hup,R5⟩:=hupd f _ ga w5 hg1 ho1 rfl (by rcases ha1 with h1 | h1;exact .inl h1;exact .inr (by omega))
     have hrow:∀ j,j<w1.heap.size→some j≠v24'.ownBlock:=fun j hj e=>by have:=(hown.lt j e.symm).1;omega
     have b5:∀ j,j<w3.heap.size→some j≠v24'.ownBlock→w5.heap[j]? = w3.heap[j]?:=hg1.block
     have hall:∀ j,j<w1.heap.size→j≠w.heap.size+1→(setBlock w5 (w.heap.size+1) (.map es3 clock3)).heap[j]? = wr.heap[j]?:=fun j hj h1=>by
      rw[QS h1,b5 j (by omega) (hrow j hj),b3 j (by omega)]
     have hall5:∀ j,j<w1.heap.size→w5.heap[j]? = wr.heap[j]?:=fun j hj=>by
      rw[b5 j (by omega) (hrow j hj),b3 j (by omega)]
     have C5:Cons M1 w5:=C1.of_blocks fun b o u hu hb=>(hall5 b hb).trans (g5 b hb (fun e=>by rw[e,hno _ _ (by omega) (by omega)]at hu;cases hu) (fun e=>by rw[e,hno _ _ (by omega) (by omega)]at hu;cases hu))
     have C6:Cons M1 (setBlock w5 (w.heap.size+1) (.map es3 clock3)):=C1.of_blocks fun b o u hu hb=>(hall b hb (fun e=>by rw[e,hno _ _ (by omega) (by omega)]at hu;cases hu)).trans (g5 b hb (fun e=>by rw[e,hno _ _ (by omega) (by omega)]at hu;cases hu) (fun e=>by rw[e,hno _ _ (by omega) (by omega)]at hu;cases hu))
     have n25:=(hall5 _ (by omega)).trans n2;have n26:=(hall _ (by omega) (by omega)).trans n2;have K5:w5.cell? ⟨w.heap.size+1+1,0,none⟩=some (.map (some (w.heap.size+1)))∧w5.cell? ⟨b,off+k * 3,none⟩=some (.int .i64 tx):=⟨by simp[A0,n25],qu (C5 _ _ _ (s1 _ _ _ e0)) rfl⟩;have K6:(setBlock w5 (w.heap.size+1) (.map es3 clock3)).cell? ⟨w.heap.size+1+1,0,none⟩=some (.map (some (w.heap.size+1)))∧(setBlock w5 (w.heap.size+1) (.map es3 clock3)).cell? ⟨b,off+k * 3,none⟩=some (.int .i64 tx):=⟨by simp[A0,n26],qu (C6 _ _ _ (s1 _ _ _ e0)) rfl⟩;refine hK.out _ _ K5 (fun hHeld=>?_);clear hK K;refine wpAnyH_ready (rs:=[18]) (by kernel_rfl) (by simp) (AllReadyH.cons rfl (fun K hK=>?_) AllReadyH.nil);rw[if_pos (by kernel_rfl)];go_simp;refine hK.out _ _ K6 (fun hHeld=>?_);clear hK K;refine wpAnyH_done (by kernel_rfl) ?_ _;have q6:=qu (C6 _ _ _ (s1 _ _ _ e1)) rfl;have hF:=hF.out;have hF:viewF (h.drop (k+1)) (fs.drop (k+1)) (mset keq1 tx (mget keq1 [] tx m++[f]) m) [x0,x1,x2,x3,x4,x5]=r:=hF;have hs5:=hg1.size
     go_wp2
     go_roundw
     case rel =>
      refine⟨k+1,hk1,by go_num,⟨_,x0,x1,x2,x3,x4,x5,es3,clock3,hF,?_,fun t=>?_,R5,n26⟩,?_,?_,?_,?_,fun j hj h1 h2=>(hall j hj h1).trans (g5 j hj h1 h2)⟩
      ·have:=Nd tx (mget keq1 [] tx m++[f]) m;omega
      ·rw[YV];split
       ·rename_i e;subst e;rw[List.length_append];have:=hmt t;simp;omega
       ·have:=hmt t;omega
      ·show w5.os=_;rw[hg1.os,HW3.out];exact g1
      ·show w5.tape=_;rw[hg1.tape,HW3.out];exact g2
      ·show w5.output=_;rw[hg1.output,HW3.out];exact g3
      ·rw[Ut];omega
     case measure=>simp[RowKit.intOf];omega
   ·by_cases hk2:kx=1
    ·subst hk2
     go_wp2
     have hix:0≤ix∧ix<6:=by
      rcases hxo.2 with h1 | h1
      ·cases h1
      ·exact h1
     obtain⟨i0',i6⟩:=hix
     obtain⟨uo,huo⟩:∃ u,wr.drew.cell? ⟨w.heap.size+1+1,1+ix.toNat,none⟩=some u:=by
      have hn:wr.drew.heap[w.heap.size+1+1]? = _:=n2;refine⟨(#[.map (some (w.heap.size+1)),.int .i64 x0,.int .i64 x1,.int .i64 x2,.int .i64 x3,.int .i64 x4,.int .i64 x5]:Array Value)[1+ix.toNat]'(by simp;omega),?_⟩;simp only[A0,hn];exact A8 _
     have K0:wr.drew.cell? ⟨b,off+k * 3+2,none⟩=some (.int .i64 ix)∧wr.drew.cell? ⟨b,off+k * 3,none⟩=some (.int .i64 tx)∧(∃ u,wr.drew.cell? ⟨w.heap.size+1+1,1+ix.toNat,none⟩=some u)∧wr.drew.frozen? ⟨w.heap.size+1+1,1+ix.toNat,none⟩=false:=by
      refine⟨q2,q0,⟨uo,huo⟩,?_⟩;have hn:wr.drew.heap[w.heap.size+1+1]? = _:=n2;simp[A7,hn]
     refine wp_region_held_drew (S:=(fun w'=>w'.cell? ⟨b,off+k * 3+2,none⟩=some (.int .i64 ix)∧w'.cell? ⟨b,off+k * 3,none⟩=some (.int .i64 tx)∧(∃ u,w'.cell? ⟨w.heap.size+1+1,1+ix.toNat,none⟩=some u)∧w'.frozen? ⟨w.heap.size+1+1,1+ix.toNat,none⟩=false)) (by kernel_rfl) K0 (fun hHeld=>?_);refine wpAnyH_take (i:=0) (v:=.slice (some ⟨b,off,none⟩) h.length hcap) rfl (by kernel_rfl) (by kernel_rfl) (by kernel_rfl) (fun _ _ _ h=>h) (Or.inl ⟨by kernel_rfl,fun w' hw'=>?_⟩) hHeld ?_
     ·obtain⟨p0,p1,p2,p3⟩:=hw';go_simp
     simp only[Act.put,A1,A2,A3,A4,A5,A6];refine wpAnyH_take (i:=1) (v:=.int .i64 k) rfl (by kernel_rfl) (by kernel_rfl) (by kernel_rfl) (fun _ _ _ h=>h) (Or.inl ⟨by kernel_rfl,fun w' hw'=>?_⟩) hHeld ?_
     ·obtain⟨p0,p1,p2,p3⟩:=hw';go_simp
     simp only[Act.put,A1,A2,A3,A4,A5,A6];refine wpAnyH_take (i:=2) (v:=.pointer (some ⟨b,off+k * 3,none⟩)) rfl (by kernel_rfl) (by kernel_rfl) (by kernel_rfl) (fun _ _ _ h=>h) (Or.inl ⟨by kernel_rfl,fun w' hw'=>?_⟩) hHeld ?_
     ·obtain⟨p0,p1,p2,p3⟩:=hw';go_simp
     simp only[Act.put,A1,A2,A3,A4,A5,A6];refine wpAnyH_take (i:=3) (v:=.pointer (some ⟨b,off+k * 3+2,none⟩)) rfl (by kernel_rfl) (by kernel_rfl) (by kernel_rfl) (fun _ _ _ h=>h) (Or.inl ⟨by kernel_rfl,fun w' hw'=>?_⟩) hHeld ?_
     ·obtain⟨p0,p1,p2,p3⟩:=hw';go_simp
     simp only[Act.put,A1,A2,A3,A4,A5,A6];refine wpAnyH_take (i:=4) (v:=.int .i64 ix) rfl (by kernel_rfl) (by kernel_rfl) (by kernel_rfl) (fun _ _ _ h=>h) (Or.inl ⟨by kernel_rfl,fun w' hw'=>?_⟩) hHeld ?_
     ·obtain⟨p0,p1,p2,p3⟩:=hw';go_simp
     simp only[Act.put,A1,A2,A3,A4,A5,A6];refine wpAnyH_take (i:=5) (v:=.slice (some ⟨b,off,none⟩) h.length hcap) rfl (by kernel_rfl) (by kernel_rfl) (by kernel_rfl) (fun _ _ _ h=>h) (Or.inl ⟨by kernel_rfl,fun w' hw'=>?_⟩) hHeld ?_
     ·obtain⟨p0,p1,p2,p3⟩:=hw';go_simp
     simp only[Act.put,A1,A2,A3,A4,A5,A6];refine wpAnyH_take (i:=6) (v:=.int .i64 k) rfl (by kernel_rfl) (by kernel_rfl) (by kernel_rfl) (fun _ _ _ h=>h) (Or.inl ⟨by kernel_rfl,fun w' hw'=>?_⟩) hHeld ?_
     ·obtain⟨p0,p1,p2,p3⟩:=hw';go_simp
     simp only[Act.put,A1,A2,A3,A4,A5,A6];refine wpAnyH_take (i:=7) (v:=.pointer (some ⟨b,off+k * 3,none⟩)) rfl (by kernel_rfl) (by kernel_rfl) (by kernel_rfl) (fun _ _ _ h=>h) (Or.inl ⟨by kernel_rfl,fun w' hw'=>?_⟩) hHeld ?_
     ·obtain⟨p0,p1,p2,p3⟩:=hw';go_simp
     simp only[Act.put,A1,A2,A3,A4,A5,A6];refine wpAnyH_take (i:=8) (v:=.pointer (some ⟨b,off+k * 3,none⟩)) rfl (by kernel_rfl) (by kernel_rfl) (by kernel_rfl) (fun _ _ _ h=>h) (Or.inl ⟨by kernel_rfl,fun w' hw'=>?_⟩) hHeld ?_
     ·obtain⟨p0,p1,p2,p3⟩:=hw';go_simp
     simp only[Act.put,A1,A2,A3,A4,A5,A6];refine wpAnyH_take (i:=9) (v:=.int .i64 tx) rfl (by kernel_rfl) (by kernel_rfl) (by kernel_rfl) (fun _ _ _ h=>h) (Or.inl ⟨by kernel_rfl,fun w' hw'=>?_⟩) hHeld ?_
     ·obtain⟨p0,p1,p2,p3⟩:=hw';go_simp
     simp only[Act.put,A1,A2,A3,A4,A5,A6];refine wpAnyH_take (i:=10) (v:=.pointer (some ⟨w.heap.size+1+1,1,none⟩)) rfl (by kernel_rfl) (by kernel_rfl) (by kernel_rfl) (fun _ _ _ h=>h) (Or.inl ⟨by kernel_rfl,fun w' hw'=>?_⟩) hHeld ?_
     ·obtain⟨p0,p1,p2,p3⟩:=hw';go_simp
     simp only[Act.put,A1,A2,A3,A4,A5,A6];refine wpAnyH_take (i:=11) (v:=.pointer (some ⟨w.heap.size+1+1,1+ix.toNat,none⟩)) rfl (by kernel_rfl) (by kernel_rfl) (by kernel_rfl) (fun _ _ _ h=>h) (Or.inl ⟨by kernel_rfl,fun w' hw'=>?_⟩) hHeld ?_
     ·obtain⟨p0,p1,p2,p3⟩:=hw';go_simp
     simp only[Act.put,A1,A2,A3,A4,A5,A6];obtain⟨w8,ew8⟩:∃ w8,w8=(wr.setCell ⟨w.heap.size+1+1,1+ix.toNat,none⟩ (.int .i64 tx)).drew:=⟨_,rfl⟩
     have n8:w8.heap[w.heap.size+1+1]? = some (.cells ((#[.map (some (w.heap.size+1)),.int .i64 x0,.int .i64 x1,.int .i64 x2,.int .i64 x3,.int .i64 x4,.int .i64 x5]:Array Value).setIfInBounds (1+ix.toNat) (.int .i64 tx)) 90 (0,0)):=by rw[ew8];exact qF (w:=wr) (j:=1+ix.toNat) (.int .i64 tx) n2
     have z8:w8.heap.size=wr.heap.size:=by rw[ew8];exact Ju
     have b8:∀ j,j≠w.heap.size+1+1→w8.heap[j]? = wr.heap[j]?:=fun j hj=>by rw[ew8];exact qr (w:=wr) hj
     have C8:Cons M1 w8:=hCr.of_blocks fun b o u hu hb=>b8 b fun e=>by rw[e,hno _ _ (by omega) (by omega)]at hu;cases hu
     have hR8:ByRel w8 w1.heap.size (w.heap.size+1) m es clock:=hR.below fun j hj hh=>b8 j (by rcases hh with h1 | h1 <;> omega)
     have o8:w8.os=wr.os∧w8.tape=wr.tape∧w8.output=wr.output:=by rw[ew8];exact⟨rfl,rfl,rfl⟩
     have K8:w8.cell? ⟨b,off+k * 3+2,none⟩=some (.int .i64 ix)∧w8.cell? ⟨b,off+k * 3,none⟩=some (.int .i64 tx):=⟨qu (C8 _ _ _ (s1 _ _ _ e2)) rfl,qu (C8 _ _ _ (s1 _ _ _ e0)) rfl⟩
     obtain⟨uo8,K8c⟩:∃ u,w8.cell? ⟨w.heap.size+1+1,1+ix.toNat,none⟩=some u:=by
      refine⟨((#[.map (some (w.heap.size+1)),.int .i64 x0,.int .i64 x1,.int .i64 x2,.int .i64 x3,.int .i64 x4,.int .i64 x5]:Array Value).setIfInBounds (1+ix.toNat) (.int .i64 tx))[1+ix.toNat]'(by simp;omega),?_⟩;simp only[A0,n8];exact A8 _
     have K8f:w8.frozen? ⟨w.heap.size+1+1,1+ix.toNat,none⟩=false:=by simp[A7,n8]
     obtain⟨y0,y1,y2,y3,y4,y5,hy1,hy2⟩:∃ y0 y1 y2 y3 y4 y5,([x0,x1,x2,x3,x4,x5]:List Int).set ix.toNat tx=[y0,y1,y2,y3,y4,y5]∧(#[.map (some (w.heap.size+1)),.int .i64 x0,.int .i64 x1,.int .i64 x2,.int .i64 x3,.int .i64 x4,.int .i64 x5]:Array Value).setIfInBounds (1+ix.toNat) (.int .i64 tx)=#[.map (some (w.heap.size+1)),.int .i64 y0,.int .i64 y1,.int .i64 y2,.int .i64 y3,.int .i64 y4,.int .i64 y5]:=by
      have:ix=0∨ix=1∨ix=2∨ix=3∨ix=4∨ix=5:=by omega
      rcases this with rfl | rfl | rfl | rfl | rfl | rfl <;> exact⟨_,_,_,_,_,_,rfl,rfl⟩
     rw[hy2]at n8;have hF:=hF.out;have hF:viewF (h.drop (k+1)) (fs.drop (k+1)) m (([x0,x1,x2,x3,x4,x5]:List Int).set ix.toNat tx)=r:=hF;rw[hy1]at hF;have HW8:=(show Hid (w8=_) from ew8);clear ew8;obtain⟨k1',k2',_,k4'⟩:=K0;refine wpAnyH_ready (rs:=[12]) (by kernel_rfl) (by simp) (AllReadyH.cons rfl (fun K hK=>?_) AllReadyH.nil);rw[if_pos (by kernel_rfl)];go_simp;rw[← HW8.out];refine hK.out _ _ ⟨K8.1,K8.2,⟨uo8,K8c⟩,K8f⟩ (fun hHeld=>?_);clear hK K;refine wpAnyH_done (by kernel_rfl) ?_ _
     go_wp2
     go_roundw
     case rel=>exact⟨k+1,hk1,by go_num,⟨m,y0,y1,y2,y3,y4,y5,es,clock,hF,by omega,fun t=>Nat.le_succ_of_le (hmt t),hR8,n8⟩,o8.1.trans g1,o8.2.1.trans g2,o8.2.2.trans g3,by omega,fun j hj h1 h2=>(b8 j h2).trans (g5 j hj h1 h2)⟩
     case measure=>simp[RowKit.intOf];omega
    ·have b0:(kx == 0)=false:=beq_eq_false_iff_ne.2 hk0;have b1:(kx == 1)=false:=beq_eq_false_iff_ne.2 hk2;have hF:=hF.out;rw[b0,b1]at hF
     go_wp2
     go_roundw
     case rel=>exact⟨k+1,hk1,by go_num,⟨m,x0,x1,x2,x3,x4,x5,es,clock,hF,by omega,fun t=>Nat.le_succ_of_le (hmt t),hR,n2⟩,g1,g2,g3,g4,g5⟩
     case measure=>simp[RowKit.intOf];omega
  ·obtain rfl:k=h.length:=by omega
   rw[List.drop_length]at hF;have hF:viewF [] (fs.drop h.length) m [x0,x1,x2,x3,x4,x5]=r:=hF;have hF:(⟨m,[x0,x1,x2,x3,x4,x5]⟩:hsview)=r:=hF;subst hF;have nr:=(g5 w.heap.size (by omega) (by omega) (by omega)).trans n0
   have c0:wr.cell? ⟨w.heap.size+1+1,0,none⟩=some (.map (some (w.heap.size+1))):=by simp[A0,n2]
   have c1:wr.cell? ⟨w.heap.size+1+1,1,none⟩=some (.int .i64 x0):=by simp[A0,n2]
   have c2:wr.cell? ⟨w.heap.size+1+1,2,none⟩=some (.int .i64 x1):=by simp[A0,n2]
   have c3:wr.cell? ⟨w.heap.size+1+1,3,none⟩=some (.int .i64 x2):=by simp[A0,n2]
   have c4:wr.cell? ⟨w.heap.size+1+1,4,none⟩=some (.int .i64 x3):=by simp[A0,n2]
   have c5:wr.cell? ⟨w.heap.size+1+1,5,none⟩=some (.int .i64 x4):=by simp[A0,n2]
   have c6:wr.cell? ⟨w.heap.size+1+1,6,none⟩=some (.int .i64 x5):=by simp[A0,n2]
   have d0:wr.cell? ⟨w.heap.size,0,none⟩=some (.map none):=by simp[A0,nr]
   have f0:wr.frozen? ⟨w.heap.size,0,none⟩=false:=by simp[A7,nr]
   have d1:wr.cell? ⟨w.heap.size,1,none⟩=some (.int .i64 0):=by simp[A0,nr]
   have f1:wr.frozen? ⟨w.heap.size,1,none⟩=false:=by simp[A7,nr]
   have d2:wr.cell? ⟨w.heap.size,2,none⟩=some (.int .i64 0):=by simp[A0,nr]
   have f2:wr.frozen? ⟨w.heap.size,2,none⟩=false:=by simp[A7,nr]
   have d3:wr.cell? ⟨w.heap.size,3,none⟩=some (.int .i64 0):=by simp[A0,nr]
   have f3:wr.frozen? ⟨w.heap.size,3,none⟩=false:=by simp[A7,nr]
   have d4:wr.cell? ⟨w.heap.size,4,none⟩=some (.int .i64 0):=by simp[A0,nr]
   have f4:wr.frozen? ⟨w.heap.size,4,none⟩=false:=by simp[A7,nr]
   have d5:wr.cell? ⟨w.heap.size,5,none⟩=some (.int .i64 0):=by simp[A0,nr]
   have f5:wr.frozen? ⟨w.heap.size,5,none⟩=false:=by simp[A7,nr]
   have d6:wr.cell? ⟨w.heap.size,6,none⟩=some (.int .i64 0):=by simp[A0,nr]
   have f6:wr.frozen? ⟨w.heap.size,6,none⟩=false:=by simp[A7,nr]
   go_wp2
   obtain⟨w9,ew9⟩:∃ w9,w9=((((((wr.setCell ⟨w.heap.size,0,none⟩ (.map (some (w.heap.size+1)))).setCell ⟨w.heap.size,1,none⟩ (.int .i64 x0)).setCell ⟨w.heap.size,2,none⟩ (.int .i64 x1)).setCell ⟨w.heap.size,3,none⟩ (.int .i64 x2)).setCell ⟨w.heap.size,4,none⟩ (.int .i64 x3)).setCell ⟨w.heap.size,5,none⟩ (.int .i64 x4)).setCell ⟨w.heap.size,6,none⟩ (.int .i64 x5):=⟨_,rfl⟩
   have n9:w9.heap[w.heap.size]? = some (.cells #[.map (some (w.heap.size+1)),.int .i64 x0,.int .i64 x1,.int .i64 x2,.int .i64 x3,.int .i64 x4,.int .i64 x5] 90 (0,0)):=by
    rw[ew9];exact qF (.int .i64 x5) (qF (.int .i64 x4) (qF (.int .i64 x3) (qF (.int .i64 x2) (qF (.int .i64 x1) (qF (.int .i64 x0) (qF (.map (some (w.heap.size+1))) nr))))))
   have b9:∀ j,j≠w.heap.size→w9.heap[j]? = wr.heap[j]?:=fun j hj=>by
    rw[ew9,qr hj,qr hj,qr hj,qr hj,qr hj,qr hj,qr hj]
   have o9:w9.os=wr.os∧w9.tape=wr.tape∧w9.output=wr.output∧w9.heap.size=wr.heap.size:=by
    have so:∀ (w:World) a v,(w.setCell a v).os=w.os:=fun _ _ _=>rfl
    have st:∀ (w:World) a v,(w.setCell a v).tape=w.tape:=fun _ _ _=>rfl
    have sp:∀ (w:World) a v,(w.setCell a v).output=w.output:=fun _ _ _=>rfl
    rw[ew9];simp only[so,st,sp,Ju,and_self]
   have hR9:ByRel w9 w1.heap.size (w.heap.size+1) m es clock:=hR.below fun j hj hh=>b9 j (by rcases hh with h1 | h1 <;> omega)
   have B9:Below w.heap.size w w9:=by
    refine B1.trans ⟨?_,?_,?_,?_,fun j hj=>?_⟩
    ·rw[o9.1];exact g1
    ·rw[o9.2.1];exact g2
    ·rw[o9.2.2.1];exact g3
    ·rw[o9.2.2.2];exact g4
    ·rw[b9 j (by omega),g5 j (by omega) (by omega) (by omega)]
   rw[← ew9];clear ew9
   have hres:∀ tm:Array Value,tm[2]?.getD undef=.pointer (some ⟨w.heap.size,0,none⟩)→(results Try.f63 tm).run Try.prog w9=.ok (.agg #[.map (some (w.heap.size+1)),.int .i64 x0,.int .i64 x1,.int .i64 x2,.int .i64 x3,.int .i64 x4,.int .i64 x5]) w9:=by
    intro tm htm
    have hr:Try.f63.results=#[.cell 2 90]:=by kernel_rfl
    have e0:w9.cell? ⟨w.heap.size,0,none⟩=some (.map (some (w.heap.size+1))):=by simp[A0,n9]
    have e1:w9.cell? ⟨w.heap.size,1,none⟩=some (.int .i64 x0):=by simp[A0,n9]
    have e2:w9.cell? ⟨w.heap.size,2,none⟩=some (.int .i64 x1):=by simp[A0,n9]
    have e3:w9.cell? ⟨w.heap.size,3,none⟩=some (.int .i64 x2):=by simp[A0,n9]
    have e4:w9.cell? ⟨w.heap.size,4,none⟩=some (.int .i64 x3):=by simp[A0,n9]
    have e5:w9.cell? ⟨w.heap.size,5,none⟩=some (.int .i64 x4):=by simp[A0,n9]
    have e6:w9.cell? ⟨w.heap.size,6,none⟩=some (.int .i64 x5):=by simp[A0,n9]
    simp[results,hr,htm];go_simp
   refine bodyPost_ret (hres _ (by rfl)) rfl ?_;refine⟨_,mtail M w.heap.size w9,rfl,B9,qbi hC B9 (B4 _),qas hC B9,fun b o hb=>Nb hb,?_,trivial⟩;refine .agg (vs:=[.map (some (w.heap.size+1)),.int .i64 x0,.int .i64 x1,.int .i64 x2,.int .i64 x3,.int .i64 x4,.int .i64 x5]) rfl (fun j c v hc hv=>?_)
   match j,hc,hv with
   | 0,hc,hv=>cases hc;cases hv;exact hR9.freeze (by omega)
   | 1,hc,hv=>cases hc;cases hv;exact .int _ _
   | 2,hc,hv=>cases hc;cases hv;exact .int _ _
   | 3,hc,hv=>cases hc;cases hv;exact .int _ _
   | 4,hc,hv=>cases hc;cases hv;exact .int _ _
   | 5,hc,hv=>cases hc;cases hv;exact .int _ _
   | 6,hc,hv=>cases hc;cases hv;exact .int _ _
end Go.Proofs
