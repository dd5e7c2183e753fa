import Derived.Test.YtdghpfejmlpjhaaRInst
import Derived.Laws.EntriesVeiled
set_option linter.all false
set_option maxRecDepth 100000
open Prod renaming fst→A0
open List renaming getElem_cons_succ→A1, getElem_toArray→A2, getElem_cons_zero→A3, setIfInBounds_toArray→A4, set_cons_zero→A5, set_cons_succ→A6, length_eraseIdx→A7, getElem?_map→A9, length_map→C0, map_cons→D0, getElem?_eq_getElem→D3, replicate→D6, eq_nil_of_length_eq_zero→D7, getElem?_eraseIdx→E0, getElem?_concat_length→E8, getElem?_append_left→E9, getD_eq_getElem?_getD→F6, length_filter_le→F7
open Nat renaming le_refl→A8
open Option renaming map_eq_some_iff→B1
open Array renaming getElem?_toList→C7, getElem?_modify→D4, getElem?_push→D5, getElem?_eq_getElem→D8, length_toList→D9
open Go.MapKept renaming run_getObj_map→D1, run_setObj_map→E7
open Go.Result renaming andThen→D2
open Go.World renaming news_of_block→F8
namespace Go.Proofs
open Go.RowKit Go.AM
open Go.ChangeMaps (setBlock)
variable {w w':World} {bm clock g gi:Nat} {o':Obj} {κ:Type} {es:LW}
theorem setBlock_at {o:Obj} (h:w.heap[g]? = some o):(setBlock w g o').heap[g]? = some o':=by
 have:=(Array.getElem?_eq_some_iff.1 h).1;unfold setBlock;simp[this]
theorem setBlock_other {k:Nat} (h:k≠g):(setBlock w g o').heap[k]? = w.heap[k]?:=by
 unfold setBlock;simp[Array.getElem?_setIfInBounds,Ne.symm h]
theorem setBlock_size:(setBlock w g o').heap.size=w.heap.size:=by
 unfold setBlock;simp
def Iter {κ:Type} (K:κ->Value) (w:World) (gi bm:Nat) (es:LW) (clock:Nat) (rem:List κ):Prop :=
 ∃ seen c0,w.heap[gi]? = some (.mapIter (some bm) clock seen c0)/\clock<=c0/\rem.length=(leftOf es seen).size/\∀ (j:Nat) f e,rem[j]? = some f->(leftOf es seen)[j]? = some e->e.key=K f
theorem Iter.of {K:κ->Value} {rem:List κ} (h:Iter K w gi bm es clock rem) (hb:w'.heap[gi]? = w.heap[gi]?):Iter K w' gi bm es clock rem:=by
 obtain⟨seen,c0,h1,h2⟩:=h;exact⟨seen,c0,hb.trans h1,h2⟩
theorem Iter.lt {K:κ->Value} {rem:List κ} (h:Iter K w gi bm es clock rem):gi<w.heap.size:=by
 obtain⟨seen,c0,h1,h2⟩:=h;exact lt_of_block h1
theorem Iter.next {κ:Type} {K:κ->Value} {w:World} {gi bm:Nat} {es:LW} {clock:Nat} {rem:List κ} (h:Iter K w gi bm es clock rem) (hb:w.heap[bm]? = some (.map es clock)) (hs:MapKept.Stamped es clock) (ty:TypeId) :
  (rem=[]/\(Instr.next (.pointer (some ⟨gi,0,none⟩)) false ty).run Try.prog w=.ok (.tuple #[.bool false]) w) \/
  ∃ (j:Nat) (f:κ) (v:Value) (w1:World),rem[j]? = some f/\(Instr.next (.pointer (some ⟨gi,0,none⟩)) false ty).run Try.prog w=.ok (.tuple #[.bool true,K f,v]) w1/\w.grownBy w1 (some gi)/\w1.heap.size=w.heap.size/\Iter K w1 gi bm es clock (rem.eraseIdx j) /\
   ∀ w2,w2.heap[gi]? = w1.heap[gi]?->w2.heap[bm]? = some (.map es clock)->(Instr.entry (.pointer (some ⟨gi,0,none⟩))).run Try.prog w2=.ok (.tuple #[K f,v]) w2:=by
 obtain⟨seen,c0,h1,h2,h3,h4⟩:=h;obtain⟨hb1,hb2,hb3⟩:=hs
 rcases qfM (P:=Try.prog) ty h1 hb hb1 h2 with ⟨r1,r2⟩ | ⟨j,hj,w1,hw1,r2⟩
 .exact .inl ⟨D7 oM,r2⟩
 right
 have hjr:j<rem.length:=by omega
 have hk:=h4 j _ _ (D3 hjr) (D8 hj)
 have hg1:w1.heap[gi]? = some (.mapIter (some bm) clock seen c0):=by
  rcases hw1 with rfl | rfl
  .exact h1
  exact h1
 have hl:=qbs hb2 hj
 have hsz:(leftOf es (seen.push (leftOf es seen)[j].born)).size=(leftOf es seen).size - 1:=by
  rw[<- D9,hl,A7,if_pos (by simpa using hj),D9]
 rw[hk]at r2;refine⟨j,rem[j],_,_,D3 hjr,r2,?_,?_,⟨_,clock,setBlock_at hg1,A8 _,?_,?_⟩,fun w2 e1 e2=>?_⟩
 .rcases hw1 with rfl | rfl
  .exact Yb hg1
  obtain⟨t1,t2,t3,t4,t5⟩:=Yb (o':=.mapIter (some bm) clock (seen.push (leftOf es seen)[j].born) clock) hg1;exact⟨t1,t2,t3,t4,t5⟩
 .rcases hw1 with rfl | rfl <;> simp[setBlock]
 .rw[A7,if_pos hjr,hsz,h3]
 .intro i f e hf he;rw[<- C7,hl,E0]at he;rw[E0]at hf;split at he
  .rename_i hij;rw[if_pos hij]at hf;exact h4 i f e hf (by rw[<- C7];exact he)
  rename_i hij;rw[if_neg hij]at hf;exact h4 (i+1) f e hf (by rw[<- C7];exact he)
 rw[<- hk];have hm:(leftOf es seen)[j]∈leftOf es seen:=Array.getElem_mem hj;unfold leftOf at hm;have hm2:=(Array.mem_filter.1 hm).1;exact run_entry_at w2 gi bm clock seen es clock _ (by rw[e1];exact setBlock_at hg1) e2 (Array.mem_toList_iff.2 hm2) hb2
def factsC (l:LH):LT:=l.flatMap fun f=>[.int .i64 f.qm,.int .i64 f.f_a,.int .i64 f.f_b]
theorem Dr (l m:LH):factsC (l++m)=factsC l++factsC m:=by simp[factsC]
abbrev kE (bl:Lf):LM:=bl.map fun p=>AV.int .i64 p.1
abbrev tE (bl:Lf):LM:=bl.map fun _=>AV.top
structure ByRel (w:World) (base gm:Nat) (bl:Lf) (es:LW) (clock:Nat):Prop where
 at':w.heap[gm]? = some (.map es clock)
 ent:EntOk (fun _ _=>none) es clock (kE bl) (tE bl)
 row:∀ (j:Nat) p e,bl[j]? = some p->es[j]? = some e->p.2≠[]/\w.ownsRow base 127 3 e.val p.2.length (factsC p.2)
 apart:∀ (i j:Nat) e f g,es[i]? = some e->es[j]? = some f->e.val.ownBlock=some g->f.val.ownBlock=some g->i=j
 lt:gm<base
theorem ByRel.below {base gm:Nat} {bl:Lf} (h:ByRel w base gm bl es clock) (hB:∀ k,k<w.heap.size->(k=gm\/base<=k)->w'.heap[k]? = w.heap[k]?):ByRel w' base gm bl es clock:=by
 obtain⟨h1,h2,h3,h4,h5⟩:=h;refine⟨(hB gm (lt_of_block h1) (.inl rfl)).trans h1,h2,fun j p e hp he=>⟨(h3 j p e hp he).1,?_⟩,h4,h5⟩;obtain⟨q1,q2⟩:=(h3 j p e hp he).2;refine⟨q1,?_⟩
 rcases q2 with hn | ⟨g,cap,cur,hv,hb,hgg,rest⟩
 .exact .inl hn
 exact .inr ⟨g,cap,cur,hv,hb,by rw[hB g (lt_of_block hgg) (.inr hb)];exact hgg,rest⟩
theorem Try.info127:(Try.prog.info? 127).map (fun i=>(i.zero,i.size,i.bytes))=some (some (.agg #[.int .i64 0,.int .i64 0,.int .i64 0]),3,24):=by kernel_rfl
theorem fits3 (x:Int):keyFits Try.prog 3 (AV.int .i64 x)=true:=by kernel_rfl
theorem qlx (x y:Int):akeq (AV.int .i64 x) (AV.int .i64 y)=keq1 x y:=by simp[akeq,keq1,kbeq]
theorem qcS (k:Int):∀ bl:Lf,(∃ j l,findA (AV.int .i64 k) (kE bl)=some j/\bl[j]? = some (k,l)/\mget keq1 [] k bl=l/\∀ m,mset keq1 k m bl=bl.set j (k,m))\/(findA (AV.int .i64 k) (kE bl)=none/\mget keq1 [] k bl=[]/\∀ m,mset keq1 k m bl=bl++[(k,m)])
 | []=>.inr ⟨rfl,rfl,fun m=>rfl⟩
 | p::r=>by
  have ih:=qcS k r;simp only[kE,D0,findA,mget,mset,qlx]at ih ⊢
  cases hq:keq1 p.1 k with
  | true =>
   have:p.1=k:=by simpa[keq1] using hq
   subst this;exact .inl ⟨0,p.2,rfl,rfl,rfl,fun m=>rfl⟩
  | false =>
   simp only[cN]
   rcases ih with ⟨j,l,h1,h2,h3,h4⟩ | ⟨h1,h2,h3⟩
   .rw[h1];exact .inl ⟨j+1,l,rfl,by simpa using h2,h3,fun m=>by rw[h4];rfl⟩
   rw[h1];exact .inr ⟨rfl,h2,fun m=>by rw[h3];rfl⟩
theorem ByRel.step {w:World} {base gm:Nat} {bl:Lf} {es:LW} {clock:Nat} (h:ByRel w base gm bl es clock) {k:Int} (hwf:wfI .i64 k=true) (hlen:bl.length<1000000000) :
  ∃ v24,(∀ w',w'.heap[gm]? = some (.map es clock)->(Instr.lookup 191 (.map (some gm)) (.int .i64 k) false).run Try.prog w'=.ok v24 w')/\w.ownsRow base 127 3 v24 (mget keq1 [] k bl).length (factsC (mget keq1 [] k bl)) /\
   ∀ (x:rufact) (vv:Value) (g:Nat) (w2:World),w.grownBy w2 v24.ownBlock->w2.ownsRow base 127 3 vv ((mget keq1 [] k bl).length+1) (factsC (mget keq1 [] k bl)++[.int .i64 x.qm,.int .i64 x.f_a,.int .i64 x.f_b])->vv.ownBlock=some g->(v24.ownBlock=some g\/w.heap.size<=g) ->
    ∃ es' clock',(Instr.mapUpdate 191 (.map (some gm)) (.int .i64 k) vv).run Try.prog w2=.ok () (setBlock w2 gm (.map es' clock'))/\ByRel (setBlock w2 gm (.map es' clock')) base gm (mset keq1 k (mget keq1 [] k bl++[x]) bl) es' clock':=by
 obtain⟨h1,E,h3,h4,h5⟩:=h
 have ht:Xe Try.prog 191=some (3,150):=by kernel_rfl
 have ht':=QH ht
 have hkv:(AV.int .i64 k).keyV=some (.int .i64 k):=by simp only[AV.keyV,hwf]
 have hall:(kE bl).all (keyFits Try.prog 3)=true:=by
  rw[List.all_map,List.all_eq_true]
  exact fun p _=>fits3 p.1
 have fnd:=fun w=>Zb (P:=Try.prog) (w:=w) (fits3 k) hkv hall E
 obtain⟨E1,E2,E3,E4,E5,E6⟩:=E
 have hsz:es.size=bl.length:=by simpa[kE] using E3.symm
 have hzero:∀ w,(zeroValue 150).run Try.prog w=.ok (.slice none 0 0) w:=Try.zeroValue150
 have kept:∀ {w2:World} {row:LP},w.grownBy w2 row->∀ (j:Nat) p e,bl[j]? = some p->es[j]? = some e->(e.val.ownBlock=none\/e.val.ownBlock≠row)->∀ es' clock',(setBlock w2 gm (.map es' clock')).ownsRow base 127 3 e.val p.2.length (factsC p.2):=by
  intro w2 row hg j p e hp he hne es' clock';have h6:=World.ownsRow.kept (h3 j p e hp he).2 hg hne;obtain⟨q1,q2⟩:=h6;refine⟨q1,?_⟩
  rcases q2 with hn | ⟨g,cap,cur,hv,hb,hgg,rest⟩
  .exact .inl hn
  exact .inr ⟨g,cap,cur,hv,hb,by rw[setBlock_other (by omega)];exact hgg,rest⟩
 have keptN:∀ {w2:World} {vv:Value} {n:Nat} {xs:LT},w2.ownsRow base 127 3 vv n xs->∀ es' clock',(setBlock w2 gm (.map es' clock')).ownsRow base 127 3 vv n xs:=by
  intro w2 vv n xs h6 es' clock';obtain⟨q1,q2⟩:=h6;refine⟨q1,?_⟩
  rcases q2 with hn | ⟨g,cap,cur,hv,hb,hgg,rest⟩
  .exact .inl hn
  exact .inr ⟨g,cap,cur,hv,hb,by rw[setBlock_other (by omega)];exact hgg,rest⟩
 have hlt:∀ (j:Nat) e g,es[j]? = some e->e.val.ownBlock=some g->g<w.heap.size/\gm≠g:=by
  intro j e g he hg
  have hj:j<bl.length:=by rw[<- hsz];exact (Array.getElem?_eq_some_iff.1 he).1
  have:=(h3 j _ e (D3 hj) he).2.lt g hg;omega
 rcases qcS k bl with ⟨j,l,a1,a2,a3,a4⟩ | ⟨a1,a2,a3⟩
 .
  obtain⟨e0,he0⟩:∃ e0,es[j]? = some e0:=by
   have:j<es.size:=by rw[hsz];exact (List.getElem?_eq_some_iff.1 a2).1
   exact⟨_,D8 this⟩
  have hf:∀ w',(Instr.findKey 3 (.int .i64 k) es.toList).run Try.prog w'=.ok (some (j,e0.val)) w'/\e0.key=.int .i64 k:=fun w'=>by
   obtain⟨_,_,hfd⟩:=fnd w'
   rcases hfd with ⟨k1,_,_⟩ | ⟨j',e',k1,k2,k3,k4⟩
   .rw[a1]at k1;cases k1
   rw[a1]at k1;cases k1
   have:es[j]? = some e':=by simpa using k3
   rw[this]at he0;cases he0;exact⟨k2,k4⟩
  have hrow:=h3 j _ e0 a2 he0;simp only[a3,a4];refine⟨e0.val,fun w' hb=>?_,hrow.2,fun x vv g w2 hg ho hvg hat=>⟨es.modify j (fun e'=>{ e' with key:=.int .i64 k,val:=vv }),clock,?_,⟨setBlock_at ((hg.block gm (lt_of_block h1) (fun e=>(hlt j e0 gm he0 e.symm).2 rfl)).trans h1),⟨MapKept.stamped_modify E1 _ _ (fun _ _=>rfl) (fun e' _ he'=>by rw[he0]at he';cases he';exact ((hf w).2).symm),by simpa using E2,by simp[kE,hsz],by simp[tE,hsz],fun i k' e' hk' he'=>?_,fun i v' e' hv' he'=>?_⟩,fun i p e' hp he'=>?_,fun i i' e f gg he hf' g1 g2=>?_,h5⟩⟩⟩
  .obtain⟨hck,_,_⟩:=fnd w';have hj:es[j]? = some e0:=he0;simp[Instr.lookup,run_underlying ht',D1 hb,hck,(hf w').1,hj,D2]
  .have hb2:w2.heap[gm]? = some (.map es clock):=(hg.block gm (lt_of_block h1) (fun e=>(hlt j e0 gm he0 e.symm).2 rfl)).trans h1;obtain⟨hck,hst,_⟩:=fnd w2;have f4:=(hf w2).2;simp[Instr.mapUpdate,run_underlying ht',D1 hb2,hck,(hf w2).1,he0,f4,hst,E7 _ hb2,D2,setBlock]
  .rw[D4]at he';simp only[kE,A9,B1]at hk';obtain⟨p,hp,rfl⟩:=hk';rw[List.getElem?_set]at hp;split at he'
   .rename_i hij;subst hij;rw[he0]at he';cases he';rw[if_pos rfl]at hp;split at hp
    .cases hp;exact hkv
    cases hp
   rename_i hij;rw[if_neg hij]at hp;exact E5 i _ e' (by simp[kE,hp]) he'
  .simp only[tE,A9,B1]at hv';obtain⟨_,_,rfl⟩:=hv';exact .top _
  rw[D4]at he';rw[List.getElem?_set]at hp;split at he'
  .rename_i hij;subst hij;rw[he0]at he';cases he';rw[if_pos rfl]at hp;split at hp
   .cases hp;refine⟨by simp,?_⟩;rw[Dr,List.length_append];exact keptN ho _ _
   cases hp
  rename_i hij;rw[if_neg hij]at hp;refine⟨(h3 i p e' hp he').1,kept hg i p e' hp he' ?_ _ _⟩
  cases hob:e'.val.ownBlock with
  | none=>exact .inl rfl
  | some b=>exact .inr fun e=>hij (h4 j i e0 e' b he0 he' e.symm hob)
  
  rw[D4]at he hf';split at he <;> split at hf'
  .rename_i q1 q2;omega
  .rename_i q1 q2;subst q1;rw[he0]at he;cases he;have g1':vv.ownBlock=some gg:=g1;rw[hvg]at g1';cases g1'
   rcases hat with h6 | h6
   .exact absurd (h4 j i' e0 f _ he0 hf' h6 g2) q2
   have:=(hlt i' f _ hf' g2).1;omega
  .rename_i q1 q2;subst q2;rw[he0]at hf';cases hf';have g2':vv.ownBlock=some gg:=g2;rw[hvg]at g2';cases g2'
   rcases hat with h6 | h6
   .exact absurd (h4 j i e0 e _ he0 he h6 g1) q1
   have:=(hlt i e _ he g1).1;omega
  exact h4 i i' e f gg he hf' g1 g2
 .
  have hf:∀ w',(Instr.findKey 3 (.int .i64 k) es.toList).run Try.prog w'=.ok none w'/\(∀ e∈es.toList,e.key≠.int .i64 k):=fun w'=>by
   obtain⟨_,_,hfd⟩:=fnd w'
   rcases hfd with ⟨k1,k2,k3⟩ | ⟨j',e',k1,k2,k3,k4⟩
   .exact⟨k2,k3⟩
   rw[a1]at k1;cases k1
  simp only[a2,a3];refine⟨.slice none 0 0,fun w' hb=>?_,World.ownsRow_nil _ _ _ _,fun x vv g w2 hg ho hvg hat=>⟨es.push ⟨.int .i64 k,vv,clock⟩,clock+1,?_,⟨setBlock_at ((hg.block gm (lt_of_block h1) (fun e=>by cases e)).trans h1),⟨MapKept.stamped_push E1 (hf w).2,by simp[maxLen];omega,by simp[kE,hsz],by simp[tE,hsz],fun i k' e' hk' he'=>?_,fun i v' e' hv' he'=>?_⟩,fun i p e' hp he'=>?_,fun i i' e f gg he hf' g1 g2=>?_,h5⟩⟩⟩
  .obtain⟨hck,_,_⟩:=fnd w';simp[Instr.lookup,run_underlying ht',D1 hb,hck,(hf w').1,hzero,D2]
  .have hb2:w2.heap[gm]? = some (.map es clock):=(hg.block gm (lt_of_block h1) (fun e=>by cases e)).trans h1;obtain⟨hck,hst,_⟩:=fnd w2;simp[Instr.mapUpdate,run_underlying ht',D1 hb2,hck,(hf w2).1,E7 _ hb2,D2,setBlock]
  .rw[D5]at he';simp only[kE,A9,B1]at hk';obtain⟨p,hp,rfl⟩:=hk';split at he'
   .rename_i hi;cases he';rw[hi,hsz,E8]at hp;cases hp;exact hkv
   have hi:=(Array.getElem?_eq_some_iff.1 he').1;rw[E9 (by omega)]at hp;exact E5 i _ e' (by simp[kE,hp]) he'
  .simp only[tE,A9,B1]at hv';obtain⟨_,_,rfl⟩:=hv';exact .top _
  .rw[D5]at he';split at he'
   .rename_i hi;cases he';rw[hi,hsz,E8]at hp;cases hp;refine⟨by simp,?_⟩;have:=keptN ho (es.push ⟨.int .i64 k,vv,clock⟩) (clock+1)
    simpa[factsC] using this
   have hi:=(Array.getElem?_eq_some_iff.1 he').1;rw[E9 (by omega)]at hp;exact⟨(h3 i p e' hp he').1,kept hg i p e' hp he' (by cases hob:e'.val.ownBlock with | none=>exact .inl rfl | some b=>exact .inr fun e=>by cases e) _ _⟩
  rw[D5]at he hf'
  have hnew:∀ (i:Nat) e',es[i]? = some e'->e'.val.ownBlock=some g->False:=fun i e' he' hg'=>by
   have:=(hlt i e' _ he' hg').1
   rcases hat with h6 | h6
   .cases h6
   omega
  split at he <;> split at hf'
  .omega
  .cases he;have g1':vv.ownBlock=some gg:=g1;rw[hvg]at g1';cases g1';exact (hnew i' f hf' g2).elim
  .cases hf';have g2':vv.ownBlock=some gg:=g2;rw[hvg]at g2';cases g2';exact (hnew i e he g1).elim
  exact h4 i i' e f gg he hf' g1 g2
end Go.Proofs
namespace Go.Proofs
open Go.RowKit Go.AM
open Go.ChangeMaps (setBlock)
variable {M:Mem} {B b base bm clock gi o:Nat} {w w0:World} {es:LW} {bl:Lf}
theorem qah {α β:Type} (f:α->β) {m l:List β} (h:l.Perm m):∀ a:List α,l=a.map f->∃ b:List α,a.Perm b/\m=b.map f:=by
 induction h with
 | nil=>intro a ha;exact⟨a,.refl _,ha⟩
 | cons x h ih =>
  intro a ha
  cases a with
  | nil=>cases ha
  | cons y a =>
   rw[D0]at ha;obtain⟨rfl,h2⟩:=List.cons.inj ha;obtain⟨b,hb,rfl⟩:=ih a h2;exact⟨y::b,hb.cons y,rfl⟩
 | swap x y l =>
  intro a ha
  match a,ha with
  | p::q::a,ha =>
   rw[D0,D0]at ha;obtain⟨rfl,h2⟩:=List.cons.inj ha;obtain⟨rfl,rfl⟩:=List.cons.inj h2;exact⟨q::p::a,List.Perm.swap _ _ _,rfl⟩
 | trans _ _ ih1 ih2 =>
  intro a ha;obtain⟨b,h1,rfl⟩:=ih1 a ha;obtain⟨c,h2,rfl⟩:=ih2 b rfl;exact⟨c,h1.trans h2,rfl⟩
theorem DS {α β:Type}:∀ {a:List α} {b:List β},a.length=b.length->(a.zip b).map A0=a
 | [],[],_=>rfl
 | x::a,y::b,h=>by simp[DS (by simpa using h:a.length=b.length)]
theorem qfJ {inl:LB} (h:R M (mpE qj AV.bool inl) (.map (some gi))):∃ (es:LW) (clock:Nat) (fs:LH),M gi 0=some (mapCell es clock)/\MapKept.Stamped es clock/\(inl.map A0).Perm fs/\fs.length=es.size/\∀ (j:Nat) f e,fs[j]? = some f->es[j]? = some e->e.key=factV f:=by
 have h':R M (.mpv (inl.map fun p=>qj p.1) (inl.map fun p=>AV.bool p.2)) (.map (some gi)):=h;clear h;generalize hks:(inl.map fun p=>qj p.1)=ks at h';generalize hvs:(inl.map fun p=>AV.bool p.2)=vs at h'
 rcases Uz h' with ⟨h0,_,_⟩ | ⟨ks',vs',b,es,clock,hp,hv,h1,h2,h3,h4,h5,h6,h7⟩
 .cases h0
 cases hv
 have hk:(inl.map fun p=>qj p.1).Perm ks':=by
  have h8:=hp.2.2.map A0;rw[DS hp.1,DS hp.2.1]at h8;rw[hks];exact h8
 obtain⟨fs,q1,rfl⟩:=qah qj hk (inl.map A0) (by simp[List.map_map,Function.comp_def]);refine⟨es,clock,fs,h1,h2,q1,by simpa using h4,fun j f e hf he=>?_⟩;have:=h6 j (qj f) e (by simp[hf]) he;obtain⟨l,hl,hkl⟩:=Yh this;obtain⟨l1,rfl,hl1,_⟩:=Jv hkl;obtain⟨l2,rfl,hl2,_⟩:=Jv hl1;obtain⟨l3,rfl,hl3,_⟩:=Jv hl2;cases hl3;exact hl
theorem Iter.start {fs:LH} (h:w.heap[gi]? = some (.mapIter (some bm) clock #[] clock)) (hl:fs.length=es.size) (hk:∀ (j:Nat) f e,fs[j]? = some f->es[j]? = some e->e.key=factV f):Iter factV w gi bm es clock fs:=by
 have:leftOf es #[]=es:=by
  unfold leftOf;rw[Array.filter_eq_self];simp
 refine⟨#[],clock,h,A8 _,by rw[this];exact hl,fun j f e hf he=>?_⟩;rw[this]at he;exact hk j f e hf he
def Parts (bl:Lf) (rem all:LH):Prop:=∀ rel,(mget keq1 [] rel bl++rem.filter fun f=>f.qm == rel).Perm (all.filter fun f=>f.qm == rel)
theorem qaZ (k rel:Int) (l:LH):∀ bl:Lf,mget keq1 [] rel (mset keq1 k l bl)=if rel=k then l else mget keq1 [] rel bl
 | []=>by
  simp only[mset,mget,keq1];by_cases h:rel=k
  .subst h;simp
  have:(k == rel)=false:=by simp;omega
  simp[this,h]
 | p::r=>by
  have ih:=qaZ k rel l r;simp only[mset]
  cases hq:keq1 p.1 k with
  | true =>
   have hpk:p.1=k:=by simpa[keq1] using hq
   simp only[cT,mget,keq1,hpk];by_cases h:rel=k
   .subst h;simp[hpk]
   have h2:(k == rel)=false:=by simp;omega
   rw[h2];simp[h]
  | false =>
   have hpk:¬ p.1=k:=by simpa[keq1] using hq
   simp only[cN,mget];rw[ih];by_cases h:rel=k
   .subst h;rw[hq];simp
   simp[h]
theorem Parts.take {rem all:LH} (h:Parts bl rem all) {j:Nat} {f:rufact} (hj:rem[j]? = some f):Parts (mset keq1 f.qm (mget keq1 [] f.qm bl++[f]) bl) (rem.eraseIdx j) all:=by
 intro rel;refine List.Perm.trans ?_ (h rel);have hlt:=(List.getElem?_eq_some_iff.1 hj).1;have hf:rem[j]=f:=(List.getElem?_eq_some_iff.1 hj).2
 have hp:(rem.filter fun f=>f.qm == rel).Perm ((f::rem.eraseIdx j).filter fun f=>f.qm == rel):=by
  have:rem.Perm (rem[j]::rem.eraseIdx j):=by
   have e:∀ (l:LH) (j:Nat) (h:j<l.length),l.Perm (l[j]::l.eraseIdx j):=by
    intro l
    induction l with
    | nil=>intro j h;simp at h
    | cons a l ih =>
     intro j h
     cases j with
     | zero=>simp
     | succ j =>
      simp only[A1,List.eraseIdx_cons_succ];exact ((ih j (by simpa using h)).cons a).trans (List.Perm.swap _ _ _)
   exact e rem j hlt
  rw[hf]at this;exact this.filter _
 refine List.Perm.trans ?_ (hp.append_left _).symm;rw[qaZ,List.filter_cons];by_cases hr:rel=f.qm
 .subst hr;simp
 have:(f.qm == rel)=false:=by simp;omega
 simp[hr,this]
theorem mset_len (k:Int) (l:LH):∀ bl:Lf,(mset keq1 k l bl).length<=bl.length+1
 | []=>by simp[mset]
 | p::r=>by
  have:=mset_len k l r;unfold mset;cases keq1 p.1 k <;> simp <;> omega
def itLeft (es:LW) (gi:Nat) (w:World):Nat:=match w.heap[gi]? with
 | some (.mapIter _ _ seen _)=>(leftOf es seen).size
 | _=>0
theorem Iter.left {κ:Type} {K:κ->Value} {rem:List κ} (h:Iter K w gi bm es clock rem):itLeft es gi w=rem.length:=by
 obtain⟨seen,c0,h1,h2,h3,h4⟩:=h;unfold itLeft;rw[h1];exact h3.symm
def mtail (M:Mem) (B:Nat) (w:World):Mem:=fun b o=>if b<B then M b o else mc w b o
theorem Xt (h:b<B):mtail M B w b o=M b o:=by unfold mtail;rw[if_pos h]
theorem JT (h:B<=b):mtail M B w b o=mc w b o:=by unfold mtail;rw[if_neg (by omega)]
theorem ZM (hC:Cons M w0) (hB:Below B w0 w):Cons (mtail M B w) w:=fun b o u hu=>by
 unfold mtail at hu;split at hu
 .rename_i h;have h1:=hC _ _ _ hu;rw[Qr (hB.block b h)];exact h1
 exact hu
theorem UR (hC:Cons M w0) (hB:Below B w0 w) (hb:w0.heap.size<=B):Sub M (mtail M B w):=fun b o u hu=>by
 rw[Xt (by have:=Ny (hC _ _ _ hu);omega)];exact hu
theorem Do {t:TypeId} {fz:Nat×Nat} {cs:LO} {u:Value} (h:w.heap[b]? = some (.cells cs t fz)) (hu:cs[o]? = some u) (ht:isTup u=false):mc w b o=some u:=by
 unfold mc;rw[h];exact JN hu ht
theorem qkb {v:Value} {l:LH} (h:w.ownsRow base 127 3 v l.length (factsC l)) (hB:B<=base):R (mtail M B w) (lF l) v:=by
 obtain⟨q1,q2⟩:=h
 rcases q2 with ⟨rfl,h0⟩ | ⟨g,cap,cur,rfl,hb,hg,hn,hm,hs,ht⟩
 .have:l=[]:=D7 h0;subst this;exact .lstn _ _ _
 have hcell:∀ (j:Nat) u,(factsC l)[j]? = some u->cur[j]? = some u:=fun j u hu=>by
  have h1:=congrArg (fun l=>l[j]?) ht;simp only[List.getElem?_take,C7,hu]at h1;split at h1
  .exact h1
  cases h1
 have hfl:∀ (j:Nat) c,(flat (l.map qj))[j]? = some c->∃ u,(factsC l)[j]? = some u/\isTup u=false/\∀ M,R M c u:=by
  clear ht q1 hcell hn
  induction l with
  | nil=>intro j c hc;simp[flat]at hc
  | cons f l ih =>
   intro j c hc;have e1:flat ((f::l).map qj)=[.int .i64 f.qm,.int .i64 f.f_a,.int .i64 f.f_b]++flat (l.map qj):=rfl;have e2:factsC (f::l)=[.int .i64 f.qm,.int .i64 f.f_a,.int .i64 f.f_b]++factsC l:=rfl;rw[e1]at hc;rw[e2]
   match j,hc with
   | 0,hc | 1,hc | 2,hc=>cases hc;exact⟨_,rfl,rfl,fun M=>.int _ _⟩
   | j+3,hc =>
    have:∀ {α:Type} (a b c:α) (r:List α),([a,b,c]++r)[j+3]? = r[j]?:=fun a b c r=>by simp
    rw[this]at hc ⊢;exact ih j c hc
 have hl:(l.map qj).length=l.length:=C0 _;show R _ (.lst 127 3 none (l.map qj)) (.slice (some ⟨g,0,none⟩) l.length cap);rw[<- hl];refine .lst (fun j=>(factsC l).getD j undef) (by rw[hl];exact hn) (fun x hx=>?_) (fun x hx=>?_) (fun j c hc=>?_) (fun j c hc=>?_)
 .obtain⟨z,_,rfl⟩:=List.mem_map.1 hx;rfl
 .obtain⟨z,_,rfl⟩:=List.mem_map.1 hx;rfl
 .obtain⟨u,h1,h2,h3⟩:=hfl j c hc;rw[F6,h1,JT (by omega),Nat.zero_add];exact Do hg (hcell j u h1) h2
 obtain⟨u,h1,h2,h3⟩:=hfl j c hc;rw[F6,h1];exact h3 _
theorem ByRel.freeze {gm:Nat} (h:ByRel w base gm bl es clock) (hB:B<=gm):R (mtail M B w) (mpE (AV.int .i64) lF bl) (.map (some gm)):=by
 obtain⟨h1,⟨E1,E2,E3,E4,E5,E6⟩,h3,h4,h5⟩:=h
 refine .mpv (by rw[JT hB];exact Zj h1) E1 E2 E3 (by simpa[kE] using E3) E5 fun j v e hv he=>?_
 simp only[A9,B1]at hv;obtain⟨p,hp,rfl⟩:=hv;exact qkb (h3 j p e hp he).2 oM
theorem CB.above {D:Li->Prop} {g:Nat} {caps:LO} {M0 M1:Mem} {S:Li->Mem->World->Prop} (hcb:CB D g caps M0 S) (hs:Sub M M1) (hM0:Sub M0 M)   : CB D g caps M1 (fun d N w=>S d N w/\Sub M1 N):=by
 refine⟨hcb.pre,hcb.enter,fun h=>⟨(hcb.cons h.1).1,h.2⟩,fun h hB h1 h2 h3=>⟨hcb.grow h.1 hB h1 h2 h3,Sub.trans h.2 h1⟩,fun h h1 h2=>⟨hcb.down h.1 (Sub.trans hM0 (Sub.trans hs h1)) h2,h1⟩,fun v hv hD h=>(hcb.call v hv hD h.1).mono fun e w' h'=>⟨h'.1,h'.2,h.2⟩⟩
set_option maxHeartbeats 8000000 in
theorem Try.inst116 (D:Li->Prop) (g:Nat) (caps:LO) (M0:Mem) (S:Li->Mem->World->Prop) (hcb:CB D g caps M0 S) (body:LS) (inl no:LB) (rel:Int) (hargs bv:Value) (gi:Nat) (mo:LP) (d:Li) (M:Mem) (w:World) (hS:S d M w)
  (hha:isTup hargs=false/\hargs.cells=#[hargs]) (hbv:R M (l56 none body) bv) (hin:R M (mpE qj AV.bool inl) (.map (some gi))) (hno:R M (mpE qj AV.bool no) (.map mo)) (hwf:∀ p,p∈inl->wfI .i64 p.1.qm=true) (hlen:inl.length<=100000) (hbl:body.length<=1000)
  (hdef:∀ bl,(∀ rel,(mget keq1 [] rel bl).Perm ((inl.map A0).filter fun f=>f.qm == rel))->∃ out,tryP body no bl body (D6 8 0)=some out/\D (d++out)) :
  Calls Try.prog 116 #[.agg #[.int .i64 rel,hargs,bv],.map (some gi),.map mo,.func (.func g) #[] caps] w fun e w'=>e=retU/\∃ bl out,(∀ rel,(mget keq1 [] rel bl).Perm ((inl.map A0).filter fun f=>f.qm == rel))/\tryP body no bl body (D6 8 0)=some out/\S (d++out) M w':=by
 have mixed:=mixedP;have⟨t3,a3,z3,v3,u3⟩:=Tf3;have⟨t4,a4,z4,v4,u4⟩:=Tf4;have⟨t50,a50,z50,v50,u50⟩:=Tf50;have⟨t52,a52,z52,v52,u52⟩:=Tf52;have⟨t54,a54,z54,v54,u54⟩:=Tf54;have⟨t56,a56,z56,v56,u56⟩:=Tf56;have⟨t105,a105,z105,v105,u105⟩:=Tf105;have⟨t127,a127,z127,v127,u127⟩:=Tf127;have⟨t150,a150,z150,v150,u150⟩:=Tf150;have⟨t178,a178,z178,v178,u178⟩:=Tf178;have⟨t180,a180,z180,v180,u180⟩:=Tf180;have⟨t183,a183,z183,v183,u183⟩:=Tf183;have⟨t191,a191,z191,v191,u191⟩:=Tf191;have⟨t192,a192,z192,v192,u192⟩:=Tf192;obtain⟨hC,hM0⟩:=hcb.cons hS;obtain⟨es,clock,fs,q1,q2,q3,q4,q5⟩:=qfJ hin;obtain⟨bs,bc,rfl⟩:=JR hbv;rw[C0]at hbv ⊢;have hgi:=Ny (hC _ _ _ q1);have hmm:=@run_makeMap Try.prog;obtain⟨w5,ew5⟩:∃ w5,w5=((((w.alloc (.cells #[.int .i64 rel,hargs,.slice bs body.length bc] 54)).alloc (.cells #[.map mo] 105)).alloc (.cells #[.func (.func g) #[] caps] 180)).alloc (.map #[] 0)).alloc (.cells #[.map (some (w.heap.size+1+1+1))] 191):=⟨_,rfl⟩
 have z5:w5.heap.size=w.heap.size+1+1+1+1+1:=by rw[ew5];simp
 have B5:Below w.heap.size w w5:=by rw[ew5];exact (((((Below.refl _ _).alloc (A8 _) _).alloc (by simp) _).alloc (by simp;omega) _).alloc (by simp;omega) _).alloc (by simp;omega) _
 have e0:w5.heap[w.heap.size]? = some (.cells #[.int .i64 rel,hargs,.slice bs body.length bc] 54 (0,0)):=by
  rw[ew5,heap_alloc_old _ _ (by simp <;> omega),heap_alloc_old _ _ (by simp <;> omega),heap_alloc_old _ _ (by simp <;> omega),heap_alloc_old _ _ (by simp <;> omega)];exact heap_alloc_new _ _
 have e1:w5.heap[w.heap.size+1]? = some (.cells #[.map mo] 105 (0,0)):=by
  rw[ew5,heap_alloc_old _ _ (by simp <;> omega),heap_alloc_old _ _ (by simp <;> omega),heap_alloc_old _ _ (by simp <;> omega)];have:=heap_alloc_new (w.alloc (.cells #[.int .i64 rel,hargs,.slice bs body.length bc] 54)) (.cells #[.map mo] 105)
  simpa using this
 have e2:w5.heap[w.heap.size+1+1]? = some (.cells #[.func (.func g) #[] caps] 180 (0,0)):=by
  rw[ew5,heap_alloc_old _ _ (by simp <;> omega),heap_alloc_old _ _ (by simp <;> omega)];have:=heap_alloc_new ((w.alloc (.cells #[.int .i64 rel,hargs,.slice bs body.length bc] 54)).alloc (.cells #[.map mo] 105)) (.cells #[.func (.func g) #[] caps] 180)
  simpa using this
 have e3:w5.heap[w.heap.size+1+1+1]? = some (.map #[] 0):=by
  rw[ew5,heap_alloc_old _ _ (by simp <;> omega)];have:=heap_alloc_new (((w.alloc (.cells #[.int .i64 rel,hargs,.slice bs body.length bc] 54)).alloc (.cells #[.map mo] 105)).alloc (.cells #[.func (.func g) #[] caps] 180)) (.map #[] 0)
  simpa using this
 have e4:w5.heap[w.heap.size+1+1+1+1]? = some (.cells #[.map (some (w.heap.size+1+1+1))] 191 (0,0)):=by
  rw[ew5];have:=heap_alloc_new ((((w.alloc (.cells #[.int .i64 rel,hargs,.slice bs body.length bc] 54)).alloc (.cells #[.map mo] 105)).alloc (.cells #[.func (.func g) #[] caps] 180)).alloc (.map #[] 0)) (.cells #[.map (some (w.heap.size+1+1+1))] 191)
  simpa using this
 have hb5:w5.heap[gi]? = some (.map es clock):=(B5.block gi hgi).trans (Vt (hC _ _ _ q1));have hrg:=run_range_map (P:=Try.prog) w5 105 127 4 gi es clock Try.underlying105 hb5;obtain⟨w6,ew6⟩:∃ w6,w6=w5.alloc (.mapIter (some gi) clock #[] clock):=⟨_,rfl⟩
 have z6:w6.heap.size=w.heap.size+1+1+1+1+1+1:=by rw[ew6];simp[z5]
 have B56:∀ k,k<w.heap.size+1+1+1+1+1->w6.heap[k]? = w5.heap[k]?:=fun k hk=>by rw[ew6];exact heap_alloc_old _ _ oM
 have e5:w6.heap[w.heap.size+1+1+1+1+1]? = some (.mapIter (some gi) clock #[] clock):=by
  rw[ew6,<- z5];exact heap_alloc_new _ _
 have B6:Below w.heap.size w w6:=by rw[ew6];exact B5.alloc oM _
 rw[ew5,<- ew5,z5,<- ew6,ew5]at hrg;have e0:=(B56 _ oM).trans e0;have e1:=(B56 _ oM).trans e1;have e2:=(B56 _ oM).trans e2;have e3:=(B56 _ oM).trans e3;have e4:=(B56 _ oM).trans e4;have R0:ByRel w6 (w.heap.size+1+1+1+1+1+1) (w.heap.size+1+1+1) [] #[] 0:=⟨e3,⟨(MapKept.stamped_iff _ _).2 ⟨by simp,by simp,by simp⟩,Nat.zero_le _,rfl,rfl,fun j k e hk=>by simp at hk,fun j k e hk=>by simp at hk⟩,fun j p e hp=>by simp at hp,fun i j e f g he=>by simp at he,by omega⟩;have I0:Iter factV w6 (w.heap.size+1+1+1+1+1) gi es clock fs:=Iter.start e5 q4 q5
 have P0:Parts [] fs (inl.map A0):=fun rel=>by
  simp only[mget,List.nil_append];exact q3.symm.filter _
 have hfl:fs.length=inl.length:=by rw[<- q3.length_eq,C0]
 have hmf:∀ (fn:Fn) (first cap:LO) (w:World),(Instr.makeFunc fn first cap).run Try.prog w=.ok (.func fn first cap) w:=fun _ _ _ _=>rfl
 clear ew5 ew6 B5 hb5 B56 e3 e5 q5
 go_enter Try.func116,Try.ntmps116
 go_wp2
 go_loopw [] (fun wr=>Below w.heap.size w wr/\w6.heap.size<=wr.heap.size/\(∀ k,k<w6.heap.size->k≠w.heap.size+1+1+1->k≠w.heap.size+1+1+1+1+1->wr.heap[k]? = w6.heap[k]?)/\∃ bl es2 clock2 rem,ByRel wr (w.heap.size+1+1+1+1+1+1) (w.heap.size+1+1+1) bl es2 clock2/\Iter factV wr (w.heap.size+1+1+1+1+1) gi es clock rem/\Parts bl rem (inl.map A0)/\bl.length+rem.length<=inl.length)
  (fun wr=>itLeft es (w.heap.size+1+1+1+1+1) wr)
 case atStart=>exact⟨B6,A8 _,fun _ _ _ _=>rfl,[],#[],0,fs,R0,I0,P0,by simp[hfl]⟩
 case round =>
  obtain⟨hBr,hsz,hold,bl,es2,clock2,rem,hR,hI,hP,hcount⟩:=hrel;have hbr:wr.heap[gi]? = some (.map es clock):=(hBr.block gi hgi).trans (Vt (hC _ _ _ q1))
  rcases hI.next hbr q2 0 with ⟨rfl,hrun⟩ | ⟨j,f,v,wn,hj,hrun,hgr,hszn,hIn,hent⟩
  .have hnx:∀ ty,(Instr.next (.pointer (some ⟨w.heap.size+1+1+1+1+1,0,none⟩)) false ty).run Try.prog wr=_:=fun _=>hrun
   obtain⟨w9,ew9⟩:∃ w9,w9=wr.alloc (.cells #[tryV w.heap.size (w.heap.size+1) (w.heap.size+1+1) wr.heap.size (w.heap.size+1+1+1+1)] 192):=⟨_,rfl⟩
   have B9:Below w.heap.size w w9:=by rw[ew9];exact hBr.alloc oM _
   have k0:w9.heap[w.heap.size]? = some (.cells #[.int .i64 rel,hargs,.slice bs body.length bc] 54 (0,0)):=by rw[ew9,heap_alloc_old _ _ (by omega),hold _ (by omega) (by omega) (by omega)];exact e0
   have k1:w9.heap[w.heap.size+1]? = some (.cells #[.map mo] 105 (0,0)):=by rw[ew9,heap_alloc_old _ _ (by omega),hold _ (by omega) (by omega) (by omega)];exact e1
   have k2:w9.heap[w.heap.size+1+1]? = some (.cells #[.func (.func g) #[] caps] 180 (0,0)):=by rw[ew9,heap_alloc_old _ _ (by omega),hold _ (by omega) (by omega) (by omega)];exact e2
   have k4:w9.heap[w.heap.size+1+1+1+1]? = some (.cells #[.map (some (w.heap.size+1+1+1))] 191 (0,0)):=by rw[ew9,heap_alloc_old _ _ (by omega),hold _ (by omega) (by omega) (by omega)];exact e4
   have k5:w9.heap[wr.heap.size]? = some (.cells #[tryV w.heap.size (w.heap.size+1) (w.heap.size+1+1) wr.heap.size (w.heap.size+1+1+1+1)] 192 (0,0)):=by rw[ew9];exact heap_alloc_new _ _
   have R9:ByRel w9 (w.heap.size+1+1+1+1+1+1) (w.heap.size+1+1+1) bl es2 clock2:=hR.below fun k hk _=>by rw[ew9];exact heap_alloc_old _ _ hk
   have s9:=UR (w:=w9) hC B9 (A8 _);have S9:S d (mtail M w.heap.size w9) w9:=hcb.grow hS B9 s9 (fun b o hb=>Xt hb) (ZM hC B9)
   have T9:TE (mtail M w.heap.size w9) w.heap.size (w.heap.size+1) (w.heap.size+1+1) wr.heap.size (w.heap.size+1+1+1+1) body no bl g caps:=by
    refine⟨⟨_,?_,hbv.mono s9⟩,⟨_,?_,hno.mono s9⟩,?_,?_,⟨_,?_,R9.freeze oM⟩,hbl⟩
    .rw[JT (by omega)];exact Do k0 rfl rfl
    .rw[JT (by omega)];exact Do k1 rfl rfl
    .rw[JT (by omega)];exact Do k2 rfl rfl
    .rw[JT (by omega)];exact Do k5 rfl rfl
    rw[JT (by omega)];exact Do k4 rfl rfl
   have hPe:∀ rel,(mget keq1 [] rel bl).Perm ((inl.map A0).filter fun f=>f.qm == rel):=fun rel=>by simpa using hP rel
   obtain⟨out,hout,hD⟩:=hdef bl hPe
   have hbn:∀ rel,(mget keq1 [] rel bl).length<=1000000:=fun rel=>by
    rw[(hPe rel).length_eq];exact Nat.le_trans (F7 _ _) (by rw[C0];omega)
   have hcall:=Try.try128 D g caps (mtail M w.heap.size w9) (fun d N w'=>S d N w'/\Sub (mtail M w.heap.size w9) N) (hcb.above s9 hM0) w.heap.size (w.heap.size+1) (w.heap.size+1+1) wr.heap.size (w.heap.size+1+1+1+1) body no bl T9 hbn body 0 (D6 8 0) out d (mtail M w.heap.size w9) w9 rfl (Nat.zero_le _) rfl hout hD ⟨S9,Sub.refl _⟩;have en128:=Try.enter128;have HW9:=(show Hid (w9=_) from ew9);unfold tryV at HW9;clear ew9
   go_wp2_with fail
   rw[<- HW9.out];refine Calls.mono hcall ?_
   rintro e w10 ⟨rfl,S10,_⟩
   go_wp2
   refine bodyPost_end (results_none rfl _ _ _) rfl ?_;exact⟨rfl,bl,out,hPe,hout,hcb.down S10 hM0 s9⟩
  have hnx:∀ ty,(Instr.next (.pointer (some ⟨w.heap.size+1+1+1+1+1,0,none⟩)) false ty).run Try.prog wr=_:=fun _=>hrun
  have hen:=hent wn rfl ((hgr.block gi (lt_of_block hbr) (by simp;omega)).trans hbr)
  have hfm:f∈inl.map A0:=by
   have h1:f∈rem.filter fun g=>g.qm == f.qm:=List.mem_filter.2 ⟨List.mem_of_getElem? hj,by simp⟩
   exact (List.mem_filter.1 ((hP f.qm).mem_iff.1 (List.mem_append_right _ h1))).1
  have hwf1:wfI .i64 f.qm=true:=by
   obtain⟨p,hp,rfl⟩:=List.mem_map.1 hfm;exact hwf p hp
  have hjl:=(List.getElem?_eq_some_iff.1 hj).1;obtain⟨w2,ew2⟩:∃ w2,w2=wn.alloc (.cells #[.int .i64 f.qm,.int .i64 f.f_a,.int .i64 f.f_b] 127):=⟨_,rfl⟩
  have z2:w2.heap.size=wr.heap.size+1:=by rw[ew2];simp[hszn]
  have b2:∀ k,k<wr.heap.size->k≠w.heap.size+1+1+1+1+1->w2.heap[k]? = wr.heap[k]?:=fun k hk hne=>by
   rw[ew2,heap_alloc_old _ _ (by omega)];exact hgr.block k hk (fun e=>hne (Option.some.inj e))
  have n9:w2.heap[wr.heap.size]? = some (.cells #[.int .i64 f.qm,.int .i64 f.f_a,.int .i64 f.f_b] 127 (0,0)):=by rw[ew2,<- hszn];exact heap_alloc_new _ _
  have n4:w2.heap[w.heap.size+1+1+1+1]? = some (.cells #[.map (some (w.heap.size+1+1+1))] 191 (0,0)):=by rw[b2 _ (by omega) (by omega),hold _ (by omega) (by omega) (by omega)];exact e4
  have KK:∀ w':World,w'.heap[wr.heap.size]? = w2.heap[wr.heap.size]?->w'.heap[w.heap.size+1+1+1+1]? = w2.heap[w.heap.size+1+1+1+1]?->w'.cell? ⟨w.heap.size+1+1+1+1,0,none⟩=some (.map (some (w.heap.size+1+1+1)))/\w'.cell? ⟨wr.heap.size,0,none⟩=some (.int .i64 f.qm)/\w'.cell? ⟨wr.heap.size,1,none⟩=some (.int .i64 f.f_a)/\w'.cell? ⟨wr.heap.size,2,none⟩=some (.int .i64 f.f_b):=fun w' h1 h2=>by
   rw[n9]at h1;rw[n4]at h2;refine⟨?_,?_,?_,?_⟩ <;> simp[World.cell?,h1,h2]
  have K0:=KK w2.drew rfl rfl;obtain⟨w3,ew3⟩:∃ w3,w3=(w2.alloc (.cells #[.int .i64 f.qm,.int .i64 f.f_a,.int .i64 f.f_b] 127)).drew:=⟨_,rfl⟩
  have z3:w3.heap.size=wr.heap.size+1+1:=by rw[ew3];simp[z2]
  have b3:∀ k,k<w2.heap.size->w3.heap[k]? = w2.heap[k]?:=fun k hk=>by rw[ew3];exact heap_alloc_old w2 _ hk
  have n10:w3.heap[wr.heap.size+1]? = some (.cells #[.int .i64 f.qm,.int .i64 f.f_a,.int .i64 f.f_b] 127 (0,0)):=by rw[ew3,<- z2];exact heap_alloc_new w2 _
  have R3:ByRel w3 (w.heap.size+1+1+1+1+1+1) (w.heap.size+1+1+1) bl es2 clock2:=hR.below fun k hk h1=>by
   have h7:k≠w.heap.size+1+1+1+1+1:=by (rcases h1 with h1 | h1 <;> omega)
   rw[b3 k (by omega),b2 k hk h7]
  have hgm:=R3.at'
  have hgm2:w2.drew.heap[w.heap.size+1+1+1]? = some (.map es2 clock2):=by
   rw[b3 (w.heap.size+1+1+1) (by omega)]at hgm;exact hgm
  obtain⟨v24,hlk,hown,hupd⟩:=R3.step hwf1 oM;have hlk2:=hlk _ hgm2
  have hfar:∀ k,k=wr.heap.size\/k=wr.heap.size+1->v24.ownBlock≠some k:=fun k hk e=>by
   obtain⟨v25,hlk',hown',_⟩:=hR.step hwf1 oM;have h1:=hlk' w3 R3.at';rw[hlk w3 R3.at']at h1;cases h1;have:=(hown'.lt k e).2;omega
  have hMl:(mget keq1 [] f.qm bl).length<=100000:=by
   have h1:=(hP f.qm).length_eq;have h2:=F7 (fun g=>g.qm == f.qm) (inl.map A0);rw[List.length_append]at h1;rw[C0]at h2;omega
  have HW3:=(show Hid (w3=_) from ew3);have HW2:=(show Hid (w2=_) from ew2);obtain⟨i0,hi,hz0,hz1,hz2⟩:=info_parts Try.info127;clear ew2 ew3
  go_wp2
  rw[<- HW2.out];refine wp_region_held_drew (S:=(fun w'=>w'.cell? ⟨w.heap.size+1+1+1+1,0,none⟩=some (.map (some (w.heap.size+1+1+1)))/\w'.cell? ⟨wr.heap.size,0,none⟩=some (.int .i64 f.qm)/\w'.cell? ⟨wr.heap.size,1,none⟩=some (.int .i64 f.f_a)/\w'.cell? ⟨wr.heap.size,2,none⟩=some (.int .i64 f.f_b))) kR K0 (fun hHeld=>?_);refine tkH (i:=0) (v:=.map (some (w.heap.size+1+1+1))) rfl (Or.inl ⟨by kernel_rfl,fun w' hw'=>?_⟩) hHeld ?_
  .obtain⟨q0,q1,q2,q3⟩:=hw';go_simp
  simp only[Act.put,A2,A1,A3,A4,A5,A6];refine tkH (i:=1) (v:=.pointer (some ⟨wr.heap.size,0,none⟩)) rfl (Or.inl ⟨by kernel_rfl,fun w' hw'=>?_⟩) hHeld ?_
  .obtain⟨q0,q1,q2,q3⟩:=hw';go_simp
  simp only[Act.put,A2,A1,A3,A4,A5,A6];refine tkH (i:=2) (v:=.int .i64 f.qm) rfl (Or.inl ⟨by kernel_rfl,fun w' hw'=>?_⟩) hHeld ?_
  .obtain⟨q0,q1,q2,q3⟩:=hw';go_simp
  simp only[Act.put,A2,A1,A3,A4,A5,A6];refine tkH (i:=3) (v:=.map (some (w.heap.size+1+1+1))) rfl (Or.inl ⟨by kernel_rfl,fun w' hw'=>?_⟩) hHeld ?_
  .obtain⟨q0,q1,q2,q3⟩:=hw';go_simp
  simp only[Act.put,A2,A1,A3,A4,A5,A6];refine tkH (i:=4) (v:=.pointer (some ⟨wr.heap.size,0,none⟩)) rfl (Or.inl ⟨by kernel_rfl,fun w' hw'=>?_⟩) hHeld ?_
  .obtain⟨q0,q1,q2,q3⟩:=hw';go_simp
  simp only[Act.put,A2,A1,A3,A4,A5,A6];refine tkH (i:=5) (v:=.int .i64 f.qm) rfl (Or.inl ⟨by kernel_rfl,fun w' hw'=>?_⟩) hHeld ?_
  .obtain⟨q0,q1,q2,q3⟩:=hw';go_simp
  simp only[Act.put,A2,A1,A3,A4,A5,A6];refine tkH (i:=7) (v:=.agg #[.int .i64 f.qm,.int .i64 f.f_a,.int .i64 f.f_b]) rfl (Or.inl ⟨by kernel_rfl,fun w' hw'=>?_⟩) hHeld ?_
  .obtain⟨q0,q1,q2,q3⟩:=hw';go_simp
  simp only[Act.put,A2,A1,A3,A4,A5,A6];have hlk3:=hlk _ R3.at';have K3:=KK w3 (b3 _ oM) (b3 _ oM);refine wpAnyH_ready (rs:=[6,8]) kR (by simp) (AllReadyH.cons rfl (fun K hK=>?_) (AllReadyH.cons rfl (fun K hK=>?_) AllReadyH.nil))
  .rw[if_pos (by kernel_rfl)];go_simp;refine hK.out _ _ K0 (fun hHeld=>?_);clear hK K;refine wpAnyH_ready (rs:=[8]) kR (by simp) (AllReadyH.cons rfl (fun K hK=>?_) AllReadyH.nil);rw[if_pos (by kernel_rfl)];go_simp;rw[<- HW3.out];refine hK.out _ _ K3 (fun hHeld=>?_);clear hK K;refine wpAnyH_ready (rs:=[9]) kR (by simp) (AllReadyH.cons rfl (fun K hK=>?_) AllReadyH.nil);refine step_append_lies w3 (by rfl) (.tmp 24) (.tmp 26) _ (by rfl) (w.heap.size+1+1+1+1+1+1) 127 i0 (.agg #[.int .i64 0,.int .i64 0,.int .i64 0]) 3 24 Try.underlying150 hi hz0 hz1 hz2 rfl oM v24 _ _ (by rfl) hown _ _ _ [.int .i64 f.qm,.int .i64 f.f_a,.int .i64 f.f_b] (by rfl) rfl (F8 n10) (by simp[Value.oneCell']) oM (by unfold maxLen;omega) oM oM _ rfl ?_;intro g1 c1 w5 ho1 hg1 ha1 hl1;obtain⟨es3,clock3,hup,R5⟩:=hupd f _ g1 w5 hg1 ho1 rfl (by rcases ha1 with h1 | h1;exact .inl h1;exact .inr oM)
   have hrow:∀ k,k<w.heap.size+1+1+1+1+1+1->some k≠v24.ownBlock:=fun k hk e=>by have:=(hown.lt k e.symm).1;omega
   have hrow2:∀ k,k=wr.heap.size\/k=wr.heap.size+1->some k≠v24.ownBlock:=fun k hk e=>hfar k hk e.symm
   have b5:∀ k,k<w3.heap.size->some k≠v24.ownBlock->w5.heap[k]? = w3.heap[k]?:=hg1.block;have K5:=KK w5 ((b5 _ oM (hrow2 _ (.inl rfl))).trans (b3 _ oM)) ((b5 _ oM (hrow _ oM)).trans (b3 _ oM));have K6:=KK (setBlock w5 (w.heap.size+1+1+1) (.map es3 clock3)) ((setBlock_other oM).trans ((b5 _ oM (hrow2 _ (.inl rfl))).trans (b3 _ oM))) ((setBlock_other oM).trans ((b5 _ oM (hrow _ oM)).trans (b3 _ oM)));refine hK.out _ _ K5 (fun hHeld=>?_);clear hK K;refine wpAnyH_ready (rs:=[10]) kR (by simp) (AllReadyH.cons rfl (fun K hK=>?_) AllReadyH.nil);rw[if_pos (by kernel_rfl)];go_simp;refine hK.out _ _ K6 (fun hHeld=>?_);clear hK K;refine wpAnyH_done kR ?_ _;have hs5:=hg1.size
   have hall:∀ k,k<w6.heap.size->k≠w.heap.size+1+1+1->k≠w.heap.size+1+1+1+1+1->(setBlock w5 (w.heap.size+1+1+1) (.map es3 clock3)).heap[k]? = w6.heap[k]?:=fun k hk h1 h2=>by
    rw[setBlock_other h1,b5 k (by omega) (hrow k (by omega)),b3 k (by omega),b2 k (by omega) h2,hold k hk h1 h2]
   have hI6:Iter factV (setBlock w5 (w.heap.size+1+1+1) (.map es3 clock3)) (w.heap.size+1+1+1+1+1) gi es clock (rem.eraseIdx j):=hIn.of (by
    rw[setBlock_other (by omega),b5 _ (by omega) (hrow _ (by omega)),b3 _ (by omega),HW2.out,heap_alloc_old _ _ (by omega)])
   go_wp2
   go_roundw
   case rel =>
    refine⟨⟨?_,?_,?_,?_,fun k hk=>?_⟩,?_,hall,_,es3,clock3,rem.eraseIdx j,R5,hI6,hP.take hj,?_⟩
    .show w5.os=w.os
     rw[hg1.os,HW3.out];show w2.os=w.os;rw[HW2.out];exact hgr.os.trans hBr.os
    .show w5.tape=w.tape
     rw[hg1.tape,HW3.out];show w2.tape=w.tape;rw[HW2.out];exact hgr.tape.trans hBr.tape
    .show w5.output=w.output
     rw[hg1.output,HW3.out];show w2.output=w.output;rw[HW2.out];exact hgr.output.trans hBr.output
    .rw[setBlock_size];omega
    .rw[hall k (by omega) (by omega) (by omega)];exact B6.block k hk
    .rw[setBlock_size];omega
    have h1:=mset_len f.qm (mget keq1 [] f.qm bl++[f]) bl;rw[A7,if_pos hjl];omega
   case measure =>
    rw[hI6.left,hI.left,A7,if_pos hjl];omega
  rw[if_pos (by kernel_rfl)];go_simp;rw[<- HW3.out];refine hK.out _ _ K3 (fun hHeld=>?_);clear hK K;refine wpAnyH_ready (rs:=[6]) kR (by simp) (AllReadyH.cons rfl (fun K hK=>?_) AllReadyH.nil);rw[if_pos (by kernel_rfl)];go_simp;refine hK.out _ _ K3 (fun hHeld=>?_);clear hK K;refine wpAnyH_ready (rs:=[9]) kR (by simp) (AllReadyH.cons rfl (fun K hK=>?_) AllReadyH.nil);refine step_append_lies w3 (by rfl) (.tmp 24) (.tmp 26) _ (by rfl) (w.heap.size+1+1+1+1+1+1) 127 i0 (.agg #[.int .i64 0,.int .i64 0,.int .i64 0]) 3 24 Try.underlying150 hi hz0 hz1 hz2 rfl oM v24 _ _ (by rfl) hown _ _ _ [.int .i64 f.qm,.int .i64 f.f_a,.int .i64 f.f_b] (by rfl) rfl (F8 n10) (by simp[Value.oneCell']) oM (by unfold maxLen;omega) oM oM _ rfl ?_;intro g1 c1 w5 ho1 hg1 ha1 hl1;obtain⟨es3,clock3,hup,R5⟩:=hupd f _ g1 w5 hg1 ho1 rfl (by rcases ha1 with h1 | h1;exact .inl h1;exact .inr oM)
  have hrow:∀ k,k<w.heap.size+1+1+1+1+1+1->some k≠v24.ownBlock:=fun k hk e=>by have:=(hown.lt k e.symm).1;omega
  have hrow2:∀ k,k=wr.heap.size\/k=wr.heap.size+1->some k≠v24.ownBlock:=fun k hk e=>hfar k hk e.symm
  have b5:∀ k,k<w3.heap.size->some k≠v24.ownBlock->w5.heap[k]? = w3.heap[k]?:=hg1.block;have K5:=KK w5 ((b5 _ oM (hrow2 _ (.inl rfl))).trans (b3 _ oM)) ((b5 _ oM (hrow _ oM)).trans (b3 _ oM));have K6:=KK (setBlock w5 (w.heap.size+1+1+1) (.map es3 clock3)) ((setBlock_other oM).trans ((b5 _ oM (hrow2 _ (.inl rfl))).trans (b3 _ oM))) ((setBlock_other oM).trans ((b5 _ oM (hrow _ oM)).trans (b3 _ oM)));refine hK.out _ _ K5 (fun hHeld=>?_);clear hK K;refine wpAnyH_ready (rs:=[10]) kR (by simp) (AllReadyH.cons rfl (fun K hK=>?_) AllReadyH.nil);rw[if_pos (by kernel_rfl)];go_simp;refine hK.out _ _ K6 (fun hHeld=>?_);clear hK K;refine wpAnyH_done kR ?_ _;have hs5:=hg1.size
  have hall:∀ k,k<w6.heap.size->k≠w.heap.size+1+1+1->k≠w.heap.size+1+1+1+1+1->(setBlock w5 (w.heap.size+1+1+1) (.map es3 clock3)).heap[k]? = w6.heap[k]?:=fun k hk h1 h2=>by
   rw[setBlock_other h1,b5 k (by omega) (hrow k (by omega)),b3 k (by omega),b2 k (by omega) h2,hold k hk h1 h2]
  have hI6:Iter factV (setBlock w5 (w.heap.size+1+1+1) (.map es3 clock3)) (w.heap.size+1+1+1+1+1) gi es clock (rem.eraseIdx j):=hIn.of (by
   rw[setBlock_other (by omega),b5 _ (by omega) (hrow _ (by omega)),b3 _ (by omega),HW2.out,heap_alloc_old _ _ (by omega)])
  go_wp2
  go_roundw
  case rel =>
   refine⟨⟨?_,?_,?_,?_,fun k hk=>?_⟩,?_,hall,_,es3,clock3,rem.eraseIdx j,R5,hI6,hP.take hj,?_⟩
   .show w5.os=w.os
    rw[hg1.os,HW3.out];show w2.os=w.os;rw[HW2.out];exact hgr.os.trans hBr.os
   .show w5.tape=w.tape
    rw[hg1.tape,HW3.out];show w2.tape=w.tape;rw[HW2.out];exact hgr.tape.trans hBr.tape
   .show w5.output=w.output
    rw[hg1.output,HW3.out];show w2.output=w.output;rw[HW2.out];exact hgr.output.trans hBr.output
   .rw[setBlock_size];omega
   .rw[hall k (by omega) (by omega) (by omega)];exact B6.block k hk
   .rw[setBlock_size];omega
   have h1:=mset_len f.qm (mget keq1 [] f.qm bl++[f]) bl;rw[A7,if_pos hjl];omega
  case measure =>
   rw[hI6.left,hI.left,A7,if_pos hjl];omega
end Go.Proofs
