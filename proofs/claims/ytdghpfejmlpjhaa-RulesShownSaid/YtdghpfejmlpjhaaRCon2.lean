import Derived.Test.YtdghpfejmlpjhaaRInst
import Derived.Laws.EntriesVeiled
set_option linter.all false
set_option maxRecDepth 100000
open Prod renaming fst→A0
open List renaming map_cons→A1, getElem_cons_succ→A3, length_map→A5, getElem_toArray→A6, getElem_cons_zero→A7, setIfInBounds_toArray→A8, set_cons_zero→A9, set_cons_succ→B1, length_eraseIdx→C0, getElem?_map→D1, length_append→D3, getElem?_concat_length→D7, getElem?_append_left→D8, replicate→D9, mem_cons_of_mem→E7, mem_cons→E8, getElem?_eq_getElem→F6, length_cons→F9, eq_nil_of_length_eq_zero→G1, getElem?_eraseIdx→G4, getD_eq_getElem?_getD→G7, length_filter_le→G9, mem_append_right→H0
open Nat renaming le_refl→A2, le_trans→F7
open Go.Result renaming andThen→A4
open Go.MapKept renaming run_getObj_map→C7, run_setObj_map→D6, Stamped→E9, stamped_modify→G5, stamped_push→G6, stamped_iff→G8
open Array renaming getElem?_modify→D0, getElem?_push→D4, getElem?_toList→D5, getElem?_setIfInBounds→G0, getElem?_eq_getElem→G2, length_toList→G3
open Option renaming map_eq_some_iff→D2
open Go.World renaming cell?→E0, news_of_block→F8
namespace Go.Proofs
open Go.RowKit Go.AM
open Go.ChangeMaps (setBlock)
variable {w w':World} {bm clock g gi:Nat} {o':Obj} {κ:Type} {es:LX}
theorem setBlock_at {o:Obj} (h:w.heap[g]? = some o):(setBlock w g o').heap[g]? = some o':=by
 have:=(Array.getElem?_eq_some_iff.1 h).1;unfold setBlock;simp[this]
theorem setBlock_other {k:Nat} (h:k≠g):(setBlock w g o').heap[k]? = w.heap[k]?:=by
 unfold setBlock;simp[G0,Ne.symm h]
theorem setBlock_size:(setBlock w g o').heap.size=w.heap.size:=by
 unfold setBlock;simp
def Iter {κ:Type} (K:κ->Value) (w:World) (gi bm:Nat) (es:LX) (clock:Nat) (rem:List κ):Prop :=
 ∃ seen c0,w.heap[gi]? = some (.mapIter (some bm) clock seen c0)/\clock<=c0/\rem.length=(leftOf es seen).size/\∀ (j:Nat) f e,rem[j]? = some f->(leftOf es seen)[j]? = some e->e.key=K f
theorem Iter.of {K:κ->Value} {rem:List κ} (h:Iter K w gi bm es clock rem) (hb:w'.heap[gi]? = w.heap[gi]?):Iter K w' gi bm es clock rem:=by
 obtain⟨seen,c0,h1,h2⟩:=h;exact⟨seen,c0,hb.trans h1,h2⟩
theorem Iter.lt {K:κ->Value} {rem:List κ} (h:Iter K w gi bm es clock rem):gi<w.heap.size:=by
 obtain⟨seen,c0,h1,h2⟩:=h;exact lt_of_block h1
theorem Iter.next {κ:Type} {K:κ->Value} {w:World} {gi bm:Nat} {es:LX} {clock:Nat} {rem:List κ} (h:Iter K w gi bm es clock rem) (hb:w.heap[bm]? = some (.map es clock)) (hs:E9 es clock) (ty:TypeId) :
  (rem=[]/\(Instr.next (.pointer (some ⟨gi,0,none⟩)) false ty).run Try.prog w=.ok (.tuple #[.bool false]) w) \/
  ∃ (j:Nat) (f:κ) (v:Value) (w1:World),rem[j]? = some f/\(Instr.next (.pointer (some ⟨gi,0,none⟩)) false ty).run Try.prog w=.ok (.tuple #[.bool true,K f,v]) w1/\w.grownBy w1 (some gi)/\w1.heap.size=w.heap.size/\Iter K w1 gi bm es clock (rem.eraseIdx j) /\
   ∀ w2,w2.heap[gi]? = w1.heap[gi]?->w2.heap[bm]? = some (.map es clock)->(Instr.entry (.pointer (some ⟨gi,0,none⟩))).run Try.prog w2=.ok (.tuple #[K f,v]) w2:=by
 obtain⟨seen,c0,h1,h2,h3,h4⟩:=h;obtain⟨hb1,hb2,hb3⟩:=hs
 rcases qga (P:=Try.prog) ty h1 hb hb1 h2 with ⟨r1,r2⟩ | ⟨j,hj,w1,hw1,r2⟩
 .exact .inl ⟨G1 oM,r2⟩
 right
 have hjr:j<rem.length:=by omega
 have hk:=h4 j _ _ (F6 hjr) (G2 hj)
 have hg1:w1.heap[gi]? = some (.mapIter (some bm) clock seen c0):=by
  rcases hw1 with rfl | rfl
  .exact h1
  exact h1
 have hl:=qbP hb2 hj
 have hsz:(leftOf es (seen.push (leftOf es seen)[j].born)).size=(leftOf es seen).size - 1:=by
  rw[<- G3,hl,C0,if_pos (by simpa using hj),G3]
 rw[hk]at r2;refine⟨j,rem[j],_,_,F6 hjr,r2,?_,?_,⟨_,clock,setBlock_at hg1,A2 _,?_,?_⟩,fun w2 e1 e2=>?_⟩
 .rcases hw1 with rfl | rfl
  .exact XE hg1
  obtain⟨t1,t2,t3,t4,t5⟩:=XE (o':=.mapIter (some bm) clock (seen.push (leftOf es seen)[j].born) clock) hg1;exact⟨t1,t2,t3,t4,t5⟩
 .rcases hw1 with rfl | rfl <;> simp[setBlock]
 .rw[C0,if_pos hjr,hsz,h3]
 .intro i f e hf he;rw[<- D5,hl,G4]at he;rw[G4]at hf;split at he
  .rename_i hij;rw[if_pos hij]at hf;exact h4 i f e hf (by rw[<- D5];exact he)
  rename_i hij;rw[if_neg hij]at hf;exact h4 (i+1) f e hf (by rw[<- D5];exact he)
 rw[<- hk];have hm:(leftOf es seen)[j]∈leftOf es seen:=Array.getElem_mem hj;unfold leftOf at hm;have hm2:=(Array.mem_filter.1 hm).1;exact run_entry_at w2 gi bm clock seen es clock _ (by rw[e1];exact setBlock_at hg1) e2 (Array.mem_toList_iff.2 hm2) hb2
def factsC (l:LI):LT:=l.flatMap fun f=>[.int .i64 f.qn,.int .i64 f.f_a,.int .i64 f.f_b]
theorem DL (l m:LI):factsC (l++m)=factsC l++factsC m:=by simp[factsC]
abbrev kE (bl:Lf):LJ:=bl.map fun p=>AV.int .i64 p.1
abbrev tE (bl:Lf):LJ:=bl.map fun _=>AV.top
structure ByRel (w:World) (base gm:Nat) (bl:Lf) (es:LX) (clock:Nat):Prop where
 at':w.heap[gm]? = some (.map es clock)
 ent:EntOk (fun _ _=>none) es clock (kE bl) (tE bl)
 row:∀ (j:Nat) p e,bl[j]? = some p->es[j]? = some e->p.2≠[]/\w.ownsRow base 127 3 e.val p.2.length (factsC p.2)
 apart:∀ (i j:Nat) e f g,es[i]? = some e->es[j]? = some f->e.val.ownBlock=some g->f.val.ownBlock=some g->i=j
 lt:gm<base
theorem ByRel.below {base gm:Nat} {bl:Lf} (h:ByRel w base gm bl es clock) (hB:∀ k,k<w.heap.size->(k=gm\/base<=k)->w'.heap[k]? = w.heap[k]?):ByRel w' base gm bl es clock:=by
 obtain⟨h1,h2,h3,h4,h5⟩:=h;refine⟨(hB gm (lt_of_block h1) (.inl rfl)).trans h1,h2,fun j p e hp he=>⟨(h3 j p e hp he).1,?_⟩,h4,h5⟩;obtain⟨q1,q2⟩:=(h3 j p e hp he).2;refine⟨q1,?_⟩
 rcases q2 with hn | ⟨g,cap,cur,hv,hb,hgg,rest⟩
 .exact .inl hn
 exact .inr ⟨g,cap,cur,hv,hb,by rw[hB g (lt_of_block hgg) (.inr hb)];exact hgg,rest⟩
theorem Try.info127:(Try.prog.info? 127).map (fun i=>(i.zero,i.size,i.bytes))=some (some (.agg #[.int .i64 0,.int .i64 0,.int .i64 0]),3,24):=by kernel_rfl
theorem fits3 (x:Int):keyFits Try.prog 3 (AV.int .i64 x)=true:=by kernel_rfl
theorem qlW (x y:Int):akeq (AV.int .i64 x) (AV.int .i64 y)=keq1 x y:=by simp[akeq,keq1,kbeq]
theorem qdl (k:Int):∀ bl:Lf,(∃ j l,findA (AV.int .i64 k) (kE bl)=some j/\bl[j]? = some (k,l)/\mget keq1 [] k bl=l/\∀ m,mset keq1 k m bl=bl.set j (k,m))\/(findA (AV.int .i64 k) (kE bl)=none/\mget keq1 [] k bl=[]/\∀ m,mset keq1 k m bl=bl++[(k,m)])
 | []=>.inr ⟨rfl,rfl,fun m=>rfl⟩
 | p::r=>by
  have ih:=qdl k r;simp only[kE,A1,findA,mget,mset,qlW]at ih ⊢
  cases hq:keq1 p.1 k with
  | true =>
   have:p.1=k:=by simpa[keq1] using hq
   subst this;exact .inl ⟨0,p.2,rfl,rfl,rfl,fun m=>rfl⟩
  | false =>
   simp only[cN]
   rcases ih with ⟨j,l,h1,h2,h3,h4⟩ | ⟨h1,h2,h3⟩
   .rw[h1];exact .inl ⟨j+1,l,rfl,by simpa using h2,h3,fun m=>by rw[h4];rfl⟩
   rw[h1];exact .inr ⟨rfl,h2,fun m=>by rw[h3];rfl⟩
theorem ByRel.step {w:World} {base gm:Nat} {bl:Lf} {es:LX} {clock:Nat} (h:ByRel w base gm bl es clock) {k:Int} (hwf:wfI .i64 k=true) (hlen:bl.length<1000000000) :
  ∃ v24,(∀ w',w'.heap[gm]? = some (.map es clock)->(Instr.lookup 191 (.map (some gm)) (.int .i64 k) false).run Try.prog w'=.ok v24 w')/\w.ownsRow base 127 3 v24 (mget keq1 [] k bl).length (factsC (mget keq1 [] k bl)) /\
   ∀ (x:rufact) (vv:Value) (g:Nat) (w2:World),w.grownBy w2 v24.ownBlock->w2.ownsRow base 127 3 vv ((mget keq1 [] k bl).length+1) (factsC (mget keq1 [] k bl)++[.int .i64 x.qn,.int .i64 x.f_a,.int .i64 x.f_b])->vv.ownBlock=some g->(v24.ownBlock=some g\/w.heap.size<=g) ->
    ∃ es' clock',(Instr.mapUpdate 191 (.map (some gm)) (.int .i64 k) vv).run Try.prog w2=.ok () (setBlock w2 gm (.map es' clock'))/\ByRel (setBlock w2 gm (.map es' clock')) base gm (mset keq1 k (mget keq1 [] k bl++[x]) bl) es' clock':=by
 obtain⟨h1,E,h3,h4,h5⟩:=h
 have ht:QI Try.prog 191=some (3,150):=by kernel_rfl
 have ht':=Ql ht
 have hkv:(AV.int .i64 k).keyV=some (.int .i64 k):=by simp only[AV.keyV,hwf]
 have hall:(kE bl).all (keyFits Try.prog 3)=true:=by
  rw[List.all_map,List.all_eq_true]
  exact fun p _=>fits3 p.1
 have fnd:=fun w=>YE (P:=Try.prog) (w:=w) (fits3 k) hkv hall E
 obtain⟨E1,E2,E3,E4,E5,E6⟩:=E
 have hsz:es.size=bl.length:=by simpa[kE] using E3.symm
 have hzero:∀ w,(zeroValue 150).run Try.prog w=.ok (.slice none 0 0) w:=Try.zeroValue150
 have kept:∀ {w2:World} {row:LR},w.grownBy w2 row->∀ (j:Nat) p e,bl[j]? = some p->es[j]? = some e->(e.val.ownBlock=none\/e.val.ownBlock≠row)->∀ es' clock',(setBlock w2 gm (.map es' clock')).ownsRow base 127 3 e.val p.2.length (factsC p.2):=by
  intro w2 row hg j p e hp he hne es' clock';have h6:=World.ownsRow.kept (h3 j p e hp he).2 hg hne;obtain⟨q1,q2⟩:=h6;refine⟨q1,?_⟩
  rcases q2 with hn | ⟨g,cap,cur,hv,hb,hgg,rest⟩
  .exact .inl hn
  exact .inr ⟨g,cap,cur,hv,hb,by rw[setBlock_other (by omega)];exact hgg,rest⟩
 have keptN:∀ {w2:World} {vv:Value} {n:Nat} {xs:LT},w2.ownsRow base 127 3 vv n xs->∀ es' clock',(setBlock w2 gm (.map es' clock')).ownsRow base 127 3 vv n xs:=by
  intro w2 vv n xs h6 es' clock';obtain⟨q1,q2⟩:=h6;refine⟨q1,?_⟩
  rcases q2 with hn | ⟨g,cap,cur,hv,hb,hgg,rest⟩
  .exact .inl hn
  exact .inr ⟨g,cap,cur,hv,hb,by rw[setBlock_other (by omega)];exact hgg,rest⟩
 have hlt:∀ (j:Nat) e g,es[j]? = some e->e.val.ownBlock=some g->g<w.heap.size/\gm≠g:=by
  intro j e g he hg
  have hj:j<bl.length:=by rw[<- hsz];exact (Array.getElem?_eq_some_iff.1 he).1
  have:=(h3 j _ e (F6 hj) he).2.lt g hg;omega
 rcases qdl k bl with ⟨j,l,a1,a2,a3,a4⟩ | ⟨a1,a2,a3⟩
 .
  obtain⟨e0,he0⟩:∃ e0,es[j]? = some e0:=by
   have:j<es.size:=by rw[hsz];exact (List.getElem?_eq_some_iff.1 a2).1
   exact⟨_,G2 this⟩
  have hf:∀ w',(Instr.findKey 3 (.int .i64 k) es.toList).run Try.prog w'=.ok (some (j,e0.val)) w'/\e0.key=.int .i64 k:=fun w'=>by
   obtain⟨_,_,hfd⟩:=fnd w'
   rcases hfd with ⟨k1,_,_⟩ | ⟨j',e',k1,k2,k3,k4⟩
   .rw[a1]at k1;cases k1
   rw[a1]at k1;cases k1
   have:es[j]? = some e':=by simpa using k3
   rw[this]at he0;cases he0;exact⟨k2,k4⟩
  have hrow:=h3 j _ e0 a2 he0;simp only[a3,a4];refine⟨e0.val,fun w' hb=>?_,hrow.2,fun x vv g w2 hg ho hvg hat=>⟨es.modify j (fun e'=>{ e' with key:=.int .i64 k,val:=vv }),clock,?_,⟨setBlock_at ((hg.block gm (lt_of_block h1) (fun e=>(hlt j e0 gm he0 e.symm).2 rfl)).trans h1),⟨G5 E1 _ _ (fun _ _=>rfl) (fun e' _ he'=>by rw[he0]at he';cases he';exact ((hf w).2).symm),by simpa using E2,by simp[kE,hsz],by simp[tE,hsz],fun i k' e' hk' he'=>?_,fun i v' e' hv' he'=>?_⟩,fun i p e' hp he'=>?_,fun i i' e f gg he hf' g1 g2=>?_,h5⟩⟩⟩
  .obtain⟨hck,_,_⟩:=fnd w';have hj:es[j]? = some e0:=he0;simp[Instr.lookup,run_underlying ht',C7 hb,hck,(hf w').1,hj,A4]
  .have hb2:w2.heap[gm]? = some (.map es clock):=(hg.block gm (lt_of_block h1) (fun e=>(hlt j e0 gm he0 e.symm).2 rfl)).trans h1;obtain⟨hck,hst,_⟩:=fnd w2;have f4:=(hf w2).2;simp[Instr.mapUpdate,run_underlying ht',C7 hb2,hck,(hf w2).1,he0,f4,hst,D6 _ hb2,A4,setBlock]
  .rw[D0]at he';simp only[kE,D1,D2]at hk';obtain⟨p,hp,rfl⟩:=hk';rw[List.getElem?_set]at hp;split at he'
   .rename_i hij;subst hij;rw[he0]at he';cases he';rw[if_pos rfl]at hp;split at hp
    .cases hp;exact hkv
    cases hp
   rename_i hij;rw[if_neg hij]at hp;exact E5 i _ e' (by simp[kE,hp]) he'
  .simp only[tE,D1,D2]at hv';obtain⟨_,_,rfl⟩:=hv';exact .top _
  rw[D0]at he';rw[List.getElem?_set]at hp;split at he'
  .rename_i hij;subst hij;rw[he0]at he';cases he';rw[if_pos rfl]at hp;split at hp
   .cases hp;refine⟨by simp,?_⟩;rw[DL,D3];exact keptN ho _ _
   cases hp
  rename_i hij;rw[if_neg hij]at hp;refine⟨(h3 i p e' hp he').1,kept hg i p e' hp he' ?_ _ _⟩
  cases hob:e'.val.ownBlock with
  | none=>exact .inl rfl
  | some b=>exact .inr fun e=>hij (h4 j i e0 e' b he0 he' e.symm hob)
  
  rw[D0]at he hf';split at he <;> split at hf'
  .rename_i q1 q2;omega
  .rename_i q1 q2;subst q1;rw[he0]at he;cases he;have g1':vv.ownBlock=some gg:=g1;rw[hvg]at g1';cases g1'
   rcases hat with h6 | h6
   .exact absurd (h4 j i' e0 f _ he0 hf' h6 g2) q2
   have:=(hlt i' f _ hf' g2).1;omega
  .rename_i q1 q2;subst q2;rw[he0]at hf';cases hf';have g2':vv.ownBlock=some gg:=g2;rw[hvg]at g2';cases g2'
   rcases hat with h6 | h6
   .exact absurd (h4 j i e0 e _ he0 he h6 g1) q1
   have:=(hlt i e _ he g1).1;omega
  exact h4 i i' e f gg he hf' g1 g2
 .
  have hf:∀ w',(Instr.findKey 3 (.int .i64 k) es.toList).run Try.prog w'=.ok none w'/\(∀ e∈es.toList,e.key≠.int .i64 k):=fun w'=>by
   obtain⟨_,_,hfd⟩:=fnd w'
   rcases hfd with ⟨k1,k2,k3⟩ | ⟨j',e',k1,k2,k3,k4⟩
   .exact⟨k2,k3⟩
   rw[a1]at k1;cases k1
  simp only[a2,a3];refine⟨.slice none 0 0,fun w' hb=>?_,World.ownsRow_nil _ _ _ _,fun x vv g w2 hg ho hvg hat=>⟨es.push ⟨.int .i64 k,vv,clock⟩,clock+1,?_,⟨setBlock_at ((hg.block gm (lt_of_block h1) (fun e=>by cases e)).trans h1),⟨G6 E1 (hf w).2,by simp[maxLen];omega,by simp[kE,hsz],by simp[tE,hsz],fun i k' e' hk' he'=>?_,fun i v' e' hv' he'=>?_⟩,fun i p e' hp he'=>?_,fun i i' e f gg he hf' g1 g2=>?_,h5⟩⟩⟩
  .obtain⟨hck,_,_⟩:=fnd w';simp[Instr.lookup,run_underlying ht',C7 hb,hck,(hf w').1,hzero,A4]
  .have hb2:w2.heap[gm]? = some (.map es clock):=(hg.block gm (lt_of_block h1) (fun e=>by cases e)).trans h1;obtain⟨hck,hst,_⟩:=fnd w2;simp[Instr.mapUpdate,run_underlying ht',C7 hb2,hck,(hf w2).1,D6 _ hb2,A4,setBlock]
  .rw[D4]at he';simp only[kE,D1,D2]at hk';obtain⟨p,hp,rfl⟩:=hk';split at he'
   .rename_i hi;cases he';rw[hi,hsz,D7]at hp;cases hp;exact hkv
   have hi:=(Array.getElem?_eq_some_iff.1 he').1;rw[D8 (by omega)]at hp;exact E5 i _ e' (by simp[kE,hp]) he'
  .simp only[tE,D1,D2]at hv';obtain⟨_,_,rfl⟩:=hv';exact .top _
  .rw[D4]at he';split at he'
   .rename_i hi;cases he';rw[hi,hsz,D7]at hp;cases hp;refine⟨by simp,?_⟩;have:=keptN ho (es.push ⟨.int .i64 k,vv,clock⟩) (clock+1)
    simpa[factsC] using this
   have hi:=(Array.getElem?_eq_some_iff.1 he').1;rw[D8 (by omega)]at hp;exact⟨(h3 i p e' hp he').1,kept hg i p e' hp he' (by cases hob:e'.val.ownBlock with | none=>exact .inl rfl | some b=>exact .inr fun e=>by cases e) _ _⟩
  rw[D4]at he hf'
  have hnew:∀ (i:Nat) e',es[i]? = some e'->e'.val.ownBlock=some g->False:=fun i e' he' hg'=>by
   have:=(hlt i e' _ he' hg').1
   rcases hat with h6 | h6
   .cases h6
   omega
  split at he <;> split at hf'
  .omega
  .cases he;have g1':vv.ownBlock=some gg:=g1;rw[hvg]at g1';cases g1';exact (hnew i' f hf' g2).elim
  .cases hf';have g2':vv.ownBlock=some gg:=g2;rw[hvg]at g2';cases g2';exact (hnew i e he g1).elim
  exact h4 i i' e f gg he hf' g1 g2
end Go.Proofs
namespace Go.Proofs
open Go.RowKit Go.AM
open Go.ChangeMaps (setBlock)
variable {M:Mem} {B b base bm clock gi o:Nat} {w w0:World} {es:LX} {bl:Lf}
theorem qaB {α β:Type} (f:α->β) {m l:List β} (h:l.Perm m):∀ a:List α,l=a.map f->∃ b:List α,a.Perm b/\m=b.map f:=by
 induction h with
 | nil=>intro a ha;exact⟨a,.refl _,ha⟩
 | cons x h ih =>
  intro a ha
  cases a with
  | nil=>cases ha
  | cons y a =>
   rw[A1]at ha;obtain⟨rfl,h2⟩:=List.cons.inj ha;obtain⟨b,hb,rfl⟩:=ih a h2;exact⟨y::b,hb.cons y,rfl⟩
 | swap x y l =>
  intro a ha
  match a,ha with
  | p::q::a,ha =>
   rw[A1,A1]at ha;obtain⟨rfl,h2⟩:=List.cons.inj ha;obtain⟨rfl,rfl⟩:=List.cons.inj h2;exact⟨q::p::a,List.Perm.swap _ _ _,rfl⟩
 | trans _ _ ih1 ih2 =>
  intro a ha;obtain⟨b,h1,rfl⟩:=ih1 a ha;obtain⟨c,h2,rfl⟩:=ih2 b rfl;exact⟨c,h1.trans h2,rfl⟩
theorem qap {α β:Type}:∀ {a:List α} {b:List β},a.length=b.length->(a.zip b).map A0=a
 | [],[],_=>rfl
 | x::a,y::b,h=>by simp[qap (by simpa using h:a.length=b.length)]
theorem qfY {inl:LB} (h:R M (mpE qh AV.bool inl) (.map (some gi))):∃ (es:LX) (clock:Nat) (fs:LI),M gi 0=some (mapCell es clock)/\E9 es clock/\(inl.map A0).Perm fs/\fs.length=es.size/\∀ (j:Nat) f e,fs[j]? = some f->es[j]? = some e->e.key=factV f:=by
 have h':R M (.mpv (inl.map fun p=>qh p.1) (inl.map fun p=>AV.bool p.2)) (.map (some gi)):=h;clear h;generalize hks:(inl.map fun p=>qh p.1)=ks at h';generalize hvs:(inl.map fun p=>AV.bool p.2)=vs at h'
 rcases Ug h' with ⟨h0,_,_⟩ | ⟨ks',vs',b,es,clock,hp,hv,h1,h2,h3,h4,h5,h6,h7⟩
 .cases h0
 cases hv
 have hk:(inl.map fun p=>qh p.1).Perm ks':=by
  have h8:=hp.2.2.map A0;rw[qap hp.1,qap hp.2.1]at h8;rw[hks];exact h8
 obtain⟨fs,q1,rfl⟩:=qaB qh hk (inl.map A0) (by simp[List.map_map,Function.comp_def]);refine⟨es,clock,fs,h1,h2,q1,by simpa using h4,fun j f e hf he=>?_⟩;have:=h6 j (qh f) e (by simp[hf]) he;obtain⟨l,hl,hkl⟩:=XO this;obtain⟨l1,rfl,hl1,_⟩:=Jf hkl;obtain⟨l2,rfl,hl2,_⟩:=Jf hl1;obtain⟨l3,rfl,hl3,_⟩:=Jf hl2;cases hl3;exact hl
theorem Iter.start {fs:LI} (h:w.heap[gi]? = some (.mapIter (some bm) clock #[] clock)) (hl:fs.length=es.size) (hk:∀ (j:Nat) f e,fs[j]? = some f->es[j]? = some e->e.key=factV f):Iter factV w gi bm es clock fs:=by
 have:leftOf es #[]=es:=by
  unfold leftOf;rw[Array.filter_eq_self];simp
 refine⟨#[],clock,h,A2 _,by rw[this];exact hl,fun j f e hf he=>?_⟩;rw[this]at he;exact hk j f e hf he
def Parts (bl:Lf) (rem all:LI):Prop:=∀ rel,(mget keq1 [] rel bl++rem.filter fun f=>f.qn == rel).Perm (all.filter fun f=>f.qn == rel)
theorem qbs (k rel:Int) (l:LI):∀ bl:Lf,mget keq1 [] rel (mset keq1 k l bl)=if rel=k then l else mget keq1 [] rel bl
 | []=>by
  simp only[mset,mget,keq1];by_cases h:rel=k
  .subst h;simp
  have:(k == rel)=false:=by simp;omega
  simp[this,h]
 | p::r=>by
  have ih:=qbs k rel l r;simp only[mset]
  cases hq:keq1 p.1 k with
  | true =>
   have hpk:p.1=k:=by simpa[keq1] using hq
   simp only[cT,mget,keq1,hpk];by_cases h:rel=k
   .subst h;simp[hpk]
   have h2:(k == rel)=false:=by simp;omega
   rw[h2];simp[h]
  | false =>
   have hpk:¬ p.1=k:=by simpa[keq1] using hq
   simp only[cN,mget];rw[ih];by_cases h:rel=k
   .subst h;rw[hq];simp
   simp[h]
theorem Parts.take {rem all:LI} (h:Parts bl rem all) {j:Nat} {f:rufact} (hj:rem[j]? = some f):Parts (mset keq1 f.qn (mget keq1 [] f.qn bl++[f]) bl) (rem.eraseIdx j) all:=by
 intro rel;refine List.Perm.trans ?_ (h rel);have hlt:=(List.getElem?_eq_some_iff.1 hj).1;have hf:rem[j]=f:=(List.getElem?_eq_some_iff.1 hj).2
 have hp:(rem.filter fun f=>f.qn == rel).Perm ((f::rem.eraseIdx j).filter fun f=>f.qn == rel):=by
  have:rem.Perm (rem[j]::rem.eraseIdx j):=by
   have e:∀ (l:LI) (j:Nat) (h:j<l.length),l.Perm (l[j]::l.eraseIdx j):=by
    intro l
    induction l with
    | nil=>intro j h;simp at h
    | cons a l ih =>
     intro j h
     cases j with
     | zero=>simp
     | succ j =>
      simp only[A3,List.eraseIdx_cons_succ];exact ((ih j (by simpa using h)).cons a).trans (List.Perm.swap _ _ _)
   exact e rem j hlt
  rw[hf]at this;exact this.filter _
 refine List.Perm.trans ?_ (hp.append_left _).symm;rw[qbs,List.filter_cons];by_cases hr:rel=f.qn
 .subst hr;simp
 have:(f.qn == rel)=false:=by simp;omega
 simp[hr,this]
theorem mset_len (k:Int) (l:LI):∀ bl:Lf,(mset keq1 k l bl).length<=bl.length+1
 | []=>by simp[mset]
 | p::r=>by
  have:=mset_len k l r;unfold mset;cases keq1 p.1 k <;> simp <;> omega
def itLeft (es:LX) (gi:Nat) (w:World):Nat:=match w.heap[gi]? with
 | some (.mapIter _ _ seen _)=>(leftOf es seen).size
 | _=>0
theorem Iter.left {κ:Type} {K:κ->Value} {rem:List κ} (h:Iter K w gi bm es clock rem):itLeft es gi w=rem.length:=by
 obtain⟨seen,c0,h1,h2,h3,h4⟩:=h;unfold itLeft;rw[h1];exact h3.symm
def mtail (M:Mem) (B:Nat) (w:World):Mem:=fun b o=>if b<B then M b o else mc w b o
theorem QY (h:b<B):mtail M B w b o=M b o:=by unfold mtail;rw[if_pos h]
theorem JJ (h:B<=b):mtail M B w b o=mc w b o:=by unfold mtail;rw[if_neg (by omega)]
theorem Zl (hC:Cons M w0) (hB:Below B w0 w):Cons (mtail M B w) w:=fun b o u hu=>by
 unfold mtail at hu;split at hu
 .rename_i h;have h1:=hC _ _ _ hu;rw[Qd (hB.block b h)];exact h1
 exact hu
theorem UL (hC:Cons M w0) (hB:Below B w0 w) (hb:w0.heap.size<=B):Sub M (mtail M B w):=fun b o u hu=>by
 rw[QY (by have:=NJ (hC _ _ _ hu);omega)];exact hu
theorem DI {t:TypeId} {fz:Nat×Nat} {cs:LO} {u:Value} (h:w.heap[b]? = some (.cells cs t fz)) (hu:cs[o]? = some u) (ht:isTup u=false):mc w b o=some u:=by
 unfold mc;rw[h];exact Jy hu ht
theorem qkG {v:Value} {l:LI} (h:w.ownsRow base 127 3 v l.length (factsC l)) (hB:B<=base):R (mtail M B w) (lF l) v:=by
 obtain⟨q1,q2⟩:=h
 rcases q2 with ⟨rfl,h0⟩ | ⟨g,cap,cur,rfl,hb,hg,hn,hm,hs,ht⟩
 .have:l=[]:=G1 h0;subst this;exact .lstn _ _ _
 have hcell:∀ (j:Nat) u,(factsC l)[j]? = some u->cur[j]? = some u:=fun j u hu=>by
  have h1:=congrArg (fun l=>l[j]?) ht;simp only[List.getElem?_take,D5,hu]at h1;split at h1
  .exact h1
  cases h1
 have hfl:∀ (j:Nat) c,(flat (l.map qh))[j]? = some c->∃ u,(factsC l)[j]? = some u/\isTup u=false/\∀ M,R M c u:=by
  clear ht q1 hcell hn
  induction l with
  | nil=>intro j c hc;simp[flat]at hc
  | cons f l ih =>
   intro j c hc;have e1:flat ((f::l).map qh)=[.int .i64 f.qn,.int .i64 f.f_a,.int .i64 f.f_b]++flat (l.map qh):=rfl;have e2:factsC (f::l)=[.int .i64 f.qn,.int .i64 f.f_a,.int .i64 f.f_b]++factsC l:=rfl;rw[e1]at hc;rw[e2]
   match j,hc with
   | 0,hc | 1,hc | 2,hc=>cases hc;exact⟨_,rfl,rfl,fun M=>.int _ _⟩
   | j+3,hc =>
    have:∀ {α:Type} (a b c:α) (r:List α),([a,b,c]++r)[j+3]? = r[j]?:=fun a b c r=>by simp
    rw[this]at hc ⊢;exact ih j c hc
 have hl:(l.map qh).length=l.length:=A5 _;show R _ (.lst 127 3 none (l.map qh)) (.slice (some ⟨g,0,none⟩) l.length cap);rw[<- hl];refine .lst (fun j=>(factsC l).getD j undef) (by rw[hl];exact hn) (fun x hx=>?_) (fun x hx=>?_) (fun j c hc=>?_) (fun j c hc=>?_)
 .obtain⟨z,_,rfl⟩:=List.mem_map.1 hx;rfl
 .obtain⟨z,_,rfl⟩:=List.mem_map.1 hx;rfl
 .obtain⟨u,h1,h2,h3⟩:=hfl j c hc;rw[G7,h1,JJ (by omega),Nat.zero_add];exact DI hg (hcell j u h1) h2
 obtain⟨u,h1,h2,h3⟩:=hfl j c hc;rw[G7,h1];exact h3 _
theorem ByRel.freeze {gm:Nat} (h:ByRel w base gm bl es clock) (hB:B<=gm):R (mtail M B w) (mpE (AV.int .i64) lF bl) (.map (some gm)):=by
 obtain⟨h1,⟨E1,E2,E3,E4,E5,E6⟩,h3,h4,h5⟩:=h
 refine .mpv (by rw[JJ hB];exact YK h1) E1 E2 E3 (by simpa[kE] using E3) E5 fun j v e hv he=>?_
 simp only[D1,D2]at hv;obtain⟨p,hp,rfl⟩:=hv;exact qkG (h3 j p e hp he).2 oM
theorem CB.above {D:Li->Prop} {g:Nat} {caps:LO} {M0 M1:Mem} {S:Li->Mem->World->Prop} (hcb:CB D g caps M0 S) (hs:Sub M M1) (hM0:Sub M0 M)   : CB D g caps M1 (fun d N w=>S d N w/\Sub M1 N):=by
 refine⟨hcb.pre,hcb.enter,fun h=>⟨(hcb.cons h.1).1,h.2⟩,fun h hB h1 h2 h3=>⟨hcb.grow h.1 hB h1 h2 h3,Sub.trans h.2 h1⟩,fun h h1 h2=>⟨hcb.down h.1 (Sub.trans hM0 (Sub.trans hs h1)) h2,h1⟩,fun v hv hD h=>(hcb.call v hv hD h.1).mono fun e w' h'=>⟨h'.1,h'.2,h.2⟩⟩
set_option maxHeartbeats 8000000 in
theorem Try.inst116 (D:Li->Prop) (g:Nat) (caps:LO) (M0:Mem) (S:Li->Mem->World->Prop) (hcb:CB D g caps M0 S) (body:LQ) (inl no:LB) (rel:Int) (hargs bv:Value) (gi:Nat) (mo:LR) (d:Li) (M:Mem) (w:World) (hS:S d M w)
  (hha:isTup hargs=false/\hargs.cells=#[hargs]) (hbv:R M (l56 none body) bv) (hin:R M (mpE qh AV.bool inl) (.map (some gi))) (hno:R M (mpE qh AV.bool no) (.map mo)) (hwf:∀ p,p∈inl->wfI .i64 p.1.qn=true) (hlen:inl.length<=100000) (hbl:body.length<=1000)
  (hdef:∀ bl,(∀ rel,(mget keq1 [] rel bl).Perm ((inl.map A0).filter fun f=>f.qn == rel))->∃ out,tryP body no bl body (D9 8 0)=some out/\D (d++out)) :
  Calls Try.prog 116 #[.agg #[.int .i64 rel,hargs,bv],.map (some gi),.map mo,.func (.func g) #[] caps] w fun e w'=>e=retU/\∃ bl out,(∀ rel,(mget keq1 [] rel bl).Perm ((inl.map A0).filter fun f=>f.qn == rel))/\tryP body no bl body (D9 8 0)=some out/\S (d++out) M w':=by
 have mixed:=mixedP;have⟨t3,a3,z3,v3,u3⟩:=Tf3;have⟨t4,a4,z4,v4,u4⟩:=Tf4;have⟨t50,a50,z50,v50,u50⟩:=Tf50;have⟨t52,a52,z52,v52,u52⟩:=Tf52;have⟨t54,a54,z54,v54,u54⟩:=Tf54;have⟨t56,a56,z56,v56,u56⟩:=Tf56;have⟨t105,a105,z105,v105,u105⟩:=Tf105;have⟨t127,a127,z127,v127,u127⟩:=Tf127;have⟨t150,a150,z150,v150,u150⟩:=Tf150;have⟨t178,a178,z178,v178,u178⟩:=Tf178;have⟨t180,a180,z180,v180,u180⟩:=Tf180;have⟨t183,a183,z183,v183,u183⟩:=Tf183;have⟨t191,a191,z191,v191,u191⟩:=Tf191;have⟨t192,a192,z192,v192,u192⟩:=Tf192;obtain⟨hC,hM0⟩:=hcb.cons hS;obtain⟨es,clock,fs,q1,q2,q3,q4,q5⟩:=qfY hin;obtain⟨bs,bc,rfl⟩:=JF hbv;rw[A5]at hbv ⊢;have hgi:=NJ (hC _ _ _ q1);have hmm:=@run_makeMap Try.prog;obtain⟨w5,ew5⟩:∃ w5,w5=((((w.alloc (.cells #[.int .i64 rel,hargs,.slice bs body.length bc] 54)).alloc (.cells #[.map mo] 105)).alloc (.cells #[.func (.func g) #[] caps] 180)).alloc (.map #[] 0)).alloc (.cells #[.map (some (w.heap.size+1+1+1))] 191):=⟨_,rfl⟩
 have z5:w5.heap.size=w.heap.size+1+1+1+1+1:=by rw[ew5];simp
 have B5:Below w.heap.size w w5:=by rw[ew5];exact (((((Below.refl _ _).alloc (A2 _) _).alloc (by simp) _).alloc (by simp;omega) _).alloc (by simp;omega) _).alloc (by simp;omega) _
 have e0:w5.heap[w.heap.size]? = some (.cells #[.int .i64 rel,hargs,.slice bs body.length bc] 54 (0,0)):=by
  rw[ew5,heap_alloc_old _ _ (by simp <;> omega),heap_alloc_old _ _ (by simp <;> omega),heap_alloc_old _ _ (by simp <;> omega),heap_alloc_old _ _ (by simp <;> omega)];exact heap_alloc_new _ _
 have e1:w5.heap[w.heap.size+1]? = some (.cells #[.map mo] 105 (0,0)):=by
  rw[ew5,heap_alloc_old _ _ (by simp <;> omega),heap_alloc_old _ _ (by simp <;> omega),heap_alloc_old _ _ (by simp <;> omega)];have:=heap_alloc_new (w.alloc (.cells #[.int .i64 rel,hargs,.slice bs body.length bc] 54)) (.cells #[.map mo] 105)
  simpa using this
 have e2:w5.heap[w.heap.size+1+1]? = some (.cells #[.func (.func g) #[] caps] 180 (0,0)):=by
  rw[ew5,heap_alloc_old _ _ (by simp <;> omega),heap_alloc_old _ _ (by simp <;> omega)];have:=heap_alloc_new ((w.alloc (.cells #[.int .i64 rel,hargs,.slice bs body.length bc] 54)).alloc (.cells #[.map mo] 105)) (.cells #[.func (.func g) #[] caps] 180)
  simpa using this
 have e3:w5.heap[w.heap.size+1+1+1]? = some (.map #[] 0):=by
  rw[ew5,heap_alloc_old _ _ (by simp <;> omega)];have:=heap_alloc_new (((w.alloc (.cells #[.int .i64 rel,hargs,.slice bs body.length bc] 54)).alloc (.cells #[.map mo] 105)).alloc (.cells #[.func (.func g) #[] caps] 180)) (.map #[] 0)
  simpa using this
 have e4:w5.heap[w.heap.size+1+1+1+1]? = some (.cells #[.map (some (w.heap.size+1+1+1))] 191 (0,0)):=by
  rw[ew5];have:=heap_alloc_new ((((w.alloc (.cells #[.int .i64 rel,hargs,.slice bs body.length bc] 54)).alloc (.cells #[.map mo] 105)).alloc (.cells #[.func (.func g) #[] caps] 180)).alloc (.map #[] 0)) (.cells #[.map (some (w.heap.size+1+1+1))] 191)
  simpa using this
 have hb5:w5.heap[gi]? = some (.map es clock):=(B5.block gi hgi).trans (ZW (hC _ _ _ q1));have hrg:=run_range_map (P:=Try.prog) w5 105 127 4 gi es clock Try.underlying105 hb5;obtain⟨w6,ew6⟩:∃ w6,w6=w5.alloc (.mapIter (some gi) clock #[] clock):=⟨_,rfl⟩
 have z6:w6.heap.size=w.heap.size+1+1+1+1+1+1:=by rw[ew6];simp[z5]
 have B56:∀ k,k<w.heap.size+1+1+1+1+1->w6.heap[k]? = w5.heap[k]?:=fun k hk=>by rw[ew6];exact heap_alloc_old _ _ oM
 have e5:w6.heap[w.heap.size+1+1+1+1+1]? = some (.mapIter (some gi) clock #[] clock):=by
  rw[ew6,<- z5];exact heap_alloc_new _ _
 have B6:Below w.heap.size w w6:=by rw[ew6];exact B5.alloc oM _
 rw[ew5,<- ew5,z5,<- ew6,ew5]at hrg;have e0:=(B56 _ oM).trans e0;have e1:=(B56 _ oM).trans e1;have e2:=(B56 _ oM).trans e2;have e3:=(B56 _ oM).trans e3;have e4:=(B56 _ oM).trans e4;have R0:ByRel w6 (w.heap.size+1+1+1+1+1+1) (w.heap.size+1+1+1) [] #[] 0:=⟨e3,⟨(G8 _ _).2 ⟨by simp,by simp,by simp⟩,Nat.zero_le _,rfl,rfl,fun j k e hk=>by simp at hk,fun j k e hk=>by simp at hk⟩,fun j p e hp=>by simp at hp,fun i j e f g he=>by simp at he,by omega⟩;have I0:Iter factV w6 (w.heap.size+1+1+1+1+1) gi es clock fs:=Iter.start e5 q4 q5
 have P0:Parts [] fs (inl.map A0):=fun rel=>by
  simp only[mget,List.nil_append];exact q3.symm.filter _
 have hfl:fs.length=inl.length:=by rw[<- q3.length_eq,A5]
 have hmf:∀ (fn:Fn) (first cap:LO) (w:World),(Instr.makeFunc fn first cap).run Try.prog w=.ok (.func fn first cap) w:=fun _ _ _ _=>rfl
 clear ew5 ew6 B5 hb5 B56 e3 e5 q5
 go_enter Try.func116,Try.ntmps116
 go_wp2
 go_loopw [] (fun wr=>Below w.heap.size w wr/\w6.heap.size<=wr.heap.size/\(∀ k,k<w6.heap.size->k≠w.heap.size+1+1+1->k≠w.heap.size+1+1+1+1+1->wr.heap[k]? = w6.heap[k]?)/\∃ bl es2 clock2 rem,ByRel wr (w.heap.size+1+1+1+1+1+1) (w.heap.size+1+1+1) bl es2 clock2/\Iter factV wr (w.heap.size+1+1+1+1+1) gi es clock rem/\Parts bl rem (inl.map A0)/\bl.length+rem.length<=inl.length)
  (fun wr=>itLeft es (w.heap.size+1+1+1+1+1) wr)
 case atStart=>exact⟨B6,A2 _,fun _ _ _ _=>rfl,[],#[],0,fs,R0,I0,P0,by simp[hfl]⟩
 case round =>
  obtain⟨hBr,hsz,hold,bl,es2,clock2,rem,hR,hI,hP,hcount⟩:=hrel;have hbr:wr.heap[gi]? = some (.map es clock):=(hBr.block gi hgi).trans (ZW (hC _ _ _ q1))
  rcases hI.next hbr q2 0 with ⟨rfl,hrun⟩ | ⟨j,f,v,wn,hj,hrun,hgr,hszn,hIn,hent⟩
  .have hnx:∀ ty,(Instr.next (.pointer (some ⟨w.heap.size+1+1+1+1+1,0,none⟩)) false ty).run Try.prog wr=_:=fun _=>hrun
   obtain⟨w9,ew9⟩:∃ w9,w9=wr.alloc (.cells #[tryV w.heap.size (w.heap.size+1) (w.heap.size+1+1) wr.heap.size (w.heap.size+1+1+1+1)] 192):=⟨_,rfl⟩
   have B9:Below w.heap.size w w9:=by rw[ew9];exact hBr.alloc oM _
   have k0:w9.heap[w.heap.size]? = some (.cells #[.int .i64 rel,hargs,.slice bs body.length bc] 54 (0,0)):=by rw[ew9,heap_alloc_old _ _ (by omega),hold _ (by omega) (by omega) (by omega)];exact e0
   have k1:w9.heap[w.heap.size+1]? = some (.cells #[.map mo] 105 (0,0)):=by rw[ew9,heap_alloc_old _ _ (by omega),hold _ (by omega) (by omega) (by omega)];exact e1
   have k2:w9.heap[w.heap.size+1+1]? = some (.cells #[.func (.func g) #[] caps] 180 (0,0)):=by rw[ew9,heap_alloc_old _ _ (by omega),hold _ (by omega) (by omega) (by omega)];exact e2
   have k4:w9.heap[w.heap.size+1+1+1+1]? = some (.cells #[.map (some (w.heap.size+1+1+1))] 191 (0,0)):=by rw[ew9,heap_alloc_old _ _ (by omega),hold _ (by omega) (by omega) (by omega)];exact e4
   have k5:w9.heap[wr.heap.size]? = some (.cells #[tryV w.heap.size (w.heap.size+1) (w.heap.size+1+1) wr.heap.size (w.heap.size+1+1+1+1)] 192 (0,0)):=by rw[ew9];exact heap_alloc_new _ _
   have R9:ByRel w9 (w.heap.size+1+1+1+1+1+1) (w.heap.size+1+1+1) bl es2 clock2:=hR.below fun k hk _=>by rw[ew9];exact heap_alloc_old _ _ hk
   have s9:=UL (w:=w9) hC B9 (A2 _);have S9:S d (mtail M w.heap.size w9) w9:=hcb.grow hS B9 s9 (fun b o hb=>QY hb) (Zl hC B9)
   have T9:TE (mtail M w.heap.size w9) w.heap.size (w.heap.size+1) (w.heap.size+1+1) wr.heap.size (w.heap.size+1+1+1+1) body no bl g caps:=by
    refine⟨⟨_,?_,hbv.mono s9⟩,⟨_,?_,hno.mono s9⟩,?_,?_,⟨_,?_,R9.freeze oM⟩,hbl⟩
    .rw[JJ (by omega)];exact DI k0 rfl rfl
    .rw[JJ (by omega)];exact DI k1 rfl rfl
    .rw[JJ (by omega)];exact DI k2 rfl rfl
    .rw[JJ (by omega)];exact DI k5 rfl rfl
    rw[JJ (by omega)];exact DI k4 rfl rfl
   have hPe:∀ rel,(mget keq1 [] rel bl).Perm ((inl.map A0).filter fun f=>f.qn == rel):=fun rel=>by simpa using hP rel
   obtain⟨out,hout,hD⟩:=hdef bl hPe
   have hbn:∀ rel,(mget keq1 [] rel bl).length<=1000000:=fun rel=>by
    rw[(hPe rel).length_eq];exact F7 (G9 _ _) (by rw[A5];omega)
   have hcall:=Try.try128 D g caps (mtail M w.heap.size w9) (fun d N w'=>S d N w'/\Sub (mtail M w.heap.size w9) N) (hcb.above s9 hM0) w.heap.size (w.heap.size+1) (w.heap.size+1+1) wr.heap.size (w.heap.size+1+1+1+1) body no bl T9 hbn body 0 (D9 8 0) out d (mtail M w.heap.size w9) w9 rfl (Nat.zero_le _) rfl hout hD ⟨S9,Sub.refl _⟩;have en128:=Try.enter128;have HW9:=(show Hid (w9=_) from ew9);unfold tryV at HW9;clear ew9
   go_wp2_with fail
   rw[<- HW9.out];refine Calls.mono hcall ?_
   rintro e w10 ⟨rfl,S10,_⟩
   go_wp2
   refine bodyPost_end (results_none rfl _ _ _) rfl ?_;exact⟨rfl,bl,out,hPe,hout,hcb.down S10 hM0 s9⟩
  have hnx:∀ ty,(Instr.next (.pointer (some ⟨w.heap.size+1+1+1+1+1,0,none⟩)) false ty).run Try.prog wr=_:=fun _=>hrun
  have hen:=hent wn rfl ((hgr.block gi (lt_of_block hbr) (by simp;omega)).trans hbr)
  have hfm:f∈inl.map A0:=by
   have h1:f∈rem.filter fun g=>g.qn == f.qn:=List.mem_filter.2 ⟨List.mem_of_getElem? hj,by simp⟩
   exact (List.mem_filter.1 ((hP f.qn).mem_iff.1 (H0 _ h1))).1
  have hwf1:wfI .i64 f.qn=true:=by
   obtain⟨p,hp,rfl⟩:=List.mem_map.1 hfm;exact hwf p hp
  have hjl:=(List.getElem?_eq_some_iff.1 hj).1;obtain⟨w2,ew2⟩:∃ w2,w2=wn.alloc (.cells #[.int .i64 f.qn,.int .i64 f.f_a,.int .i64 f.f_b] 127):=⟨_,rfl⟩
  have z2:w2.heap.size=wr.heap.size+1:=by rw[ew2];simp[hszn]
  have b2:∀ k,k<wr.heap.size->k≠w.heap.size+1+1+1+1+1->w2.heap[k]? = wr.heap[k]?:=fun k hk hne=>by
   rw[ew2,heap_alloc_old _ _ (by omega)];exact hgr.block k hk (fun e=>hne (Option.some.inj e))
  have n9:w2.heap[wr.heap.size]? = some (.cells #[.int .i64 f.qn,.int .i64 f.f_a,.int .i64 f.f_b] 127 (0,0)):=by rw[ew2,<- hszn];exact heap_alloc_new _ _
  have n4:w2.heap[w.heap.size+1+1+1+1]? = some (.cells #[.map (some (w.heap.size+1+1+1))] 191 (0,0)):=by rw[b2 _ (by omega) (by omega),hold _ (by omega) (by omega) (by omega)];exact e4
  have KK:∀ w':World,w'.heap[wr.heap.size]? = w2.heap[wr.heap.size]?->w'.heap[w.heap.size+1+1+1+1]? = w2.heap[w.heap.size+1+1+1+1]?->w'.cell? ⟨w.heap.size+1+1+1+1,0,none⟩=some (.map (some (w.heap.size+1+1+1)))/\w'.cell? ⟨wr.heap.size,0,none⟩=some (.int .i64 f.qn)/\w'.cell? ⟨wr.heap.size,1,none⟩=some (.int .i64 f.f_a)/\w'.cell? ⟨wr.heap.size,2,none⟩=some (.int .i64 f.f_b):=fun w' h1 h2=>by
   rw[n9]at h1;rw[n4]at h2;refine⟨?_,?_,?_,?_⟩ <;> simp[E0,h1,h2]
  have K0:=KK w2.drew rfl rfl;obtain⟨w3,ew3⟩:∃ w3,w3=(w2.alloc (.cells #[.int .i64 f.qn,.int .i64 f.f_a,.int .i64 f.f_b] 127)).drew:=⟨_,rfl⟩
  have z3:w3.heap.size=wr.heap.size+1+1:=by rw[ew3];simp[z2]
  have b3:∀ k,k<w2.heap.size->w3.heap[k]? = w2.heap[k]?:=fun k hk=>by rw[ew3];exact heap_alloc_old w2 _ hk
  have n10:w3.heap[wr.heap.size+1]? = some (.cells #[.int .i64 f.qn,.int .i64 f.f_a,.int .i64 f.f_b] 127 (0,0)):=by rw[ew3,<- z2];exact heap_alloc_new w2 _
  have R3:ByRel w3 (w.heap.size+1+1+1+1+1+1) (w.heap.size+1+1+1) bl es2 clock2:=hR.below fun k hk h1=>by
   have h7:k≠w.heap.size+1+1+1+1+1:=by (rcases h1 with h1 | h1 <;> omega)
   rw[b3 k (by omega),b2 k hk h7]
  have hgm:=R3.at'
  have hgm2:w2.drew.heap[w.heap.size+1+1+1]? = some (.map es2 clock2):=by
   rw[b3 (w.heap.size+1+1+1) (by omega)]at hgm;exact hgm
  obtain⟨v24,hlk,hown,hupd⟩:=R3.step hwf1 oM;have hlk2:=hlk _ hgm2
  have hfar:∀ k,k=wr.heap.size\/k=wr.heap.size+1->v24.ownBlock≠some k:=fun k hk e=>by
   obtain⟨v25,hlk',hown',_⟩:=hR.step hwf1 oM;have h1:=hlk' w3 R3.at';rw[hlk w3 R3.at']at h1;cases h1;have:=(hown'.lt k e).2;omega
  have hMl:(mget keq1 [] f.qn bl).length<=100000:=by
   have h1:=(hP f.qn).length_eq;have h2:=G9 (fun g=>g.qn == f.qn) (inl.map A0);rw[D3]at h1;rw[A5]at h2;omega
  have HW3:=(show Hid (w3=_) from ew3);have HW2:=(show Hid (w2=_) from ew2);obtain⟨i0,hi,hz0,hz1,hz2⟩:=info_parts Try.info127;clear ew2 ew3
  go_wp2
  rw[<- HW2.out];refine wp_region_held_drew (S:=(fun w'=>w'.cell? ⟨w.heap.size+1+1+1+1,0,none⟩=some (.map (some (w.heap.size+1+1+1)))/\w'.cell? ⟨wr.heap.size,0,none⟩=some (.int .i64 f.qn)/\w'.cell? ⟨wr.heap.size,1,none⟩=some (.int .i64 f.f_a)/\w'.cell? ⟨wr.heap.size,2,none⟩=some (.int .i64 f.f_b))) kR K0 (fun hHeld=>?_);refine tkH (i:=0) (v:=.map (some (w.heap.size+1+1+1))) rfl (Or.inl ⟨by kernel_rfl,fun w' hw'=>?_⟩) hHeld ?_
  .obtain⟨q0,q1,q2,q3⟩:=hw';go_simp
  simp only[Act.put,A6,A3,A7,A8,A9,B1];refine tkH (i:=1) (v:=.pointer (some ⟨wr.heap.size,0,none⟩)) rfl (Or.inl ⟨by kernel_rfl,fun w' hw'=>?_⟩) hHeld ?_
  .obtain⟨q0,q1,q2,q3⟩:=hw';go_simp
  simp only[Act.put,A6,A3,A7,A8,A9,B1];refine tkH (i:=2) (v:=.int .i64 f.qn) rfl (Or.inl ⟨by kernel_rfl,fun w' hw'=>?_⟩) hHeld ?_
  .obtain⟨q0,q1,q2,q3⟩:=hw';go_simp
  simp only[Act.put,A6,A3,A7,A8,A9,B1];refine tkH (i:=3) (v:=.map (some (w.heap.size+1+1+1))) rfl (Or.inl ⟨by kernel_rfl,fun w' hw'=>?_⟩) hHeld ?_
  .obtain⟨q0,q1,q2,q3⟩:=hw';go_simp
  simp only[Act.put,A6,A3,A7,A8,A9,B1];refine tkH (i:=4) (v:=.pointer (some ⟨wr.heap.size,0,none⟩)) rfl (Or.inl ⟨by kernel_rfl,fun w' hw'=>?_⟩) hHeld ?_
  .obtain⟨q0,q1,q2,q3⟩:=hw';go_simp
  simp only[Act.put,A6,A3,A7,A8,A9,B1];refine tkH (i:=5) (v:=.int .i64 f.qn) rfl (Or.inl ⟨by kernel_rfl,fun w' hw'=>?_⟩) hHeld ?_
  .obtain⟨q0,q1,q2,q3⟩:=hw';go_simp
  simp only[Act.put,A6,A3,A7,A8,A9,B1];refine tkH (i:=7) (v:=.agg #[.int .i64 f.qn,.int .i64 f.f_a,.int .i64 f.f_b]) rfl (Or.inl ⟨by kernel_rfl,fun w' hw'=>?_⟩) hHeld ?_
  .obtain⟨q0,q1,q2,q3⟩:=hw';go_simp
  simp only[Act.put,A6,A3,A7,A8,A9,B1];have hlk3:=hlk _ R3.at';have K3:=KK w3 (b3 _ oM) (b3 _ oM);refine wpAnyH_ready (rs:=[6,8]) kR (by simp) (AllReadyH.cons rfl (fun K hK=>?_) (AllReadyH.cons rfl (fun K hK=>?_) AllReadyH.nil))
  .rw[if_pos (by kernel_rfl)];go_simp;refine hK.out _ _ K0 (fun hHeld=>?_);clear hK K;refine wpAnyH_ready (rs:=[8]) kR (by simp) (AllReadyH.cons rfl (fun K hK=>?_) AllReadyH.nil);rw[if_pos (by kernel_rfl)];go_simp;rw[<- HW3.out];refine hK.out _ _ K3 (fun hHeld=>?_);clear hK K;refine wpAnyH_ready (rs:=[9]) kR (by simp) (AllReadyH.cons rfl (fun K hK=>?_) AllReadyH.nil);refine step_append_lies w3 (by rfl) (.tmp 24) (.tmp 26) _ (by rfl) (w.heap.size+1+1+1+1+1+1) 127 i0 (.agg #[.int .i64 0,.int .i64 0,.int .i64 0]) 3 24 Try.underlying150 hi hz0 hz1 hz2 rfl oM v24 _ _ (by rfl) hown _ _ _ [.int .i64 f.qn,.int .i64 f.f_a,.int .i64 f.f_b] (by rfl) rfl (F8 n10) (by simp[Value.oneCell']) oM (by unfold maxLen;omega) oM oM _ rfl ?_;intro g1 c1 w5 ho1 hg1 ha1 hl1;obtain⟨es3,clock3,hup,R5⟩:=hupd f _ g1 w5 hg1 ho1 rfl (by rcases ha1 with h1 | h1;exact .inl h1;exact .inr oM)
   have hrow:∀ k,k<w.heap.size+1+1+1+1+1+1->some k≠v24.ownBlock:=fun k hk e=>by have:=(hown.lt k e.symm).1;omega
   have hrow2:∀ k,k=wr.heap.size\/k=wr.heap.size+1->some k≠v24.ownBlock:=fun k hk e=>hfar k hk e.symm
   have b5:∀ k,k<w3.heap.size->some k≠v24.ownBlock->w5.heap[k]? = w3.heap[k]?:=hg1.block;have K5:=KK w5 ((b5 _ oM (hrow2 _ (.inl rfl))).trans (b3 _ oM)) ((b5 _ oM (hrow _ oM)).trans (b3 _ oM));have K6:=KK (setBlock w5 (w.heap.size+1+1+1) (.map es3 clock3)) ((setBlock_other oM).trans ((b5 _ oM (hrow2 _ (.inl rfl))).trans (b3 _ oM))) ((setBlock_other oM).trans ((b5 _ oM (hrow _ oM)).trans (b3 _ oM)));refine hK.out _ _ K5 (fun hHeld=>?_);clear hK K;refine wpAnyH_ready (rs:=[10]) kR (by simp) (AllReadyH.cons rfl (fun K hK=>?_) AllReadyH.nil);rw[if_pos (by kernel_rfl)];go_simp;refine hK.out _ _ K6 (fun hHeld=>?_);clear hK K;refine wpAnyH_done kR ?_ _;have hs5:=hg1.size
   have hall:∀ k,k<w6.heap.size->k≠w.heap.size+1+1+1->k≠w.heap.size+1+1+1+1+1->(setBlock w5 (w.heap.size+1+1+1) (.map es3 clock3)).heap[k]? = w6.heap[k]?:=fun k hk h1 h2=>by
    rw[setBlock_other h1,b5 k (by omega) (hrow k (by omega)),b3 k (by omega),b2 k (by omega) h2,hold k hk h1 h2]
   have hI6:Iter factV (setBlock w5 (w.heap.size+1+1+1) (.map es3 clock3)) (w.heap.size+1+1+1+1+1) gi es clock (rem.eraseIdx j):=hIn.of (by
    rw[setBlock_other (by omega),b5 _ (by omega) (hrow _ (by omega)),b3 _ (by omega),HW2.out,heap_alloc_old _ _ (by omega)])
   go_wp2
   go_roundw
   case rel =>
    refine⟨⟨?_,?_,?_,?_,fun k hk=>?_⟩,?_,hall,_,es3,clock3,rem.eraseIdx j,R5,hI6,hP.take hj,?_⟩
    .show w5.os=w.os
     rw[hg1.os,HW3.out];show w2.os=w.os;rw[HW2.out];exact hgr.os.trans hBr.os
    .show w5.tape=w.tape
     rw[hg1.tape,HW3.out];show w2.tape=w.tape;rw[HW2.out];exact hgr.tape.trans hBr.tape
    .show w5.output=w.output
     rw[hg1.output,HW3.out];show w2.output=w.output;rw[HW2.out];exact hgr.output.trans hBr.output
    .rw[setBlock_size];omega
    .rw[hall k (by omega) (by omega) (by omega)];exact B6.block k hk
    .rw[setBlock_size];omega
    have h1:=mset_len f.qn (mget keq1 [] f.qn bl++[f]) bl;rw[C0,if_pos hjl];omega
   case measure =>
    rw[hI6.left,hI.left,C0,if_pos hjl];omega
  rw[if_pos (by kernel_rfl)];go_simp;rw[<- HW3.out];refine hK.out _ _ K3 (fun hHeld=>?_);clear hK K;refine wpAnyH_ready (rs:=[6]) kR (by simp) (AllReadyH.cons rfl (fun K hK=>?_) AllReadyH.nil);rw[if_pos (by kernel_rfl)];go_simp;refine hK.out _ _ K3 (fun hHeld=>?_);clear hK K;refine wpAnyH_ready (rs:=[9]) kR (by simp) (AllReadyH.cons rfl (fun K hK=>?_) AllReadyH.nil);refine step_append_lies w3 (by rfl) (.tmp 24) (.tmp 26) _ (by rfl) (w.heap.size+1+1+1+1+1+1) 127 i0 (.agg #[.int .i64 0,.int .i64 0,.int .i64 0]) 3 24 Try.underlying150 hi hz0 hz1 hz2 rfl oM v24 _ _ (by rfl) hown _ _ _ [.int .i64 f.qn,.int .i64 f.f_a,.int .i64 f.f_b] (by rfl) rfl (F8 n10) (by simp[Value.oneCell']) oM (by unfold maxLen;omega) oM oM _ rfl ?_;intro g1 c1 w5 ho1 hg1 ha1 hl1;obtain⟨es3,clock3,hup,R5⟩:=hupd f _ g1 w5 hg1 ho1 rfl (by rcases ha1 with h1 | h1;exact .inl h1;exact .inr oM)
  have hrow:∀ k,k<w.heap.size+1+1+1+1+1+1->some k≠v24.ownBlock:=fun k hk e=>by have:=(hown.lt k e.symm).1;omega
  have hrow2:∀ k,k=wr.heap.size\/k=wr.heap.size+1->some k≠v24.ownBlock:=fun k hk e=>hfar k hk e.symm
  have b5:∀ k,k<w3.heap.size->some k≠v24.ownBlock->w5.heap[k]? = w3.heap[k]?:=hg1.block;have K5:=KK w5 ((b5 _ oM (hrow2 _ (.inl rfl))).trans (b3 _ oM)) ((b5 _ oM (hrow _ oM)).trans (b3 _ oM));have K6:=KK (setBlock w5 (w.heap.size+1+1+1) (.map es3 clock3)) ((setBlock_other oM).trans ((b5 _ oM (hrow2 _ (.inl rfl))).trans (b3 _ oM))) ((setBlock_other oM).trans ((b5 _ oM (hrow _ oM)).trans (b3 _ oM)));refine hK.out _ _ K5 (fun hHeld=>?_);clear hK K;refine wpAnyH_ready (rs:=[10]) kR (by simp) (AllReadyH.cons rfl (fun K hK=>?_) AllReadyH.nil);rw[if_pos (by kernel_rfl)];go_simp;refine hK.out _ _ K6 (fun hHeld=>?_);clear hK K;refine wpAnyH_done kR ?_ _;have hs5:=hg1.size
  have hall:∀ k,k<w6.heap.size->k≠w.heap.size+1+1+1->k≠w.heap.size+1+1+1+1+1->(setBlock w5 (w.heap.size+1+1+1) (.map es3 clock3)).heap[k]? = w6.heap[k]?:=fun k hk h1 h2=>by
   rw[setBlock_other h1,b5 k (by omega) (hrow k (by omega)),b3 k (by omega),b2 k (by omega) h2,hold k hk h1 h2]
  have hI6:Iter factV (setBlock w5 (w.heap.size+1+1+1) (.map es3 clock3)) (w.heap.size+1+1+1+1+1) gi es clock (rem.eraseIdx j):=hIn.of (by
   rw[setBlock_other (by omega),b5 _ (by omega) (hrow _ (by omega)),b3 _ (by omega),HW2.out,heap_alloc_old _ _ (by omega)])
  go_wp2
  go_roundw
  case rel =>
   refine⟨⟨?_,?_,?_,?_,fun k hk=>?_⟩,?_,hall,_,es3,clock3,rem.eraseIdx j,R5,hI6,hP.take hj,?_⟩
   .show w5.os=w.os
    rw[hg1.os,HW3.out];show w2.os=w.os;rw[HW2.out];exact hgr.os.trans hBr.os
   .show w5.tape=w.tape
    rw[hg1.tape,HW3.out];show w2.tape=w.tape;rw[HW2.out];exact hgr.tape.trans hBr.tape
   .show w5.output=w.output
    rw[hg1.output,HW3.out];show w2.output=w.output;rw[HW2.out];exact hgr.output.trans hBr.output
   .rw[setBlock_size];omega
   .rw[hall k (by omega) (by omega) (by omega)];exact B6.block k hk
   .rw[setBlock_size];omega
   have h1:=mset_len f.qn (mget keq1 [] f.qn bl++[f]) bl;rw[C0,if_pos hjl];omega
  case measure =>
   rw[hI6.left,hI.left,C0,if_pos hjl];omega
end Go.Proofs
namespace Go.Proofs
open Go.RowKit Go.AM
open Go.ChangeMaps (setBlock)
variable {w w' wR:World} {B base bfr:Nat} {M0:Mem} {out:LB} {L0:LI} {fz:Nat×Nat}
def headsP (out:LB) (head:qo) (d:Li):LI:=d.filterMap fun v=>(qA v head).bind fun f=>if mget qf false f out then none else some f
def okD (head:qo) (L0:LI) (d:Li):Prop:=L0.length+d.length<=1000000000/\∀ v,v∈d->∃ f,qA v head=some f/\wfF f=true
theorem qae (out:LB) (head:qo) (d:Li):(headsP out head d).length<=d.length:=List.length_filterMap_le _ _
structure FS (M0:Mem) (wR:World) (bfr:Nat) (out:LB) (head:qo) (L0:LI) (d:Li) (M:Mem) (w:World):Prop where
 cons:Cons M w
 sub:Sub M0 M
 os:w.os=wR.os
 tape:w.tape=wR.tape
 output:w.output=wR.output
 size:wR.heap.size<=w.heap.size
 block:∀ k,k<wR.heap.size->k≠bfr->w.heap[k]? = wR.heap[k]?
 none':∀ o,M bfr o=none
 row:∃ vc,w.heap[bfr]? = some (.cells #[vc] 150 (0,0))/\w.ownsRow wR.heap.size 127 3 vc (L0++headsP out head d).length (factsC (L0++headsP out head d))/\∀ g,vc.ownBlock=some g->∀ o,M g o=none
theorem Df {vc:Value} {n:Nat} {xs:LT} (h:w.ownsRow base 127 3 vc n xs) (hb:∀ k,k<w.heap.size->vc.ownBlock=some k->w'.heap[k]? = w.heap[k]?):w'.ownsRow base 127 3 vc n xs:=by
 obtain⟨q1,q2⟩:=h;refine⟨q1,?_⟩
 rcases q2 with hn | ⟨g,cap,cur,rfl,hb',hgg,rest⟩
 .exact .inl hn
 exact .inr ⟨g,cap,cur,rfl,hb',by rw[hb g (lt_of_block hgg) rfl];exact hgg,rest⟩
theorem FS.grow {head:qo} {d:Li} {M M':Mem} (h:FS M0 wR bfr out head L0 d M w) (hbf:bfr<wR.heap.size) (hB:Below w.heap.size w w') (hs:Sub M M') (ho:∀ b o,b<w.heap.size->M' b o=M b o) (hC:Cons M' w'):FS M0 wR bfr out head L0 d M' w':=by
 obtain⟨h1,h2,h3,h4,h5,h6,h7,h8,vc,h9,h10,h11⟩:=h;refine⟨hC,Sub.trans h2 hs,hB.os.trans h3,hB.tape.trans h4,hB.output.trans h5,F7 h6 hB.size,fun k hk hne=>(hB.block k oM).trans (h7 k hk hne),fun o=>by rw[ho _ _ (by omega)];exact h8 o,vc,(hB.block bfr oM).trans h9,Df h10 fun k hk _=>hB.block k hk,fun g hg o=>?_⟩;rw[ho _ _ (h10.lt g hg).2];exact h11 g hg o
theorem qci (w:World) (base:Nat) (v:Value) (l:LI) (x:rufact) (hown:w.ownsRow base 127 3 v l.length (factsC l)) (hx:w.heap[B]? = some (.cells #[.int .i64 x.qn,.int .i64 x.f_a,.int .i64 x.f_b] 127 fz)) (hlen:l.length<=1000000000) (hb:base<=w.heap.size) (ty:TypeId) (c0:Nat) :
  ∃ g cap w',(Builtin.append_ #[150,150] ty #[v,.slice (some ⟨B,0,none⟩) 1 c0]).run Try.prog w=.ok (.slice (some ⟨g,0,none⟩) (l.length+1) cap) w'/\w'.ownsRow base 127 3 (.slice (some ⟨g,0,none⟩) (l.length+1) cap) (l.length+1) (factsC (l++[x]))/\w.grownBy w' v.ownBlock/\(v.ownBlock=some g\/g=w.heap.size)/\g<w'.heap.size:=by
 obtain⟨i0,hi,hz0,hz1,hz2⟩:=info_parts Try.info127;have h:=run_append_lies (P:=Try.prog) w 150 ty base 127 i0 (.agg #[.int .i64 0,.int .i64 0,.int .i64 0]) 3 24 Try.underlying150 hi hz0 hz1 hz2 rfl oM v l.length (factsC l) hown ⟨B,0,none⟩ 1 c0 [.int .i64 x.qn,.int .i64 x.f_a,.int .i64 x.f_b] rfl (F8 hx) (by simp[Value.oneCell']) oM (by unfold maxLen;omega) oM hb _ rfl;rw[DL];exact h
theorem VA {ops:Lh} {rest:LF} {o:Oper} {a:Act} {Q:Exit->Act->World->Prop} (hgd:o.guard=none) (s x:Operand) (ho:o.op=.call { callee:=.builtin .append,args:=#[s,x],argTypes:=#[150,150] }) {v:Value} {l:LI} {f:rufact} {c0:Nat} 
  (hs:a.eval s=v) (hx:a.eval x=.slice (some ⟨B,0,none⟩) 1 c0) (hown:w.ownsRow base 127 3 v l.length (factsC l)) (hb:w.heap[B]? = some (.cells #[.int .i64 f.qn,.int .i64 f.f_a,.int .i64 f.f_b] 127 fz)) (hlen:l.length<=1000000000) (hbase:base<=w.heap.size)
  (h:∀ g cap w',w'.ownsRow base 127 3 (.slice (some ⟨g,0,none⟩) (l.length+1) cap) (l.length+1) (factsC (l++[f]))->w.grownBy w' v.ownBlock->(v.ownBlock=some g\/g=w.heap.size)->g<w'.heap.size->wpList Try.prog ops Q rest (a.put o.dst (.slice (some ⟨g,0,none⟩) (l.length+1) cap)) w'):wpList Try.prog ops Q (o::rest) a w:=by
 obtain⟨g,cap,w',hr,h2,h3,h4,h5⟩:=qci w base v l f hown hb hlen hbase o.type c0
 refine wpList_plain hgd fun K hK=>?_
 unfold Oper.wp execOp;simp only[ho,resolve,invoke,builtin,Sem.run_bind,Sem.run_pure,Result.andThen_ok,List.map_toArray,A1,List.map_nil,hs,hx,hr];exact hK _ _ (h g cap w' h2 h3 h4 h5)
theorem Try.enter117:∀ args w,(callFunc 117 args).run Try.prog w=.ok (.enter 117 args) w:=fun args w=>by
 have h := Try.func117;have h1 : Try.f117.name ≠ "runtime.NumGoroutine" := of_decide_eq_true kR
 have h2:Try.f117.body≠none:=fun e=>absurd (show Try.f117.body.isNone=false by kernel_rfl) (by rw[e];decide)
 simp[callFunc,h,h1,h2]
set_option maxHeartbeats 4000000 in
theorem Try.back117 (M0:Mem) (wR:World) (br bo bfr:Nat) (out:LB) (rel:Int) (args:LA) (L0:LI) (hbf:bfr<wR.heap.size) (hv:Value) (h0:M0 br 0=some (.int .i64 rel)) (h1:M0 br 1=some hv) (hr:R M0 (l3 none args) hv) (mo:LR) (h2:M0 bo 0=some (.map mo)) (ho:R M0 (mpE qh AV.bool out) (.map mo))
  (d:Li) (M:Mem) (w:World) (v:LA) (hv8:v.length=8) (hD:okD ⟨rel,args⟩ L0 (d++[v])) (hS:FS M0 wR bfr out ⟨rel,args⟩ L0 d M w) :
  Calls Try.prog 117 #[valsV v,.pointer (some ⟨br,0,none⟩),.pointer (some ⟨bo,0,none⟩),.pointer (some ⟨bfr,0,none⟩)] w fun e w'=>e=retU/\FS M0 wR bfr out ⟨rel,args⟩ L0 (d++[v]) M w':=by
 have mixed:=mixedP;have⟨t3,a3,z3,v3,u3⟩:=Tf3;have⟨t4,a4,z4,v4,u4⟩:=Tf4;have⟨t39,a39,z39,v39,u39⟩:=Tf39;have⟨t50,a50,z50,v50,u50⟩:=Tf50;have⟨t54,a54,z54,v54,u54⟩:=Tf54;have⟨t105,a105,z105,v105,u105⟩:=Tf105;have⟨t127,a127,z127,v127,u127⟩:=Tf127;have⟨t150,a150,z150,v150,u150⟩:=Tf150;have⟨t178,a178,z178,v178,u178⟩:=Tf178;obtain⟨x0,x1,x2,x3,x4,x5,x6,x7,rfl⟩:=eight hv8;obtain⟨f,hf,hwf⟩:=hD.2 _ (H0 _ (List.mem_singleton.2 rfl))
 have hlen:(L0++headsP out ⟨rel,args⟩ d).length<=1000000000:=by
  have h1:=hD.1;have h2:=qae out ⟨rel,args⟩ d;rw[D3]at h1 ⊢;omega
 have hC:=hS.cons;have hsub:=hS.sub;obtain⟨aa,ac,rfl⟩:=JF hr;rw[A5]at hr h1
 have c0:∀ o,(w.alloc o).cell? ⟨br,0,none⟩=some (.int .i64 rel):=fun o=>JS ((hC.alloc o) _ _ _ (hsub _ _ _ h0)) rfl
 have c1:∀ o,(w.alloc o).cell? ⟨br,1,none⟩=some (.slice aa args.length ac):=fun o=>JS ((hC.alloc o) _ _ _ (hsub _ _ _ h1)) rfl
 have c118:=VE (JT [x0,x1,x2,x3,x4,x5,x6,x7] ⟨rel,args⟩ f hf) M (w.alloc (.cells #[.int .i64 x0,.int .i64 x1,.int .i64 x2,.int .i64 x3,.int .i64 x4,.int .i64 x5,.int .i64 x6,.int .i64 x7] 178)) [valsV [x0,x1,x2,x3,x4,x5,x6,x7],.agg #[.int .i64 rel,.slice aa args.length ac]] (glob0 M) (hC.alloc _) rfl (fun j a b ha hb=>by
  match j,ha,hb with
  | 0,ha,hb=>cases ha;cases hb;exact qcs _ _
  | 1,ha,hb=>cases ha;cases hb;exact qdB (hr.mono hsub))
 go_enter Try.func117,Try.ntmps117
 go_wp2_with fail
 refine Calls.mono c118 ?_
 rintro e w5 ⟨fv,M5,rfl,hB5,s5,C5,o5,r5,_⟩
 obtain rfl:fv=.agg #[.int .i64 f.qn,.int .i64 f.f_a,.int .i64 f.f_b]:=Hr r5;have B5:Below w.heap.size w w5:=((Below.refl _ _).alloc (A2 _) _).trans (hB5.mono (by simp));obtain⟨w6,ew6⟩:∃ w6,w6=w5.alloc (.cells #[.int .i64 f.qn,.int .i64 f.f_a,.int .i64 f.f_b] 127):=⟨_,rfl⟩
 have B6:Below w.heap.size w w6:=by rw[ew6];exact B5.alloc B5.size _
 have S6:=hS.grow hbf B6 (Sub.refl M) (fun _ _ _=>rfl) (hC.below B6)
 have n5:w6.heap[w5.heap.size]? = some (.cells #[.int .i64 f.qn,.int .i64 f.f_a,.int .i64 f.f_b] 127 (0,0)):=by rw[ew6];exact heap_alloc_new _ _
 have z6:w6.heap.size=w5.heap.size+1:=by rw[ew6];simp
 have k1:w6.cell? ⟨bo,0,none⟩=some (.map mo):=qG S6.cons (hsub _ _ _ h2) rfl
 have f0:w6.cell? ⟨w5.heap.size,0,none⟩=some (.int .i64 f.qn):=by simp[E0,n5]
 have f1:w6.cell? ⟨w5.heap.size,1,none⟩=some (.int .i64 f.f_a):=by simp[E0,n5]
 have f2:w6.cell? ⟨w5.heap.size,2,none⟩=some (.int .i64 f.f_b):=by simp[E0,n5]
 have hlk:=qhE (ho.mono hsub) hwf w6 S6.cons
 have hheads:headsP out ⟨rel,args⟩ (d++[[x0,x1,x2,x3,x4,x5,x6,x7]])=headsP out ⟨rel,args⟩ d++(if mget qf false f out then [] else [f]):=by
  unfold headsP;rw[List.filterMap_append]
  congr 1
  simp only[List.filterMap_cons,hf,Option.bind_some,List.filterMap_nil];cases mget qf false f out <;> rfl
 have HW:=(show Hid (w6=_) from ew6);obtain⟨bq,ebq⟩:∃ bq,bq=mget qf false f out:=⟨_,rfl⟩;rw[<- ebq]at hheads hlk;rw[ew6]at k1 f0 f1 f2 hlk;clear ew6 c118 ebq
 cases bq with
 | true =>
  have HH:=(show Hid _ from hheads);have H6:=(show Hid _ from S6);clear hheads S6 hS hC hsub c0 c1 hD n5 B5 B6 hB5 z6 s5 C5 o5 r5 hf hwf
  go_wp2
  refine bodyPost_end (results_none rfl _ _ _) rfl ?_;refine⟨rfl,?_⟩;rw[<- HW.out];obtain⟨g1,g2,g3,g4,g5,g6,g7,g8,g9⟩:=H6.out;refine⟨g1,g2,g3,g4,g5,g6,g7,g8,?_⟩;rw[HH.out]
  simpa using g9
 | false =>
  obtain⟨vc,p1,p2,p3⟩:=S6.row;obtain⟨LL,eLL⟩:∃ LL,LL=L0++headsP out ⟨rel,args⟩ d:=⟨_,rfl⟩;rw[<- eLL]at p2 hlen;have HL:=(show Hid _ from eLL);clear eLL;have hbl:bfr<w6.heap.size:=lt_of_block p1;have k2:w6.cell? ⟨bfr,0,none⟩=some vc:=cell_of_one p1;obtain⟨w7,ew7⟩:∃ w7,w7=w6.alloc (.cells #[.int .i64 f.qn,.int .i64 f.f_a,.int .i64 f.f_b] 127):=⟨_,rfl⟩
  have n7:w7.heap[w6.heap.size]? = some (.cells #[.int .i64 f.qn,.int .i64 f.f_a,.int .i64 f.f_b] 127 (0,0)):=by rw[ew7];exact heap_alloc_new _ _
  have z7:w7.heap.size=w6.heap.size+1:=by rw[ew7];simp
  have p27:w7.ownsRow wR.heap.size 127 3 vc LL.length (factsC LL):=by rw[ew7];exact p2.alloc _
  have hbase:wR.heap.size<=w7.heap.size:=by have:=S6.size;omega
  rw[HW.out]at k2;rw[HW.out]at ew7;rw[z6]at n7;have HW7:=(show Hid (w7=_) from ew7);rw[ew7]at n7 p27 hbase
  have hB8:∀ w':World,w7.grownBy w' vc.ownBlock->w'.heap[bfr]? = some (.cells #[vc] 150 (0,0)):=fun w' hg=>by
   rw[hg.block bfr (by omega) (fun e=>by have:=(p2.lt bfr e.symm).1;omega),HW7.out,heap_alloc_old _ _ (by rw[<- HW.out];exact hbl),<- HW.out];exact p1
  have HB:=(show Hid _ from hB8);have H6:=(show Hid _ from S6);have H1:=(show Hid _ from p1);have H2:=(show Hid _ from p2);have H3:=(show Hid _ from p3);have Z6:=(show Hid _ from z6);have Z7:=(show Hid _ from z7);have HH:=(show Hid _ from hheads);clear hB8 ew7 S6 p1 p2 p3 z6 z7 hheads hbl hS hC hsub c0 c1 hD n5 B5 B6 hB5 s5 C5 o5 r5 hf hwf
  go_wp2_with (first | (at_builtin;refine VA rfl (.tmp 14) (.tmp 16) (by rfl) (by rfl) (by rfl) p27 n7 hlen hbase ?_;intro g1 c1 w8 ho8 hg8 ha8 hl8;rw[<- HW7.out]at hg8 ha8;have nb8:=HB.out _ hg8;have d1:=free_of_one nb8;have d2:=cell_of_one nb8))
  refine bodyPost_end (results_none rfl _ _ _) rfl ?_;refine⟨rfl,?_⟩;obtain⟨y1,y2,y3,y4,y5,y6,y7,y8,_⟩:=H6.out;have z7:=Z7.out;have z6:=Z6.out
  have b7:∀ k,k<w6.heap.size->w7.heap[k]? = w6.heap[k]?:=fun k hk=>by rw[HW7.out,<- HW.out];exact heap_alloc_old _ _ hk
  have b8:∀ k,k<w6.heap.size->k≠bfr->some k≠vc.ownBlock->(w8.setCell ⟨bfr,0,none⟩ (.slice (some ⟨g1,0,none⟩) (LL.length+1) c1)).heap[k]? = w6.heap[k]?:=fun k hk h1 h2=>by
   rw[Below.heap_setCell _ _ _ _ h1,hg8.block k (by omega) h2,b7 k hk]
  have hs8:=hg8.size
  have hnew:∀ o,M g1 o=none:=fun o=>by
   rcases ha8 with h | h
   .exact H3.out g1 h o
   cases hm:M g1 o with
   | none=>rfl
   | some u=>have:=NJ (y1 _ _ _ hm);omega
  refine⟨y1.of_blocks fun b o u hu hb=>b8 b hb (fun e=>by rw[e,y8]at hu;cases hu) (fun e=>by rw[H3.out b e.symm]at hu;cases hu),y2,?_,?_,?_,?_,fun k hk hne=>?_,y8,_,one_setCell nb8,?_,fun g hg o=>?_⟩
  .show w8.os=_;rw[hg8.os,HW7.out,<- HW.out];exact y3
  .show w8.tape=_;rw[hg8.tape,HW7.out,<- HW.out];exact y4
  .show w8.output=_;rw[hg8.output,HW7.out,<- HW.out];exact y5
  .rw[jY];omega
  .rw[b8 k (by omega) hne (fun e=>by have:=(World.ownsRow.lt H2.out k e.symm).1;omega)];exact y7 k hk hne
  .rw[HH.out]
   have e1:L0++(headsP out ⟨rel,args⟩ d++(if false=true then [] else [f]))=LL++[f]:=by rw[HL.out];simp
   rw[e1,D3]
   refine Df ho8 fun k hk hkb=>Below.heap_setCell _ _ _ _ fun e=>?_
   have h9:=(ho8.lt k hkb).1;have e:k=bfr:=e;omega
  cases hg;exact hnew o
theorem FS.cb {br bo:Nat} {rel:Int} {args:LA} (hbf:bfr<wR.heap.size) {hv:Value} (h0:M0 br 0=some (.int .i64 rel)) (h1:M0 br 1=some hv) (hr:R M0 (l3 none args) hv) {mo:LR} (h2:M0 bo 0=some (.map mo)) (ho:R M0 (mpE qh AV.bool out) (.map mo)) :
  CB (okD ⟨rel,args⟩ L0) 117 #[.pointer (some ⟨br,0,none⟩),.pointer (some ⟨bo,0,none⟩),.pointer (some ⟨bfr,0,none⟩)] M0 (FS M0 wR bfr out ⟨rel,args⟩ L0):=by
 refine⟨fun h=>⟨?_,fun v hv=>h.2 v (List.mem_append_left _ hv)⟩,Try.enter117,fun h=>⟨h.cons,h.sub⟩,fun h hB hs ho hC=>h.grow hbf hB hs ho hC,fun h h1 h2=>?_,fun v hv8 hD hS=>Try.back117 M0 wR br bo bfr out rel args L0 hbf hv h0 h1 hr mo h2 ho _ _ _ v hv8 hD hS⟩
 .have:=h.1;rw[D3]at this;omega
 obtain⟨y1,y2,y3,y4,y5,y6,y7,y8,vc,y9,y10,y11⟩:=h;rename_i M M' _
 have none_of:∀ {b o:Nat},M b o=none->M' b o=none:=fun {b o} hm=>by
  cases hq:M' b o with
  | none=>rfl
  | some u=>have:=h2 b o u hq;rw[hm]at this;cases this
 exact⟨fun b o u hu=>y1 b o u (h2 b o u hu),h1,y3,y4,y5,y6,y7,fun o=>none_of (y8 o),vc,y9,y10,fun g hg o=>none_of (y11 g hg o)⟩
end Go.Proofs
namespace Go.AM
open Go.Proofs
variable {x y:rufact} {a b out:LB} {d:Li} {k:LA->La} {v:LA}
theorem XP:qf x y=true↔x=y:=by
 obtain⟨a,b,c⟩:=x;obtain⟨d,e,f⟩:=y;simp[qf]
theorem YL:qf x y=false↔x≠y:=by
 rw[<- Bool.not_eq_true,XP]
def byRelL (out:LB):Lf:=out.foldl (fun bl p=>mset keq1 p.1.qn (mget keq1 [] p.1.qn bl++[p.1]) bl) []
def headOk (head:qo) (d:Li):Bool:=d.all fun v=>match qA v head with
 | some f=>wfF f
 | none=>false
def freshL (no out:LB):LH->LI->Option LI
 | [],acc=>some acc
 | r::rs,acc=>chk (decide (r.qe.length<=1000)) ((tryP r.qe no (byRelL out) r.qe (D9 8 0)).bind fun d=>chk (decide (acc.length+d.length<=900000000) && headOk r.qi d) (freshL no out rs (acc++headsP out r.qi d)))
def addF (out:LB) (fr:LI):LB:=fr.foldl (fun o f=>mset qf f true o) out
def consR (l:LH) (no:LB):Nat->LB->Option LB
 | 0,_=>none
 | n+1,out=>chk (decide (out.length<=100000)) ((freshL no out l []).bind fun fr=>bif fr.isEmpty then some out else consR l no n (addF out fr))
def consP (fuel:Nat) (l:LH) (gv no:LB):Option LB :=
 chk (gv.all (fun p=>wfF p.1) && decide (l.length<=100000/\gv.length<=100000)) (consR l no fuel (addF [] (gv.map A0)))
structure NT (out:LB):Prop where
 t:∀ p,p∈out->p.2=true
 n:(out.map A0).Nodup
theorem NT.mget {out:LB} (h:∀ p,p∈out->p.2=true) (f:rufact):mget qf false f out=true↔f∈out.map A0:=by
 induction out with
 | nil=>simp[Go.AM.mget]
 | cons p r ih =>
  have ih:=ih fun q hq=>h q (E7 _ hq)
  simp only[Go.AM.mget]
  cases hq:qf p.1 f with
  | true =>
   have:=XP.1 hq;simp[this,h p (List.mem_cons_self ..)]
  | false =>
   have:=YL.1 hq;simp only[cN,ih,A1,E8];constructor
   .exact .inr
   rintro (h1 | h1)
   .exact absurd h1.symm this
   exact h1
theorem NT.mset {out:LB} (h:NT out) (f:rufact):NT (mset qf f true out)/\(∀ g,g∈(mset qf f true out).map A0↔g=f\/g∈out.map A0)/\out.length<=(mset qf f true out).length/\(f ∉ out.map A0->(mset qf f true out).length=out.length+1):=by
 induction out with
 | nil=>exact⟨⟨by simp[Go.AM.mset],by simp[Go.AM.mset]⟩,by simp[Go.AM.mset],by simp,by simp[Go.AM.mset]⟩
 | cons p r ih =>
  obtain⟨h1,h2⟩:=h;rw[A1,List.nodup_cons]at h2;obtain⟨ih1,ih2,ih3,ih4⟩:=ih ⟨fun q hq=>h1 q (E7 _ hq),h2.2⟩;simp only[Go.AM.mset]
  cases hq:qf p.1 f with
  | true =>
   have:=XP.1 hq;subst this;simp only[cT];refine⟨⟨fun q hq=>?_,by simpa using h2⟩,fun g=>by simp,by simp,fun hn=>absurd (by simp) hn⟩
   rcases List.mem_cons.1 hq with rfl | hq
   .rfl
   exact h1 q (E7 _ hq)
  | false =>
   have hne:=YL.1 hq;simp only[cN];refine⟨⟨fun q hq=>?_,?_⟩,fun g=>?_,by simpa using ih3,fun hn=>?_⟩
   .rcases List.mem_cons.1 hq with rfl | hq
    .exact h1 _ (List.mem_cons_self ..)
    exact ih1.t q hq
   .rw[A1,List.nodup_cons];refine⟨fun hm=>?_,ih1.n⟩
    rcases (ih2 _).1 hm with h | h
    .exact hne h
    exact h2.1 h
   .rw[A1,E8,ih2,A1,E8];constructor
    .rintro (h | h | h)
     .exact .inr (.inl h)
     .exact .inl h
     exact .inr (.inr h)
    rintro (h | h | h)
    .exact .inr (.inl h)
    .exact .inl h
    exact .inr (.inr h)
   rw[F9,ih4 (fun h=>hn (by rw[A1];exact E7 _ h)),F9]
theorem NT.add {fr:LI}:∀ {out:LB},NT out->NT (addF out fr)/\(∀ g,g∈(addF out fr).map A0↔g∈fr\/g∈out.map A0)/\out.length<=(addF out fr).length/\(∀ f,f∈fr->f ∉ out.map A0->out.length<(addF out fr).length):=by
 induction fr with
 | nil=>intro out h;exact⟨h,fun g=>by simp[addF],A2 _,fun f hf=>by simp at hf⟩
 | cons f fr ih =>
  intro out h;obtain⟨m1,m2,m3,m4⟩:=h.mset f;obtain⟨a1,a2,a3,a4⟩:=ih m1;have e:addF out (f::fr)=addF (Go.AM.mset qf f true out) fr:=rfl;rw[e];refine⟨a1,fun g=>?_,F7 m3 a3,fun g hg hn=>?_⟩
  .rw[a2,m2,E8];constructor
   .rintro (h | h | h)
    .exact .inl (.inr h)
    .exact .inl (.inl h)
    exact .inr h
   rintro ((h | h) | h)
   .exact .inr (.inl h)
   .exact .inl h
   exact .inr (.inr h)
  rcases List.mem_cons.1 hg with rfl | hg
  .have:=m4 hn;omega
  by_cases hgf:g=f
  .subst hgf;have:=m4 hn;omega
  have:=a4 g hg (fun h=>by
   rcases (m2 g).1 h with h | h
   .exact hgf h
   exact hn h)
  omega
theorem NT.nodup (h:NT out):out.Nodup:=List.Pairwise.of_map A0 (fun a b h e=>h (by rw[e])) h.n
theorem NT.mem (h:NT out) (p:rufact×Bool):p∈out↔p.2=true/\p.1∈out.map A0:=by
 constructor
 .intro hp;exact⟨h.t p hp,List.mem_map.2 ⟨p,hp,rfl⟩⟩
 rintro⟨h1,h2⟩
 obtain⟨q,hq,he⟩:=List.mem_map.1 h2;have:=h.t q hq;have:q=p:=Prod.ext he (by rw[h1,this]);rw[<- this];exact hq
theorem NT.perm (ha:NT a) (hb:NT b) (h:∀ g,g∈a.map A0↔g∈b.map A0):a.Perm b:=by
 classical
 refine (List.perm_ext_iff_of_nodup ha.nodup hb.nodup).2 fun p=>?_
 rw[ha.mem,hb.mem,h]
theorem NT.of_perm (ha:NT a) (h:a.Perm b):NT b:=⟨fun p hp=>ha.t p (h.mem_iff.2 hp),(h.map A0).nodup_iff.1 ha.n⟩
theorem NT.empty:NT []:=⟨fun p hp=>by simp at hp,by simp⟩
theorem qgO {out':LB} (ha:NT out) (hp:out.Perm out') (head:qo) (d:Li):headsP out head d=headsP out' head d:=by
 have hb:=ha.of_perm hp;unfold headsP
 congr 1
 funext v
 congr 1
 funext f
 have:mget qf false f out=mget qf false f out':=by
  rw[Bool.eq_iff_iff,NT.mget ha.t,NT.mget hb.t,(hp.map A0).mem_iff]
 rw[this]
theorem qfB {head:qo} {d':Li} (hp:d.Perm d'):(headsP out head d).Perm (headsP out head d'):=hp.filterMap _
theorem qdA (rel:Int):∀ (out:LB) (bl:Lf),mget keq1 [] rel (out.foldl (fun bl p=>mset keq1 p.1.qn (mget keq1 [] p.1.qn bl++[p.1]) bl) bl)=mget keq1 [] rel bl++(out.map A0).filter fun f=>f.qn == rel
 | [],bl=>by simp
 | p::out,bl=>by
  rw[List.foldl_cons,qdA rel out,qbs,A1,List.filter_cons];by_cases h:rel=p.1.qn
  .subst h;simp
  have:(p.1.qn == rel)=false:=by simp;omega
  simp[h,this]
theorem ZC (rel:Int) (out:LB):mget keq1 [] rel (byRelL out)=(out.map A0).filter fun f=>f.qn == rel:=by
 unfold byRelL;rw[qdA];simp[mget]
theorem qkb {k':LA->La} {a:qo} (hk:∀ v o,k v=some o->∃ o',k' v=some o'/\o.Perm o'):∀ (gs:LI) (o:Li),fitL k a v gs=some o->∃ o',fitL k' a v gs=some o'/\o.Perm o':=by
 intro gs
 induction gs with
 | nil=>intro o h;cases h;exact⟨[],rfl,List.Perm.refl _⟩
 | cons g gs ih =>
  intro o h;unfold fitL at h;obtain⟨p,hp,h⟩:=qb h;obtain⟨l,hl,h⟩:=qb h;obtain⟨m,hm,h⟩:=qb h;cases h;obtain⟨m',hm',pm⟩:=ih m hm
  obtain⟨l',hl',pl⟩:∃ l',(bif p.2 then k' p.1 else some [])=some l'/\l.Perm l':=by
   cases hb:p.2 with
   | true =>
    rw[hb]at hl;exact hk _ _ hl
   | false =>
    rw[hb]at hl;cases hl;exact⟨[],rfl,List.Perm.refl _⟩
  refine⟨l'++m',?_,pl.append pm⟩;unfold fitL;rw[hp];show (bif p.2 then k' p.1 else some []).bind _=_;rw[hl'];show (fitL k' a v gs).bind _=_;rw[hm'];rfl
theorem qka {a:qo} {gs gs':LI} (h:gs.Perm gs'):∀ o,fitL k a v gs=some o->∃ o',fitL k a v gs'=some o'/\o.Perm o':=by
 induction h with
 | nil=>intro o h;exact⟨o,h,List.Perm.refl _⟩
 | cons g hp ih =>
  intro o h;unfold fitL at h;obtain⟨p,hp,h⟩:=qb h;obtain⟨l,hl,h⟩:=qb h;obtain⟨m,hm,h⟩:=qb h;cases h;obtain⟨m',hm',pm⟩:=ih m hm;refine⟨l++m',?_,pm.append_left l⟩;unfold fitL;rw[hp];show (bif p.2 then k p.1 else some []).bind _=_;rw[hl];show (fitL k a v _).bind _=_;rw[hm'];rfl
 | swap g1 g2 gs =>
  intro o h;unfold fitL at h;obtain⟨p,hp,h⟩:=qb h;obtain⟨l,hl,h⟩:=qb h;obtain⟨m,hm,h⟩:=qb h;cases h;unfold fitL at hm;obtain⟨p',hp',hm⟩:=qb hm;obtain⟨l',hl',hm⟩:=qb hm;obtain⟨m',hm',hm⟩:=qb hm;cases hm;refine⟨l'++(l++m'),?_,?_⟩
  .unfold fitL;rw[hp'];show (bif p'.2 then k p'.1 else some []).bind _=_;rw[hl'];show (fitL k a v (g2::gs)).bind _=_;unfold fitL;rw[hp];show ((bif p.2 then k p.1 else some []).bind _).bind _=_;rw[hl];show ((fitL k a v gs).bind _).bind _=_;rw[hm'];rfl
  rw[<- List.append_assoc,<- List.append_assoc];exact List.perm_append_comm.append_right _
 | trans _ _ ih1 ih2 =>
  intro o h;obtain⟨o1,h1,p1⟩:=ih1 o h;obtain⟨o2,h2,p2⟩:=ih2 o1 h1;exact⟨o2,h2,p1.trans p2⟩
theorem UB {all:LQ} {no:LB} {bl bl':Lf} (hp:∀ rel,(mget keq1 [] rel bl).Perm (mget keq1 [] rel bl')):∀ (body:LQ) (v:LA) (o:Li),tryP all no bl body v=some o->∃ o',tryP all no bl' body v=some o'/\o.Perm o':=by
 intro body
 induction body with
 | nil=>intro v o h;exact⟨o,h,List.Perm.refl _⟩
 | cons x body ih =>
  intro v o h;unfold tryP at h ⊢
  cases hn:x.qw with
  | true =>
   rw[hn]at h;exact ih v o h
  | false =>
   rw[hn]at h;obtain⟨hc,h⟩:=qm (show chk (wfI .i64 x.qg.qc) (fitL (tryP all no bl body) x.qg v (mget keq1 [] x.qg.qc bl))=some o from h);obtain⟨o1,h1,p1⟩:=qkb (k':=tryP all no bl' body) (fun v o h=>ih v o h) _ _ h;obtain⟨o2,h2,p2⟩:=qka (hp x.qg.qc) _ h1;refine⟨o2,?_,p1.trans p2⟩;show chk (wfI .i64 x.qg.qc) _=_;rw[hc];exact h2
theorem qcY {head:qo} (h:headOk head d=true):∀ v,v∈d->∃ f,qA v head=some f/\wfF f=true:=by
 intro v hv;have:=List.all_eq_true.1 h v hv
 cases hg:qA v head with
 | none=>rw[hg]at this;cases this
 | some f=>rw[hg]at this;exact⟨f,rfl,this⟩
theorem qjW {head:qo} (h:headOk head d=true):∀ f,f∈headsP out head d->wfF f=true/\mget qf false f out=false:=by
 intro f hf;unfold headsP at hf;obtain⟨v,hv,he⟩:=List.mem_filterMap.1 hf;obtain⟨g,h1,h2⟩:=qcY h v hv;rw[h1]at he;simp only[Option.bind_some]at he;split at he
 .cases he
 rename_i hq;cases he;exact⟨h2,by simpa using hq⟩
end Go.AM
namespace Go.AM
open Go.RowKit Go.Proofs
open Go.ChangeMaps (setBlock)
variable {K V:Type} {F:K->AV} {G:V->AV} {eq:K->K->Bool}
variable {M:Mem} {w:World} {g:Nat} {o':Obj}
def MapAt (M:Mem) (w:World) (g:Nat) (F:K->AV) (G:V->AV) (l:List (K×V)):Prop :=
 ∃ es clock,w.heap[g]? = some (.map es clock)/\EntOk M es clock (l.map fun p=>F p.1) (l.map fun p=>G p.2)
theorem MapAt.mono {M M':Mem} {w:World} {g:Nat} {l:List (K×V)} (h:MapAt M w g F G l) (hs:Sub M M'):MapAt M' w g F G l:=by
 obtain⟨es,clock,h1,h2⟩:=h;exact⟨es,clock,h1,h2.mono hs⟩
theorem MapAt.of {w':World} {l:List (K×V)} (h:MapAt M w g F G l) (hb:w'.heap[g]? = w.heap[g]?):MapAt M w' g F G l:=by
 obtain⟨es,clock,h1,h2⟩:=h;exact⟨es,clock,hb.trans h1,h2⟩
theorem MapAt.lt {l:List (K×V)} (h:MapAt M w g F G l):g<w.heap.size:=by
 obtain⟨es,clock,h1,_⟩:=h;exact (Array.getElem?_eq_some_iff.1 h1).1
theorem MapAt.empty (h:w.heap[g]? = some (.map #[] 0)):MapAt M w g F G []:=⟨#[],0,h,(G8 _ _).2 ⟨by simp,by simp,by simp⟩,Nat.zero_le _,rfl,rfl,fun j k e hk=>by simp at hk,fun j k e hk=>by simp at hk⟩
theorem Try.update_own {es:LX} {clock:Nat} {t kt e:TypeId} {l:List (K×V)} (E:EntOk M es clock (l.map fun p=>F p.1) (l.map fun p=>G p.2)) (ht:QI Try.prog t=some (kt,e)) (hf:∀ x,keyFits Try.prog kt (F x)=true) (he:∀ x y,akeq (F x) (F y)=eq x y) {k:K} {v:V} {kv vv:Value} (hkv:(F k).keyV=some kv) (hvv:R M (G v) vv) (hl:l.length<1000000000) :
  ∃ es' clock',EntOk M es' clock' ((mset eq k v l).map fun p=>F p.1) ((mset eq k v l).map fun p=>G p.2)/\∀ (w:World) (g:Nat),w.heap[g]? = some (.map es clock)->(Instr.mapUpdate t (.map (some g)) kv vv).run Try.prog w=.ok () (setBlock w g (.map es' clock')):=by
 have ht':=Ql ht
 have fnd:=fun w=>YE (P:=Try.prog) (w:=w) (hf k) hkv (UR hf l) E
 obtain⟨E1,E2,E3,E4,E5,E6⟩:=E;have w0:World:=(default:World);obtain⟨_,_,hfd⟩:=fnd w0
 rcases hfd with ⟨f1,_,f3⟩ | ⟨j,e0,f1,_,f3,f4⟩
 .rcases Dr (G:=G) he k v l with ⟨i,g1,_⟩ | ⟨g1,g2,g3⟩
  .rw[f1]at g1;cases g1
  rw[g2,g3];refine⟨es.push ⟨kv,vv,clock⟩,clock+1,⟨G6 E1 f3,by simp[maxLen];simp at E3;omega,by simp at E3 ⊢;exact E3,by simp at E4 ⊢;exact E4,fun j k' e' hk' he'=>?_,fun j v' e' hv' he'=>?_⟩,fun w g hb=>?_⟩
  .rw[D4]at he';split at he'
   .rename_i hj;cases he';rw[hj,<- E3]at hk';simp only[D7,Option.some.injEq]at hk';subst hk';exact hkv
   rename_i hj
   have hjl:j<(l.map fun p=>F p.1).length:=by
    have:=(Array.getElem?_eq_some_iff.1 he').1;omega
   rw[D8 hjl]at hk';exact E5 j k' e' hk' he'
  .rw[D4]at he';split at he'
   .rename_i hj;cases he';rw[hj,<- E4]at hv';simp only[D7,Option.some.injEq]at hv';subst hv';exact hvv
   rename_i hj
   have hjl:j<(l.map fun p=>G p.2).length:=by
    have:=(Array.getElem?_eq_some_iff.1 he').1;omega
   rw[D8 hjl]at hv';exact E6 j v' e' hv' he'
  obtain⟨hck,hst,hfd⟩:=fnd w
  rcases hfd with ⟨_,f2,_⟩ | ⟨j,e0,q1,_⟩
  .simp[Instr.mapUpdate,run_underlying ht',C7 hb,hck,f2,D6 _ hb,A4,setBlock]
  rw[f1]at q1;cases q1
 rcases Dr (G:=G) he k v l with ⟨i,g1,g2,g3⟩ | ⟨g1,_⟩
 .rw[f1]at g1;cases g1;rw[g2,g3]
  have hj:es[j]? = some e0:=by simpa using f3
  have hjs:j<es.size:=(Array.getElem?_eq_some_iff.1 hj).1
  have hkeyf:∀ e',es[j]? = some e'->({ e' with key:=kv,val:=vv }:MapEntry).key=e'.key:=fun e' he'=>by rw[hj]at he';cases he';exact f4.symm
  refine⟨es.modify j (fun e'=>{ e' with key:=kv,val:=vv }),clock,⟨G5 E1 _ _ (fun _ _=>rfl) (fun e' _ he'=>hkeyf e' he'),by simpa using E2,by simpa using E3,by simpa using E4,fun i k' e' hk' he'=>?_,fun i v' e' hv' he'=>?_⟩,fun w g hb=>?_⟩
  .rw[D0]at he';split at he'
   .rename_i hij;subst hij;rw[hj]at he';cases he';show k'.keyV=some kv;rw[<- f4];exact E5 j k' e0 hk' hj
   exact E5 i k' e' hk' he'
  .rw[D0]at he';split at he'
   .rename_i hij;subst hij;rw[hj]at he';cases he';rw[List.getElem?_set_self (by omega)]at hv';cases hv';exact hvv
   rename_i hij;rw[List.getElem?_set_ne hij]at hv';exact E6 i v' e' hv' he'
  obtain⟨hck,hst,hfd⟩:=fnd w
  rcases hfd with ⟨q1,_⟩ | ⟨j',e',q1,f2,q3,q4⟩
  .rw[f1]at q1;cases q1
  rw[f1]at q1;cases q1;simp[Instr.mapUpdate,run_underlying ht',C7 hb,hck,f2,hj,f4,hst,D6 _ hb,A4,setBlock]
 rw[f1]at g1;cases g1
theorem setBlock_at {o:Obj} (h:w.heap[g]? = some o):(setBlock w g o').heap[g]? = some o':=by
 have:=(Array.getElem?_eq_some_iff.1 h).1;unfold setBlock;simp[this]
theorem setBlock_other {k:Nat} (h:k≠g):(setBlock w g o').heap[k]? = w.heap[k]?:=by
 unfold setBlock;simp[G0,Ne.symm h]
theorem setBlock_size:(setBlock w g o').heap.size=w.heap.size:=by
 unfold setBlock;simp
end Go.AM
namespace Go.Proofs
open Go.RowKit Go.AM
open Go.ChangeMaps (setBlock)
variable {M:Mem} {w:World} {g:Nat} {a b out:LB}
def IterG (M:Mem) (es:LX) (w:World) (gi:Nat) (rem:LI):Prop :=
 (es=#[]/\rem=[]/\w.heap[gi]? = some (.mapIter none 0 #[] 0))\/∃ bm clock,M bm 0=some (mapCell es clock)/\E9 es clock/\Iter factV w gi bm es clock rem
theorem IterG.of {M:Mem} {es:LX} {w w':World} {gi:Nat} {rem:LI} (h:IterG M es w gi rem) (hb:w'.heap[gi]? = w.heap[gi]?):IterG M es w' gi rem:=by
 rcases h with ⟨h1,h2,h3⟩ | ⟨bm,clock,h1,h2,h3⟩
 .exact .inl ⟨h1,h2,hb.trans h3⟩
 exact .inr ⟨bm,clock,h1,h2,h3.of hb⟩
theorem IterG.left {M:Mem} {es:LX} {w:World} {gi:Nat} {rem:LI} (h:IterG M es w gi rem):itLeft es gi w=rem.length:=by
 rcases h with ⟨h1,h2,h3⟩ | ⟨bm,clock,h1,h2,h3⟩
 .subst h1;subst h2;unfold itLeft;rw[h3];rfl
 exact h3.left
theorem IterG.next {M:Mem} {es:LX} {w:World} {gi:Nat} {rem:LI} (h:IterG M es w gi rem) (hC:Cons M w) (ty:TypeId) :
  (rem=[]/\(Instr.next (.pointer (some ⟨gi,0,none⟩)) false ty).run Try.prog w=.ok (.tuple #[.bool false]) w) \/
  ∃ (j:Nat) (f:rufact) (v:Value) (w1:World),rem[j]? = some f/\(Instr.next (.pointer (some ⟨gi,0,none⟩)) false ty).run Try.prog w=.ok (.tuple #[.bool true,.agg #[.int .i64 f.qn,.int .i64 f.f_a,.int .i64 f.f_b],v]) w1/\w.grownBy w1 (some gi)/\w1.heap.size=w.heap.size/\IterG M es w1 gi (rem.eraseIdx j) /\
   ∀ w2,w2.heap[gi]? = w1.heap[gi]?->Cons M w2->(Instr.entry (.pointer (some ⟨gi,0,none⟩))).run Try.prog w2=.ok (.tuple #[.agg #[.int .i64 f.qn,.int .i64 f.f_a,.int .i64 f.f_b],v]) w2:=by
 rcases h with ⟨h1,h2,h3⟩ | ⟨bm,clock,h1,h2,h3⟩
 .left;refine⟨h2,?_⟩;simp[Instr.next,getObj,Sem.run,h3,A4]
 rcases h3.next (ZW (hC _ _ _ h1)) h2 ty with ⟨q1,q2⟩ | ⟨j,f,v,w1,q1,q2,q3,q4,q5,q6⟩
 .exact .inl ⟨q1,q2⟩
 exact .inr ⟨j,f,v,w1,q1,q2,q3,q4,.inr ⟨bm,clock,h1,h2,q5⟩,fun w2 e1 e2=>q6 w2 e1 (ZW (e2 _ _ _ h1))⟩
theorem qen {inl:LB} {mv:Value} (h:R M (mpE qh AV.bool inl) mv):∃ (es:LX) (fs:LI),(inl.map A0).Perm fs/\∀ w,Cons M w->∃ o,(Instr.range 105 mv).run Try.prog w=.ok (.pointer (some ⟨w.heap.size,0,none⟩)) (w.alloc o)/\IterG M es (w.alloc o) w.heap.size fs:=by
 obtain⟨mo,rfl⟩:=Zc h
 cases mo with
 | none =>
  have h0:inl=[]:=by
   have h':R M (.mpv (inl.map fun p=>qh p.1) (inl.map fun p=>AV.bool p.2)) (.map none):=h
   rcases Ug h' with ⟨_,h1,_⟩ | ⟨ks',vs',b,es,clock,hp,hv,_⟩
   .exact List.map_eq_nil_iff.1 h1
   cases hv
  subst h0;exact⟨#[],[],List.Perm.refl _,fun w hC=>⟨_,run_range_nilMap w 105 127 4 Try.underlying105,.inl ⟨rfl,rfl,heap_alloc_new _ _⟩⟩⟩
 | some gi =>
  obtain⟨es,clock,fs,q1,q2,q3,q4,q5⟩:=qfY h;refine⟨es,fs,q3,fun w hC=>?_⟩;have hb:=ZW (hC _ _ _ q1);exact⟨_,run_range_map w 105 127 4 gi es clock Try.underlying105 hb,.inr ⟨gi,clock,q1,q2,Iter.start (heap_alloc_new _ _) q4 q5⟩⟩
abbrev SetAt (w:World) (g:Nat) (out:LB):Prop:=MapAt (fun _ _=>none) w g qh AV.bool out
theorem fits127 (x:rufact):keyFits Try.prog 127 (qh x)=true:=by kernel_rfl
theorem SetAt.put (h:SetAt w g out) {f:rufact} (hf:wfF f=true) (hl:out.length<1000000000) :
  ∃ o',(Instr.mapUpdate 105 (.map (some g)) (.agg #[.int .i64 f.qn,.int .i64 f.f_a,.int .i64 f.f_b]) (.bool true)).run Try.prog w=.ok () (setBlock w g o')/\SetAt (setBlock w g o') g (mset qf f true out):=by
 obtain⟨es,clock,hb,hE⟩:=h
 have hk:(qh f).keyV=some (.agg #[.int .i64 f.qn,.int .i64 f.f_a,.int .i64 f.f_b]):=by
  unfold wfF at hf;rw[Bool.and_eq_true,Bool.and_eq_true]at hf;simp only[qh,AV.keyV,keyVs,hf.1.1,hf.1.2,hf.2]
 obtain⟨es',clock',hE',hU⟩:=Try.update_own (t:=105) (kt:=127) (e:=4) (eq:=qf) (G:=AV.bool) hE kR fits127 (fun x y=>rfl) (k:=f) (v:=true) hk (.bool true) hl;exact⟨_,hU w g hb,es',clock',Go.AM.setBlock_at hb,hE'⟩
theorem SetAt.freeze {B:Nat} (h:SetAt w g out) (hB:B<=g):R (mtail M B w) (mpE qh AV.bool out) (.map (some g)):=by
 obtain⟨es,clock,hb,hE⟩:=h
 obtain⟨h2,h3,h4,h5,h6,h7⟩:=EntOk.mono hE (M':=mtail M B w) fun b o u hu=>by cases hu
 exact .mpv (by rw[JJ hB];exact YK hb) h2 h3 h4 h5 h6 h7
theorem qjK (h:a.Perm b):PermKV (b.map fun p=>qh p.1) (b.map fun p=>AV.bool p.2) (a.map fun p=>qh p.1) (a.map fun p=>AV.bool p.2):=by
 refine⟨by simp,by simp,?_⟩
 have e:∀ l:LB,(l.map fun p=>qh p.1).zip (l.map fun p=>AV.bool p.2)=l.map fun p=>(qh p.1,AV.bool p.2):=fun l=>by
  induction l with
  | nil=>rfl
  | cons p l ih=>simp[ih]
 rw[e,e];exact h.symm.map _
theorem qkB (h:a.Perm b) {mo:LR} (hr:R M (mpE qh AV.bool a) (.map mo)):R M (mpE qh AV.bool b) (.map mo):=.mpp (qjK h) hr
theorem FS.pack {M0 M':Mem} {wR:World} {bfr:Nat} {head h2:qo} {L0:LI} {d:Li} (h:FS M0 wR bfr out head L0 d M w) (hs:Sub M' M):FS M' wR bfr out h2 (L0++headsP out head d) [] M w:=by
 obtain⟨y1,y2,y3,y4,y5,y6,y7,y8,vc,y9,y10,y11⟩:=h;refine⟨y1,hs,y3,y4,y5,y6,y7,y8,vc,y9,?_,y11⟩
 have:L0++headsP out head d++headsP out h2 []=L0++headsP out head d:=by simp[headsP]
 rw[this];exact y10
theorem DT {l:LH} {v:Value} (h:R M (l54 none l) v):∃ a cap,v=.slice a l.length cap/\∀ i x,l[i]? = some x->∃ b off hv bv,a=some ⟨b,off,none⟩/\M b (off+i * 3)=some (.int .i64 x.qi.qc)/\M b (off+i * 3+1)=some hv/\M b (off+i * 3+2)=some bv/\R M (l3 none x.qi.qa) hv/\R M (l56 none x.qe) bv:=by
 obtain⟨a,cap,rfl,hc⟩:=qbt h;refine⟨a,cap,by rw[A5],fun i x hx=>?_⟩;obtain⟨b,off,rfl,hcell⟩:=hc i (Xa x) (by simp[hx]);obtain⟨u0,h0,r0⟩:=hcell 0 _ rfl;obtain⟨u1,h1,r1⟩:=hcell 1 _ rfl;obtain⟨u2,h2,r2⟩:=hcell 2 _ rfl;cases r0;exact⟨b,off,u1,u2,rfl,h0,h1,h2,r1,r2⟩
theorem qcS {fr:LI} (h:NT out) {P:rufact->Prop} (h1:∀ f,f∈fr->P f) (h2:∀ p,p∈out->P p.1):∀ p,p∈addF out fr->P p.1:=fun p hp=>by
 rcases (h.add.2.1 p.1).1 (List.mem_map.2 ⟨p,hp,rfl⟩) with h3 | h3
 .exact h1 _ h3
 obtain⟨q,hq,he⟩:=List.mem_map.1 h3;rw[<- he];exact h2 q hq
theorem HI:∀ (fr:LI) (out:LB),(addF out fr).length<=out.length+fr.length
 | [],out=>A2 _
 | f::fr,out=>by
  have h1:=HI fr (mset qf f true out)
  have h2:∀ o:LB,(mset qf f true o).length<=o.length+1:=by
   intro o
   induction o with
   | nil=>simp[mset]
   | cons p r ih =>
    unfold mset;cases qf p.1 f <;> simp <;> omega
  have h3:=h2 out;show (addF (mset qf f true out) fr).length<=_;rw[F9];omega
end Go.Proofs
