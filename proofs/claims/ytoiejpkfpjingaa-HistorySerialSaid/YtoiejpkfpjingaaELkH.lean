import Derived.Test.YtoiejpkfpjingaaELkD
import Derived.Laws.EntriesVeiled
import Derived.StillTailTactics
import Derived.BigQuiet
import Derived.Deep.QuietTactic
import Derived.Deep.LoopGhost
import Derived.OwnWalk
import Derived.Deep.RegionHeld3
import Derived.WalkSpells
import Derived.Deep.RegionHeld
import Derived.StillTail
set_option linter.all false
set_option maxRecDepth 100000
open Go.World renaming cell?→A0, frozen?→B9, news_of_block→C4
open Go.Region renaming ready→A1, binds→A8, wanted→B7, Mode→C7
open List renaming getElem_toArray→A2, getElem_cons_succ→A3, getElem_cons_zero→A4, setIfInBounds_toArray→A5, set_cons_zero→A6, set_cons_succ→A7, length_append→A9, mem_singleton→B5, mem_append→C5
open Nat renaming lt_succ_of_lt→B6
open Int renaming toNat_natCast→C6
namespace Go.Proofs
open Go.RowKit Go.AM
open Go.ChangeMaps (setBlock)
structure Gst where
 m:Nat→Option Nat
 dv:Value
 av:Value
 gw:Nat
 es:Array MapEntry
 ck:Nat
 bl:List (Int×List (hsOp×Int))
def Qi (G:Gst) (s:LS):Array Value:=#[.map (G.m 0),.map (G.m 1),.map (G.m 2),.map (G.m 3),.map (G.m 4),.map (G.m 5),.int .i64 (s.ex 0),.int .i64 (s.ex 1),.int .i64 (s.ex 2),.int .i64 (s.ex 3),.int .i64 (s.ex 4),.int .i64 (s.ex 5),G.dv,G.av,.map (some G.gw)]
structure RunB (base br:Nat) (w:World) (L:Nat→Nat) (G:Gst) (s:LS):Prop where
 blk:w.heap[br]? = some (.cells (Qi G s) 101 (0,0))
 lbr:L br=1
 hi:∀ k,w.heap.size≤k→L k=0
 lo:∀ k,L k≠0→base≤k
 sh:∀ i,i<6→ShB w L (10+i) (G.m i) (s.sh i)
 done:RowT w L 3 44 3 G.dv s.done.length (opsC s.done)
 ab:RowT w L 4 3 1 G.av s.ab.length (intsV s.ab)
 lgw:L G.gw=2
 wt:WtB w L G.gw G.es G.ck G.bl
 hwt:∀ t,s.wt t=mget keq1 [] t G.bl
theorem Ui {i:Nat} (h:i<6):i=0∨i=1∨i=2∨i=3∨i=4∨i=5:=by omega
section
variable {base br:Nat} {w:World} {L:Nat→Nat} {G:Gst} {s:LS}
theorem RunB.lt (h:RunB base br w L G s):br<w.heap.size:=(Array.getElem?_eq_some_iff.1 h.blk).1
theorem RunB.base_le (h:RunB base br w L G s):base≤w.heap.size:=by
 have:=h.lo br (by rw[h.lbr];decide);have:=h.lt;omega
theorem RunB.cell_m (h:RunB base br w L G s) {i:Nat} (hi:i<6):w.cell? ⟨br,i,none⟩=some (.map (G.m i)):=by
 rcases Ui hi with rfl | rfl | rfl | rfl | rfl | rfl <;> simp[A0,h.blk,Qi]
theorem RunB.cell_ex (h:RunB base br w L G s) {i:Nat} (hi:i<6):w.cell? ⟨br,6+i,none⟩=some (.int .i64 (s.ex i)):=by
 rcases Ui hi with rfl | rfl | rfl | rfl | rfl | rfl <;> simp[A0,h.blk,Qi]
theorem RunB.cell_done (h:RunB base br w L G s):w.cell? ⟨br,12,none⟩=some G.dv:=by simp[A0,h.blk,Qi]
theorem RunB.cell_ab (h:RunB base br w L G s):w.cell? ⟨br,13,none⟩=some G.av:=by simp[A0,h.blk,Qi]
theorem RunB.cell_wt (h:RunB base br w L G s):w.cell? ⟨br,14,none⟩=some (.map (some G.gw)):=by simp[A0,h.blk,Qi]
theorem RunB.free (h:RunB base br w L G s) (o:Nat):w.frozen? ⟨br,o,none⟩=false:=by simp[B9,h.blk]
theorem RunB.heap {w':World} (h:RunB base br w L G s) (hh:w'.heap=w.heap):RunB base br w' L G s:=by
 have hg:∀ r,Grw r L L w w→True:=fun _ _=>trivial
 obtain⟨h1,h2,h3,h4,h5,h6,h7,h8,h9,h10⟩:=h
 have hk:∀ k:Nat,w'.heap[k]? = w.heap[k]?:=fun k=>by rw[hh]
 refine⟨by rw[hh];exact h1,h2,by rw[hh];exact h3,h4,fun i hi=>?_,h6.kept (fun k _ _=>hk k) (fun _ _ e=>e),h7.kept (fun k _ _=>hk k) (fun _ _ e=>e),h8,⟨(hk _).trans h9.at',h9.ent,h9.nd,h9.rng,fun j p e hp he=>(h9.row j p e hp he).kept (fun k _ _=>hk k) (fun _ _ e=>e)⟩,h10⟩
 rcases h5 i hi with h | ⟨g,l,a1,a2,a3,a4⟩
 ·exact .inl h
 ·exact .inr ⟨g,l,a1,a2,a3.of (hk g),a4⟩
theorem RunB.drew (h:RunB base br w L G s):RunB base br w.drew L G s:=h.heap rfl
theorem RunB.drewN (h:RunB base br w L G s) (n:Nat):RunB base br (w.drewN n) L G s:=h.heap rfl
theorem RunB.kept {w':World} (h:RunB base br w L G s) (hs:w.heap.size≤w'.heap.size) (hk:∀ k,k<w.heap.size→L k≠0→w'.heap[k]? = w.heap[k]?):RunB base br w' L G s:=by
 obtain⟨h1,h2,h3,h4,h5,h6,h7,h8,h9,h10⟩:=h;have hbl:=(Array.getElem?_eq_some_iff.1 h1).1;refine⟨(hk br hbl (by omega)).trans h1,h2,fun k hk=>h3 k (by omega),h4,fun i hi=>?_,h6.kept (fun k hk1 e=>hk k hk1 (by omega)) (fun _ _ e=>e),h7.kept (fun k hk1 e=>hk k hk1 (by omega)) (fun _ _ e=>e),h8,⟨(hk _ h9.lt (by omega)).trans h9.at',h9.ent,h9.nd,h9.rng,fun j p e hp he=>(h9.row j p e hp he).kept (fun k hk1 e=>hk k hk1 (by omega)) (fun _ _ e=>e)⟩,h10⟩
 rcases h5 i hi with h | ⟨g,l,a1,a2,a3,a4⟩
 ·exact .inl h
 ·exact .inr ⟨g,l,a1,a2,a3.of (hk g a3.lt (by omega)),a4⟩
theorem RunB.alloc (h:RunB base br w L G s) (o:Obj):RunB base br (w.alloc o) L G s:=h.kept (by simp) fun k hk _=>heap_alloc_old _ _ hk
theorem RunB.below {w':World} (h:RunB base br w L G s) (hB:Below w.heap.size w w'):RunB base br w' L G s:=h.kept hB.size fun k hk _=>hB.block k hk
theorem RunB.congr {s':LS} (h:RunB base br w L G s) (h1:∀ i,i<6→∀ x,s'.sh i x=s.sh i x) (h2:∀ i,i<6→s'.ex i=s.ex i) (h3:s'.done=s.done) (h4:s'.ab=s.ab) (h5:∀ t,s'.wt t=s.wt t):RunB base br w L G s':=by
 refine⟨?_,h.lbr,h.hi,h.lo,fun i hi=>?_,by rw[h3];exact h.done,by rw[h4];exact h.ab,h.lgw,h.wt,fun t=>(h5 t).trans (h.hwt t)⟩
 ·rw[h.blk];unfold Qi;rw[h2 0 (by omega),h2 1 (by omega),h2 2 (by omega),h2 3 (by omega),h2 4 (by omega),h2 5 (by omega)]
 ·have:s'.sh i=s.sh i:=funext (h1 i hi);rw[this];exact h.sh i hi
theorem RunB.lo_grw {L':Nat→Nat} {w':World} {r:Nat} (h:RunB base br w L G s) (hg:Grw r L L' w w'):∀ k,L' k≠0→base≤k:=fun k hk=>by
 rcases hg.mv.grow k hk with e | e
 ·exact h.lo k e
 ·have:=h.base_le;omega
theorem RunB.cellG {i:Nat} {v:Value} (h:RunB base br w L G s):Grw 1 L L w (w.setCell ⟨br,i,none⟩ v):=Grw.setCell v h.lbr (by decide) h.hi
theorem RunB.setEx (h:RunB base br w L G s) {i:Nat} (hi:i<6) (x:Int):RunB base br (w.setCell ⟨br,6+i,none⟩ (.int .i64 x)) L G { s with ex:=fun j=>if j=i then x else s.ex j }:=by
 have hg:=h.cellG (i:=6+i) (v:=.int .i64 x);refine⟨?_,h.lbr,hg.hi,h.lo,fun j hj=>(h.sh j hj).grw hg (by omega),h.done.grw hg (by decide),h.ab.grw hg (by decide),h.lgw,h.wt.grw hg h.lgw (by decide) (by decide),h.hwt⟩;rw[Vp _ h.blk]
 rcases Ui hi with rfl | rfl | rfl | rfl | rfl | rfl <;> rfl
theorem RunB.lay (h:RunB base br w L G s) {i:Nat} (hi:i<6) (h0:G.m i=none) {w1:World} (e1:w1.heap=w.heap.push (.map #[] 0)):∃ L' G',RunB base br (w1.setCell ⟨br,i,none⟩ (.map (some w.heap.size))) L' G' s∧G'.m i=some w.heap.size∧(∀ k,k<w.heap.size→L' k=L k)∧∀ k,L' k≠0→L k≠0∨w.heap.size≤k:=by
 have hz:w1.heap.size=w.heap.size+1:=by rw[e1];simp
 have hb:∀ k,k<w.heap.size→w1.heap[k]? = w.heap[k]?:=fun k hk=>by rw[e1,Array.getElem?_push_lt hk];simp[hk]
 have hnew:w1.heap[w.heap.size]? = some (.map #[] 0):=by rw[e1];simp
 obtain⟨w2,e2⟩:∃ w2,w2=w1.setCell ⟨br,i,none⟩ (.map (some w.heap.size)):=⟨_,rfl⟩;have hbr:=h.lt
 have z2:w2.heap.size=w.heap.size+1:=by rw[e2,Vo,hz]
 have b2:∀ k,k<w.heap.size→k≠br→w2.heap[k]? = w.heap[k]?:=fun k hk hn=>by rw[e2,YK hn];exact hb k hk
 have n2:w2.heap[w.heap.size]? = some (.map #[] 0):=by rw[e2,YK (by omega)];exact hnew
 have blk2:w2.heap[br]? = some (.cells ((Qi G s).setIfInBounds i (.map (some w.heap.size))) 101 (0,0)):=by rw[e2];exact Vp _ ((hb br hbr).trans h.blk)
 rw[← e2]
 have hL:∀ k,k<w.heap.size→(if k=w.heap.size then 10+i else L k)=L k:=fun k hk=>if_neg (by omega)
 refine⟨fun k=>if k=w.heap.size then 10+i else L k,{ G with m:=fun j=>if j=i then some w.heap.size else G.m j },⟨?_,?_,fun k hk=>?_,fun k hk=>?_,fun j hj=>?_,?_,?_,?_,?_,h.hwt⟩,by simp,hL,fun k hk=>?_⟩
 ·rw[blk2]
  rcases Ui hi with rfl | rfl | rfl | rfl | rfl | rfl <;> rfl
 ·rw[hL br hbr];exact h.lbr
 ·rw[if_neg (by omega)];exact h.hi k (by omega)
 ·by_cases e:k=w.heap.size
  ·have:=h.base_le;omega
  ·simp only[if_neg e]at hk;exact h.lo k hk
 ·by_cases e:j=i
  ·subst e
   rcases h.sh j hj with ⟨_,hf⟩ | ⟨g,l,a1,_⟩
   ·refine .inr ⟨w.heap.size,[],by simp,by simp,MapAt.empty n2,by simp,fun x=>?_⟩;rw[hf x];simp
   ·rw[h0]at a1;cases a1
  ·show ShB w2 _ (10+j) (if j=i then some w.heap.size else G.m j) (s.sh j);rw[if_neg e]
   rcases h.sh j hj with hh | ⟨g,l,a1,a2,a3,a4⟩
   ·exact .inl hh
   ·have hgl:=a3.lt;exact .inr ⟨g,l,a1,(hL g hgl).trans a2,a3.of (b2 g hgl (fun e=>by rw[e,h.lbr]at a2;omega)),a4⟩
 ·exact h.done.kept (fun k hk e=>b2 k hk (fun e2=>by rw[e2,h.lbr]at e;omega)) (fun k hk e=>by rw[hL k hk];exact e)
 ·exact h.ab.kept (fun k hk e=>b2 k hk (fun e2=>by rw[e2,h.lbr]at e;omega)) (fun k hk e=>by rw[hL k hk];exact e)
 ·show (if G.gw=w.heap.size then 10+i else L G.gw)=2;rw[hL _ h.wt.lt];exact h.lgw
 ·have hgw:G.gw≠br:=fun e=>by have:=h.lgw;rw[e,h.lbr]at this;omega
  exact⟨(b2 _ h.wt.lt hgw).trans h.wt.at',h.wt.ent,h.wt.nd,h.wt.rng,fun j p e hp he=>(h.wt.row j p e hp he).kept (fun k hk e=>b2 k hk (fun e2=>by rw[e2,h.lbr]at e;omega)) (fun k hk e=>by rw[hL k hk];exact e)⟩
 ·by_cases e:k=w.heap.size
  ·exact .inr (by omega)
  ·simp only[if_neg e]at hk;exact .inl hk
theorem RunB.shOp (h:RunB base br w L G s) {i:Nat} (hi:i<6) {w1:World} {f:Int→Bool} (hg:Grw (10+i) L L w w1) (hf:ShB w1 L (10+i) (G.m i) f):RunB base br w1 L G { s with sh:=fun j y=>if j=i then f y else s.sh j y }:=by
 refine⟨(hg.oth br h.lt (by rw[h.lbr];omega)).trans h.blk,h.lbr,hg.hi,h.lo,fun j hj=>?_,h.done.grw hg (by omega),h.ab.grw hg (by omega),h.lgw,h.wt.grw hg h.lgw (by omega) (by omega),h.hwt⟩;by_cases e:j=i
 ·subst e;show ShB w1 L (10+j) (G.m j) (fun y=>if j=j then f y else s.sh j y);simp only[if_pos rfl];exact hf
 ·show ShB w1 L (10+j) (G.m j) (fun y=>if j=i then f y else s.sh j y);simp only[if_neg e];exact (h.sh j hj).grw hg (by omega)
theorem RunB.addSh (h:RunB base br w L G s) {i:Nat} (hi:i<6) {g:Nat} (hm:G.m i=some g) (hr:∀ x,s.sh i x=true→1≤x∧x≤6) {t:Int} (h1:1≤t) (h6:t≤6) :
  ∃ o',(∀ w',w'.heap=w.heap→(Instr.mapUpdate 83 (.map (some g)) (.int .i64 t) (.bool true)).run Try.prog w'=.ok () (setBlock w' g o'))∧∀ w',w'.heap=w.heap→RunB base br (setBlock w' g o') L G { s with sh:=fun j y=>if j=i then (if y=t then true else s.sh i y) else s.sh j y }:=by
 have h0:=h.sh i hi;rw[hm]at h0;obtain⟨q1,o',q2,q3⟩:=h0.add hr h1 h6;refine⟨o',q2,fun w' hw=>?_⟩;refine (h.heap hw).shOp hi (Grw.setBlock o' q1 (by omega) (h.heap hw).hi) ?_;rw[hm];exact q3 w' hw
theorem RunB.delSh (h:RunB base br w L G s) {i:Nat} (hi:i<6) {t:Int} (h1:1≤t) (h6:t≤6) :
  ∃ w1,(∀ ty,(Builtin.delete_ #[83,3] ty #[.map (G.m i),.int .i64 t]).run Try.prog w=.ok (.tuple #[]) w1)∧Mvs L L w w1∧RunB base br w1 L G { s with sh:=fun j y=>if j=i then (if y=t then false else s.sh i y) else s.sh j y }:=by
 obtain⟨w1,q1,q2,q3⟩:=(h.sh i hi).del h1 h6;exact⟨w1,q1,(q3 (by omega) h.hi).mv,h.shOp hi (q3 (by omega) h.hi) q2⟩
theorem RunB.pushDone {L1:Nat→Nat} {w1:World} {v:Value} {o:hsOp} (h:RunB base br w L G s) (hg:Grw 3 L L1 w w1) (hr:RowT w1 L1 3 44 3 v (s.done.length+1) (opsC s.done++[.int .i64 o.qb,.int .i64 o.qh,.int .i64 o.qi])) :
  RunB base br (w1.setCell ⟨br,12,none⟩ v) L1 { G with dv:=v } { s with done:=s.done++[o] }∧Mvs L L1 w (w1.setCell ⟨br,12,none⟩ v):=by
 have hl1:L1 br=1:=(hg.same br h.lt).trans h.lbr;have hg2:Grw 1 L1 L1 w1 (w1.setCell ⟨br,12,none⟩ v):=Grw.setCell v hl1 (by decide) hg.hi;refine⟨⟨?_,hl1,hg2.hi,h.lo_grw hg,fun j hj=>((h.sh j hj).grw hg (by omega)).grw hg2 (by omega),?_,(h.ab.grw hg (by decide)).grw hg2 (by decide),(hg.same _ h.wt.lt).trans h.lgw,(h.wt.grw hg h.lgw (by decide) (by decide)).grw hg2 ((hg.same _ h.wt.lt).trans h.lgw) (by decide) (by decide),h.hwt⟩,hg.mv.trans hg2.mv⟩
 ·rw[Vp _ ((hg.oth br h.lt (by rw[h.lbr];decide)).trans h.blk)];rfl
 ·show RowT _ L1 3 44 3 v (s.done++[o]).length (opsC (s.done++[o]));rw[qdh,A9];exact hr.grw hg2 (by decide)
theorem RunB.pushAb {L1:Nat→Nat} {w1:World} {v:Value} {t:Int} (h:RunB base br w L G s) (hg:Grw 4 L L1 w w1) (hr:RowT w1 L1 4 3 1 v (s.ab.length+1) (intsV s.ab++[.int .i64 t])) :
  RunB base br (w1.setCell ⟨br,13,none⟩ v) L1 { G with av:=v } { s with ab:=s.ab++[t] }∧Mvs L L1 w (w1.setCell ⟨br,13,none⟩ v):=by
 have hl1:L1 br=1:=(hg.same br h.lt).trans h.lbr;have hg2:Grw 1 L1 L1 w1 (w1.setCell ⟨br,13,none⟩ v):=Grw.setCell v hl1 (by decide) hg.hi;refine⟨⟨?_,hl1,hg2.hi,h.lo_grw hg,fun j hj=>((h.sh j hj).grw hg (by omega)).grw hg2 (by omega),(h.done.grw hg (by decide)).grw hg2 (by decide),?_,(hg.same _ h.wt.lt).trans h.lgw,(h.wt.grw hg h.lgw (by decide) (by decide)).grw hg2 ((hg.same _ h.wt.lt).trans h.lgw) (by decide) (by decide),h.hwt⟩,hg.mv.trans hg2.mv⟩
 ·rw[Vp _ ((hg.oth br h.lt (by rw[h.lbr];decide)).trans h.blk)];rfl
 ·show RowT _ L1 4 3 1 v (s.ab++[t]).length (intsV (s.ab++[t]));rw[Vw,A9];exact hr.grw hg2 (by decide)
theorem RunB.row (h:RunB base br w L G s) {t:Int} (h1:0≤t) (h6:t≤6) :
  ∃ v,(∀ w',w'.heap=w.heap→(Instr.lookup 96 (.map (some G.gw)) (.int .i64 t) false).run Try.prog w'=.ok v w')∧RowT w L (20+t.toNat) 104 4 v (s.wt t).length (heldC (s.wt t)):=by
 obtain⟨v,q1,q2⟩:=h.wt.lookup h1 h6;rw[← h.hwt t]at q2;exact⟨v,fun w' hw=>q1 w' (by rw[hw];exact h.wt.at'),q2⟩
theorem RunB.putW {L1:Nat→Nat} {w1:World} {vv:Value} {t:Int} {xs:List (hsOp×Int)} (h:RunB base br w L G s) (h1:1≤t) (h6:t≤6) (hg:Grw (20+t.toNat) L L1 w w1) (hv:RowT w1 L1 (20+t.toNat) 104 4 vv xs.length (heldC xs)) :
  ∃ o G',(∀ w',w'.heap=w1.heap→(Instr.mapUpdate 96 (.map (some G.gw)) (.int .i64 t) vv).run Try.prog w'=.ok () (setBlock w' G.gw o))∧∀ w',w'.heap=w1.heap→RunB base br (setBlock w' G.gw o) L1 G' (Go.AM.putW s t xs)∧Mvs L L1 w (setBlock w1 G.gw o):=by
 obtain⟨es',ck',q1,q2⟩:=h.wt.put h.lgw h1 h6 hg hv;have hgw:L1 G.gw=2:=(hg.same _ h.wt.lt).trans h.lgw;refine⟨.map es' ck',{ G with es:=es',ck:=ck',bl:=mset keq1 t xs G.bl },q1,fun w' hw=>⟨?_,hg.mv.trans (Grw.setBlock (.map es' ck') hgw (by decide) hg.hi).mv⟩⟩
 have hhi:∀ k,w'.heap.size≤k→L1 k=0:=by rw[hw];exact hg.hi
 have hg2:Grw 2 L1 L1 w' (setBlock w' G.gw (.map es' ck')):=Grw.setBlock _ hgw (by decide) hhi
 have hk:∀ k:Nat,w'.heap[k]? = w1.heap[k]?:=fun k=>by rw[hw]
 have hgE:Grw (20+t.toNat) L L1 w w1:=hg;have hl1:L1 br=1:=(hg.same br h.lt).trans h.lbr;have hbr':w'.heap[br]? = some (.cells (Qi G s) 101 (0,0)):=(hk br).trans ((hg.oth br h.lt (by rw[h.lbr];omega)).trans h.blk);refine⟨?_,hl1,hg2.hi,h.lo_grw hg,fun j hj=>?_,?_,?_,hgw,q2 w' hw,fun x=>?_⟩
 ·rw[Jx (fun e=>by rw[← e,hl1]at hgw;omega),hbr'];rfl
 ·have h7:ShB w' L1 (10+j) (G.m j) (s.sh j):=by
   rcases (h.sh j hj).grw hg (by omega) with hh | ⟨g,l,a1,a2,a3,a4⟩
   ·exact .inl hh
   ·exact .inr ⟨g,l,a1,a2,a3.of (hk g),a4⟩
  exact h7.grw hg2 (by omega)
 ·exact ((h.done.grw hg (by omega)).kept (fun k _ _=>hk k) (fun _ _ e=>e)).grw hg2 (by decide)
 ·exact ((h.ab.grw hg (by omega)).kept (fun k _ _=>hk k) (fun _ _ e=>e)).grw hg2 (by decide)
 ·show (if x=t then xs else s.wt x)=mget keq1 [] x (mset keq1 t xs G.bl);rw[Dn];split
  ·rfl
  ·exact h.hwt x
end
end Go.Proofs
namespace Go.Proofs
open Go.RowKit Go.AM
open Go.ChangeMaps (setBlock)
def RowN (w:World) (B:Nat) (v:Value) (out:List Int):Prop:=∃ L:Nat→Nat,(∀ k,L k≠0→B≤k∧k<w.heap.size)∧RowT w L 1 3 1 v out.length (intsV out)
theorem RowN.nil (w:World) (B:Nat):RowN w B (.slice none 0 0) []:=⟨fun _=>0,fun _ h=>absurd rfl h,RowT.nil _ _ _ _ _⟩
theorem RowN.kept {w w':World} {B:Nat} {v:Value} {out:List Int} (h:RowN w B v out) (hs:w.heap.size≤w'.heap.size) (hk:∀ k,k<w.heap.size→B≤k→w'.heap[k]? = w.heap[k]?):RowN w' B v out:=by
 obtain⟨L,h1,h2⟩:=h;exact⟨L,fun k hk=>⟨(h1 k hk).1,by have:=(h1 k hk).2;omega⟩,h2.kept (fun k hk1 e=>hk k hk1 (h1 k (by omega)).1) (fun _ _ e=>e)⟩
theorem RowN.mono {w:World} {B B':Nat} {v:Value} {out:List Int} (h:RowN w B v out) (hB:B'≤B):RowN w B' v out:=by
 obtain⟨L,h1,h2⟩:=h;exact⟨L,fun k hk=>⟨Nat.le_trans hB (h1 k hk).1,(h1 k hk).2⟩,h2⟩
theorem RowN.form {w:World} {B:Nat} {v:Value} {out:List Int} (h:RowN w B v out):∃ a cap,v=.slice a out.length cap:=by
 obtain⟨L,h1,h2⟩:=h;exact h2.form
theorem RowN.cells {w:World} {B:Nat} {a:Option Addr} {cap:Nat} {out:List Int} (h:RowN w B (.slice a out.length cap) out) {j:Nat} {x:Int} (hx:out[j]? = some x):∃ g off,a=some ⟨g,off,none⟩∧B≤g∧g<w.heap.size∧w.cell? ⟨g,off+j,none⟩=some (.int .i64 x):=by
 obtain⟨L,h1,h2⟩:=h;have hj:j<out.length:=(List.getElem?_eq_some_iff.1 hx).1;obtain⟨g,off,cap',e,hr,hg,_⟩:=h2.formp (by omega);cases e;exact⟨g,off,rfl,(h1 g (by omega)).1,hg,h2.cell (by simp[intsV,hx])⟩
theorem RowN.kept' {w w':World} {B:Nat} {v:Value} {out:List Int} (h:RowN w B v out) (hs:w.heap.size≤w'.heap.size) (hk:∀ k,v.ownBlock=some k→(∃ cs ty,w.heap[k]? = some (.cells cs ty (0,0)))→w'.heap[k]? = w.heap[k]?):RowN w' B v out:=by
 obtain⟨L,h1,q1,q2⟩:=h
 rcases q2 with ⟨rfl,hn⟩ | ⟨g,off,cap,cur,rfl,hr,hg,rest⟩
 ·exact⟨fun _=>0,fun _ h=>absurd rfl h,q1,.inl ⟨rfl,hn⟩⟩
 ·have hgl:=(Array.getElem?_eq_some_iff.1 hg).1;have hB:=(h1 g (by omega)).1;refine⟨fun k=>if k=g then 1 else 0,fun k hk=>?_,q1,.inr ⟨g,off,cap,cur,rfl,by simp,(hk g rfl ⟨_,_,hg⟩).trans hg,rest⟩⟩;by_cases e:k=g
  ·subst e;exact⟨hB,by omega⟩
  ·simp only[if_neg e]at hk;exact absurd rfl hk
theorem YZ {ops:Array Oper} {rest:List Oper} {o:Oper} {a:Act} {w:World} {Q:Exit→Act→World→Prop} (hgd:o.guard=none) (s x:Operand) (ho:o.op=.call { callee:=.builtin .append,args:=#[s,x],argTypes:=#[24,24] }) {B:Nat} {v:Value} {l:List Int} {f:Int} {b c0:Nat} {fz:Nat×Nat}
  (hs:a.eval s=v) (hx:a.eval x=.slice (some ⟨b,0,none⟩) 1 c0) (hown:RowN w B v l) (hb:w.heap[b]? = some (.cells #[.int .i64 f] 3 fz)) (hlen:l.length≤1000000000) (hB:B≤w.heap.size)
  (h:∀ g off cap w',RowN w' B (.slice (some ⟨g,off,none⟩) (l.length+1) cap) (l++[f])→w'.os=w.os→w'.tape=w.tape→w'.output=w.output→w.heap.size≤w'.heap.size→(∀ k,k<w.heap.size→k<B→w'.heap[k]? = w.heap[k]?)→(∀ k,k<w.heap.size→v.ownBlock≠some k→w'.heap[k]? = w.heap[k]?)→(v.ownBlock=some g∨w.heap.size≤g)→wpList Try.prog ops Q rest (a.put o.dst (.slice (some ⟨g,off,none⟩) (l.length+1) cap)) w'):wpList Try.prog ops Q (o::rest) a w:=by
 obtain⟨L,h1,h2⟩:=hown
 have h2':RowT w (fun k=>if v.ownBlock=some k then 1 else 0) 1 3 1 v l.length (intsV l):=by
  obtain⟨q1,q2⟩:=h2;refine⟨q1,?_⟩
  rcases q2 with hn | ⟨g,off,cap,cur,hv,hr,rest⟩
  ·exact .inl hn
  ·exact .inr ⟨g,off,cap,cur,hv,by rw[hv];simp[Value.ownBlock],rest⟩
 have hlo:∀ k,v.ownBlock=some k→B≤k∧k<w.heap.size:=fun k hk=>by
  have:=h2.lt k hk;exact⟨(h1 k (by omega)).1,this.2⟩
 refine XW hgd s x 24 ho (L:=fun k=>if v.ownBlock=some k then 1 else 0) (role:=1) (fun k hk=>?_) (by decide) 3 (.int .i64 0) 1 8 Try.underlying24 Try.infoInt rfl (by decide) hs h2' (ad:=⟨b,0,none⟩) (news:=[.int .i64 f]) hx rfl (C4 hb) (by simp[Value.oneCell']) (by simp only[maxLen];omega) (by omega) ?_
 ·show (if v.ownBlock=some k then 1 else 0)=0;rw[if_neg fun e=>?_];have:=(hlo k e).2;omega
 ·intro g off cap w' L' r1 r2;have hg:=(r1.lt g rfl);refine h g off cap w' ⟨L',fun k hk=>?_,by rw[Vw,A9];exact r1⟩ r2.mv.os r2.mv.tape r2.mv.output r2.mv.size (fun k hk hkB=>r2.oth k hk ?_) (fun k hk hne=>r2.oth k hk (by rw[if_neg hne];decide)) ?_
  ·by_cases hk2:w.heap.size≤k
   ·exact⟨by omega,(r2.new k hk2 hk).2⟩
   ·have e:=r2.same k (by omega);rw[e]at hk
    have:v.ownBlock=some k:=by
     rcases Classical.em (v.ownBlock=some k) with h | h
     ·exact h
     ·rw[if_neg h]at hk;exact absurd rfl hk
    exact⟨(hlo k this).1,by have:=r2.mv.size;omega⟩
  ·show (if v.ownBlock=some k then 1 else 0)≠1;rw[if_neg fun e=>?_]
   ·decide
   ·have:=(hlo k e).1;omega
  ·rcases Nat.lt_or_ge g w.heap.size with h | h
   ·have e:=r2.same g h;rw[hg.1]at e
    rcases Classical.em (v.ownBlock=some g) with h' | h'
    ·exact .inl h'
    ·rw[if_neg h']at e;cases e
   ·exact .inr h
def IterM (w:World) (gi:Nat) (m:Option Nat) (es:Array MapEntry) (clock:Nat) (rem:List Int):Prop :=
 (m=none∧rem=[]∧w.heap[gi]? = some (.mapIter none 0 #[] 0))∨∃ bm,m=some bm∧IterZ w gi bm es clock rem
theorem IterM.of {w w':World} {gi:Nat} {m:Option Nat} {es:Array MapEntry} {clock:Nat} {rem:List Int} (h:IterM w gi m es clock rem) (hb:w'.heap[gi]? = w.heap[gi]?):IterM w' gi m es clock rem:=by
 rcases h with ⟨h1,h2,h3⟩ | ⟨bm,h1,h2⟩
 ·exact .inl ⟨h1,h2,hb.trans h3⟩
 ·exact .inr ⟨bm,h1,h2.of hb⟩
theorem IterM.lt {w:World} {gi:Nat} {m:Option Nat} {es:Array MapEntry} {clock:Nat} {rem:List Int} (h:IterM w gi m es clock rem):gi<w.heap.size:=by
 rcases h with ⟨h1,h2,h3⟩ | ⟨bm,h1,h2⟩
 ·exact lt_of_block h3
 ·exact h2.lt
theorem IterM.no_cells {w:World} {gi:Nat} {m:Option Nat} {es:Array MapEntry} {clock:Nat} {rem:List Int} (h:IterM w gi m es clock rem) {cs:Array Value} {t:TypeId} {fz:Nat×Nat} (hc:w.heap[gi]? = some (.cells cs t fz)):False:=by
 rcases h with ⟨h1,h2,h3⟩ | ⟨bm,h1,seen,c0,h3,_⟩
 ·rw[hc]at h3;cases h3
 ·rw[hc]at h3;cases h3
theorem IterM.next {w:World} {gi:Nat} {m:Option Nat} {es:Array MapEntry} {clock:Nat} {rem:List Int} (h:IterM w gi m es clock rem) (hb:∀ bm,m=some bm→w.heap[bm]? = some (.map es clock)) (hs:MapKept.Stamped es clock) :
  (rem=[]∧∀ ty,(Instr.next (.pointer (some ⟨gi,0,none⟩)) false ty).run Try.prog w=.ok (.tuple #[.bool false]) w) ∨
  ∃ (j:Nat) (f:Int) (e:MapEntry) (w1:World),rem[j]? = some f∧e∈es.toList∧e.key=.int .i64 f∧(∀ ty,(Instr.next (.pointer (some ⟨gi,0,none⟩)) false ty).run Try.prog w=.ok (.tuple #[.bool true,.int .i64 f,e.val]) w1)∧w.grownBy w1 (some gi)∧w1.heap.size=w.heap.size∧IterM w1 gi m es clock (rem.eraseIdx j) ∧
   ∀ w2,w2.heap[gi]? = w1.heap[gi]?→(∀ bm,m=some bm→w2.heap[bm]? = some (.map es clock))→(Instr.entry (.pointer (some ⟨gi,0,none⟩))).run Try.prog w2=.ok (.tuple #[.int .i64 f,e.val]) w2:=by
 rcases h with ⟨h1,h2,h3⟩ | ⟨bm,h1,h2⟩
 ·exact .inl ⟨h2,fun ty=>qdi h3 ty⟩
 ·rcases h2.next (hb bm h1) hs with h | ⟨j,f,e,w1,q1,q2,q3,q4,q5,q6,q7,q8⟩
  ·exact .inl h
  ·exact .inr ⟨j,f,e,w1,q1,q2,q3,q4,q5,q6,.inr ⟨bm,h1,q7⟩,fun w2 e1 e2=>q8 w2 e1 (e2 bm h1)⟩
theorem ShB.range {w:World} {L:Nat→Nat} {role:Nat} {m:Option Nat} {f:Int→Bool} (h:ShB w L role m f) :
  ∃ es clock fs ob,fs.Nodup∧(∀ x,f x=true↔x∈fs)∧(∀ bm,m=some bm→w.heap[bm]? = some (.map es clock))∧MapKept.Stamped es clock∧(∀ w':World,w'.heap=w.heap→(Instr.range 83 (.map m)).run Try.prog w'=.ok (.pointer (some ⟨w'.heap.size,0,none⟩)) (w'.alloc ob))∧∀ w':World,w'.heap=w.heap→IterM (w'.alloc ob) w'.heap.size m es clock fs:=by
 rcases h with ⟨rfl,hf⟩ | ⟨g,l,rfl,h2,⟨es,clock,hb,hE⟩,h4,h5⟩
 ·exact⟨#[],0,[],_,List.nodup_nil,fun x=>by rw[hf x];simp,fun bm hm=>absurd hm (by simp),(MapKept.stamped_iff _ _).2 ⟨by simp,by simp,by simp⟩,fun w' _=>run_range_nilMap w' 83 3 4 Try.underlying83,fun w' _=>.inl ⟨rfl,rfl,heap_alloc_new _ _⟩⟩
 ·obtain⟨e2,e3,e4,e5,e6,e7⟩:=hE;refine⟨es,clock,l.map Prod.fst,_,h4,h5,fun bm hm=>(by rw[← Option.some.inj hm];exact hb),e2,fun w' hw=>run_range_map w' 83 3 4 g es clock Try.underlying83 (by rw[hw];exact hb),fun w' hw=>.inr ⟨g,rfl,IterZ.start (heap_alloc_new _ _) (by simpa using e4) fun j f e hf he=>?_⟩⟩;rw[List.getElem?_map,Option.map_eq_some_iff]at hf;obtain⟨p,hp,rfl⟩:=hf;have h8:=e6 j (AV.int .i64 p.1) e (by rw[List.getElem?_map,hp];rfl) he;simp only[AV.keyV]at h8;split at h8
  ·exact (Option.some.inj h8).symm
  ·cases h8
theorem qdw {rem:List Int} (hn:rem.Nodup) {j:Nat} {f:Int} (hj:rem[j]? = some f):(rem.eraseIdx j).Nodup∧(∀ y,y∈rem.eraseIdx j↔y≠f∧y∈rem)∧(rem.eraseIdx j).length+1=rem.length:=by
 obtain⟨h7,h8⟩:=List.getElem?_eq_some_iff.1 hj;have h9:=List.getElem_cons_drop h7;rw[h8]at h9
 have hX:rem=rem.take j++f::rem.drop (j+1):=by rw[h9,List.take_append_drop]
 refine⟨(List.eraseIdx_sublist _ _).nodup hn,?_,by rw[List.length_eraseIdx,if_pos h7];omega⟩;rw[List.eraseIdx_eq_take_drop_succ];generalize rem.take j=A at hX;generalize rem.drop (j+1)=B at hX;subst hX;rw[List.nodup_append]at hn;obtain⟨n1,n2,n3⟩:=hn;rw[List.nodup_cons]at n2;intro y;rw[C5,C5,List.mem_cons];constructor
 ·rintro (h | h)
  ·exact⟨fun e=>n3 y h f (.head _) e,.inl h⟩
  ·exact⟨fun e=>n2.1 (e ▸ h),.inr (.inr h)⟩
 ·rintro⟨h0,h | h | h⟩
  ·exact .inl h
  ·exact absurd h h0
  ·exact .inr h
abbrev opV (o:hsOp):Value:=.agg #[.int .i64 o.qb,.int .i64 o.qh,.int .i64 o.qi]
set_option maxHeartbeats 2000000 in
theorem Try.hinders99 {N base br:Nat} {w:World} {L:Nat→Nat} {G:Gst} {s:LS} (h:RunB base br w L G s) (hs:OkS N s) {o:hsOp} (ho:OkOp o) :
  Calls Try.prog 99 #[.pointer (some ⟨br,0,none⟩),opV o] w fun e w'=>∃ v out,e=.returned v∧Below w.heap.size w w'∧RowN w' w.heap.size v out∧out.length≤7∧∀ y,y∈out↔hindP s o y:=by
 obtain⟨tx,kx,ix⟩:=o;obtain⟨o1,o2,o3,o4,o5,o6⟩:=ho;simp only at o1 o2 o3 o4 o5 o6;have mixed:=mixedP;have t3:=Try.underlying3;have a3:=Try.isAgg3;have z3:=Try.sizeOf3;have v3:=Try.zeroValue3;have u3:=run_underlying Try.underlying3;have t4:=Try.underlying4;have a4:=Try.isAgg4;have z4:=Try.sizeOf4;have v4:=Try.zeroValue4;have t24:=Try.underlying24;have a24:=Try.isAgg24;have z24:=Try.sizeOf24;have v24:=Try.zeroValue24;have u24:=run_underlying Try.underlying24;have t44:=Try.underlying44;have a44:=Try.isAgg44;have z44:=Try.sizeOf44;have v44:=Try.zeroValue44;have u44:=run_underlying Try.underlying44;have t83:=Try.underlying83;have a83:=Try.isAgg83;have z83:=Try.sizeOf83;have v83:=Try.zeroValue83;have u83:=run_underlying Try.underlying83;have t88:=Try.underlying88;have a88:=Try.isAgg88;have z88:=Try.sizeOf88;have u88:=run_underlying Try.underlying88;have t97:=Try.underlying97;have a97:=Try.isAgg97;have z97:=Try.sizeOf97;have u97:=run_underlying Try.underlying97;have t99:=Try.underlying99;have a99:=Try.isAgg99;have z99:=Try.sizeOf99;have u99:=run_underlying Try.underlying99;obtain⟨w1,ew1⟩:∃ w1,w1=w.alloc (.cells #[.int .i64 tx,.int .i64 kx,.int .i64 ix] 44):=⟨_,rfl⟩
 have z1:w1.heap.size=w.heap.size+1:=by rw[ew1];simp
 have h1:RunB base br w1 L G s:=by rw[ew1];exact h.alloc _
 have B1:Below w.heap.size w w1:=by rw[ew1];exact (Below.refl _ _).alloc (Nat.le_refl _) _
 have n1:w1.heap[w.heap.size]? = some (.cells #[.int .i64 tx,.int .i64 kx,.int .i64 ix] 44 (0,0)):=by rw[ew1];exact heap_alloc_new _ _
 obtain⟨i,hi⟩:∃ i:Nat,ix=(i:Int):=⟨ix.toNat,by omega⟩;subst hi
 have hi6:i<6:=by omega
 have j6:(i:Int)<6:=by omega
 have hexr:=hs.ex i
 have q0:∀ d,({ w1 with drawn:=d }:World).cell? ⟨w.heap.size,0,none⟩=some (.int .i64 tx):=fun d=>by simp[A0,n1]
 have q1:∀ d,({ w1 with drawn:=d }:World).cell? ⟨w.heap.size,1,none⟩=some (.int .i64 kx):=fun d=>by simp[A0,n1]
 have q2:∀ d,({ w1 with drawn:=d }:World).cell? ⟨w.heap.size,2,none⟩=some (.int .i64 (i:Int)):=fun d=>by simp[A0,n1]
 have qe:∀ d,({ w1 with drawn:=d }:World).cell? ⟨br,6+i,none⟩=some (.int .i64 (s.ex i)):=fun d=>(h1.heap rfl).cell_ex hi6
 have qm:∀ d,({ w1 with drawn:=d }:World).cell? ⟨br,i,none⟩=some (.map (G.m i)):=fun d=>(h1.heap rfl).cell_m hi6
 have HW1:=(show Hid (w1=_) from ew1);clear ew1
 go_enter Try.func99,Try.ntmps99
 go_wp2
 rw[← HW1.out]
 go_still_tail 7,(by kernel_rfl)
 change wpList _ _ _ _ _ w1.drew;clear qe;obtain⟨ex,eex⟩:∃ ex,ex=s.ex i:=⟨_,rfl⟩;rw[← eex];have HE:=(show Hid (ex=_) from eex);clear eex hexr
 have hcase:ex=0∨(¬ ex=0∧ex=tx)∨(¬ ex=0∧¬ ex=tx):=by omega
 have hbase:w.heap.size+1≤(w1.drew.alloc (.cells #[.int .i64 ex] 3)).heap.size:=by simp;omega
 have hown:RowN (w1.drew.alloc (.cells #[.int .i64 ex] 3)) (w.heap.size+1) (.slice none 0 0) []:=RowN.nil _ _
 have n3:(w1.drew.alloc (.cells #[.int .i64 ex] 3)).heap[w.heap.size+1]? = some (.cells #[.int .i64 ex] 3 (0,0)):=by rw[← z1];exact heap_alloc_new w1.drew _
 rcases hcase with hA | ⟨hA,hB⟩ | ⟨hA,hB⟩
 case' inl =>
  subst hA
  go_wp2
  obtain⟨wA,ewA⟩:∃ wA,wA=w1.drew:=⟨_,rfl⟩;rw[← ewA]
  have BA:Below w.heap.size w wA:=by rw[ewA];exact⟨B1.os,B1.tape,B1.output,B1.size,B1.block⟩
  have nA:wA.heap[w.heap.size]? = some (.cells #[.int .i64 tx,.int .i64 kx,.int .i64 (i:Int)] 44 (0,0)):=by rw[ewA];exact n1
  have zA:w.heap.size+1≤wA.heap.size:=by rw[ewA];exact Nat.le_of_eq z1.symm
  have HX:∃ out0,RowN wA (w.heap.size+1) (.slice none 0 0) out0∧out0.length≤1∧∀ y,y∈out0↔s.ex i=y∧y≠0∧y≠tx :=
   ⟨[],RowN.nil _ _,by simp,fun y=>by rw[← HE.out];simp;omega⟩
  have hA:=trivial;have hA':=trivial;have hB:=trivial;have hB':=trivial;have ho3:=trivial
 case' inr.inl =>
  have hA':(ex != 0)=true:=bne_iff_ne.2 hA
  have hB':(ex != tx)=false:=by rw[hB];simp
  go_wp2
  obtain⟨wA,ewA⟩:∃ wA,wA=w1.drew:=⟨_,rfl⟩;rw[← ewA]
  have BA:Below w.heap.size w wA:=by rw[ewA];exact⟨B1.os,B1.tape,B1.output,B1.size,B1.block⟩
  have nA:wA.heap[w.heap.size]? = some (.cells #[.int .i64 tx,.int .i64 kx,.int .i64 (i:Int)] 44 (0,0)):=by rw[ewA];exact n1
  have zA:w.heap.size+1≤wA.heap.size:=by rw[ewA];exact Nat.le_of_eq z1.symm
  have HX:∃ out0,RowN wA (w.heap.size+1) (.slice none 0 0) out0∧out0.length≤1∧∀ y,y∈out0↔s.ex i=y∧y≠0∧y≠tx :=
   ⟨[],RowN.nil _ _,by simp,fun y=>by rw[← HE.out];simp;omega⟩
  have ho3:=trivial
 case' inr.inr =>
  have hA':(ex != 0)=true:=bne_iff_ne.2 hA;have hB':(ex != tx)=true:=bne_iff_ne.2 hB
  go_wp2_with (first | (at_builtin;refine YZ rfl (.tmp 23) (.tmp 25) (by rfl) (by rfl) (by rfl) hown n3 (by simp) hbase ?_;intro g off cap wA ho3 a1 a2 a3 a4 a5 a6 a7) | fail)
  have zA:w.heap.size+1≤wA.heap.size:=Nat.le_trans hbase a4
  have hol:∀ k,k<w.heap.size+1→wA.heap[k]? = w1.heap[k]?:=fun k hk=>by
   rw[a5 k (by show k<(w1.alloc (.cells #[.int .i64 ex] 3)).heap.size;simp;omega) hk];exact heap_alloc_old w1 _ (by omega)
  have BA:Below w.heap.size w wA:=⟨a1.trans B1.os,a2.trans B1.tape,a3.trans B1.output,by omega,fun k hk=>by rw[hol k (by omega)];exact B1.block k hk⟩
  have nA:wA.heap[w.heap.size]? = some (.cells #[.int .i64 tx,.int .i64 kx,.int .i64 (i:Int)] 44 (0,0)):=by rw[hol _ (by omega)];exact n1
  have HX:∃ out0,RowN wA (w.heap.size+1) (.slice (some ⟨g,off,none⟩) 1 cap) out0∧out0.length≤1∧∀ y,y∈out0↔s.ex i=y∧y≠0∧y≠tx :=
   ⟨[ex],ho3,by simp,fun y=>by rw[← HE.out,B5];constructor;rintro rfl;exact⟨rfl,hA,hB⟩;rintro⟨h,_⟩;exact h.symm⟩
  have ewA:=trivial;clear a1 a2 a3 a4 a5 a6 a7 hol
 all_goals
  clear ewA hA hA' hB hB' ho3 hown n3 hbase q0 q1 q2 qm h1 B1 n1 z1 HW1 w1;have HX:=(show Hid _ from HX);have hA1:=h.below BA;obtain⟨es,clock,fs,ob,hfn,hff,hbm,hst,hrg,hit⟩:=(hA1.sh i hi6).range
  have hfl:fs.length≤6:=Zi fs [(1:Int),2,3,4,5,6] hfn fun x hx=>Nm (hs.sh i x ((hff x).2 hx)).1 (hs.sh i x ((hff x).2 hx)).2
  have q2:∀ d,({ wA with drawn:=d }:World).cell? ⟨w.heap.size,2,none⟩=some (.int .i64 (i:Int)):=fun d=>by simp[A0,nA]
  have qm:∀ d,({ wA with drawn:=d }:World).cell? ⟨br,i,none⟩=some (.map (G.m i)):=fun d=>(hA1.heap rfl).cell_m hi6
  have hrgA:=hrg wA.drew rfl;have hitA:=hit wA.drew rfl
  go_still_tail 7,(by kernel_rfl)
  change wpList _ _ _ _ _ wA.drew
  go_wp2
  have hsA:(wA.alloc ob).heap.size=wA.heap.size+1:=by simp
  have hbA:∀ k,k<wA.heap.size→(wA.alloc ob).heap[k]? = wA.heap[k]?:=fun k hk=>heap_alloc_old _ _ hk
  have hitB:IterM (wA.alloc ob).drew wA.heap.size (G.m i) es clock fs:=hitA;obtain⟨wB,ewB⟩:∃ wB,wB=(wA.alloc ob).drew:=⟨_,rfl⟩;rw[← ewB]at hitB
  have hsB:wB.heap.size=wA.heap.size+1:=by rw[ewB];exact hsA
  have hbB:∀ k,k<wA.heap.size→wB.heap[k]? = wA.heap[k]?:=fun k hk=>by rw[ewB];exact hbA k hk
  have BB:Below w.heap.size w wB:=by rw[ewB];exact⟨BA.os,BA.tape,BA.output,by show w.heap.size≤(wA.alloc ob).heap.size;omega,fun k hk=>by rw[show (wA.alloc ob).drew.heap[k]? = wA.heap[k]? from hbA k (by omega)];exact BA.block k hk⟩
  have hmB:∀ bm,G.m i=some bm→wB.heap[bm]? = some (.map es clock)∧bm<w.heap.size:=fun bm hm=>by
   have h1:=hbm bm hm
   have h2:bm<w.heap.size:=by
    rcases h.sh i hi6 with ⟨h3,_⟩ | ⟨g,l,h3,_,h4,_⟩
    ·rw[hm]at h3;cases h3
    ·rw[hm]at h3;cases h3;exact h4.lt
   exact⟨by rw[hbB bm (by omega)];exact h1,h2⟩
  have nB:wB.heap[w.heap.size]? = some (.cells #[.int .i64 tx,.int .i64 kx,.int .i64 (i:Int)] 44 (0,0)):=by rw[hbB _ (by omega)];exact nA
  rw[← ewB];obtain⟨out0,ho0,ho1,ho2⟩:=HX.out;have ho0:=ho0.kept (w':=wB) (by omega) (fun k hk _=>hbB k hk);clear HX ewB hitA hrgA hrg hit hbm qm q2 nA hA1 hsA hbA hbB BA
  go_loopg [5] fs.length (fun gf s5 wx=>∃ (rem out:List Int),rem.length=gf∧Below w.heap.size w wx∧wB.heap.size≤wx.heap.size∧RowN wx (w.heap.size+1) s5 out∧IterM wx wA.heap.size (G.m i) es clock rem∧wx.heap[w.heap.size]? = some (.cells #[.int .i64 tx,.int .i64 kx,.int .i64 (i:Int)] 44 (0,0))∧out.length+rem.length≤7∧(∀ x,x∈rem→x∈fs)∧rem.Nodup∧∀ y,y∈out↔(s.ex i=y∧y≠0∧y≠tx)∨(kx=1∧y≠tx∧y∈fs∧y ∉ rem))
  case atStart=>exact⟨fs,out0,rfl,BB,Nat.le_refl _,ho0,hitB,nB,by omega,fun x hx=>hx,hfn,fun y=>by rw[ho2 y];constructor;exact fun h=>.inl h;rintro (h | ⟨_,_,h1,h2⟩);exact h;exact absurd h1 h2⟩
  case round =>
   obtain⟨rem,out,hgk,hBr,hzr,hor,hir,hnr,hlr,hsr,hndr,hyr⟩:=hrel
   have hbr:∀ bm,G.m i=some bm→wr.heap[bm]? = some (.map es clock):=fun bm hm=>by
    rw[hBr.block bm (hmB bm hm).2,← BB.block bm (hmB bm hm).2];exact (hmB bm hm).1
   have hY:=(show Hid _ from hyr);clear hyr
   rcases hir.next hbr hst with ⟨rfl,hnx⟩ | ⟨j,f,e,wn,hj,hem,hek,hnx,hgn,hzn,hin,hent⟩
   ·clear hmB nB BB hbr hnr
    go_wp2
    go_ret
    refine⟨_,out,rfl,hBr,hor.mono (by omega),by simpa using hlr,fun y=>?_⟩;have hy:=hY.out y;unfold hindP;simp only[C6];rw[hy];constructor
    ·rintro (⟨a,b,c⟩ | ⟨a,b,c,_⟩)
     ·exact .inl ⟨a,b,c⟩
     ·exact .inr ⟨a,b,(hff y).2 c⟩
    ·rintro (⟨a,b,c⟩ | ⟨a,b,c⟩)
     ·exact .inl ⟨a,b,c⟩
     ·exact .inr ⟨a,b,(hff y).1 c,by simp⟩
   ·obtain⟨d1,d2,d3⟩:=qdw hndr hj
    have hbn:∀ k,k<wr.heap.size→k≠wA.heap.size→wn.heap[k]? = wr.heap[k]?:=fun k hk hne=>hgn.block k hk (fun e=>hne (Option.some.inj e))
    have Bn:Below w.heap.size w wn:=⟨hgn.os.trans hBr.os,hgn.tape.trans hBr.tape,hgn.output.trans hBr.output,by have:=hBr.size;omega,fun k hk=>by rw[hbn k (by have:=hBr.size;omega) (by omega)];exact hBr.block k hk⟩
    have hbn2:∀ bm,G.m i=some bm→wn.heap[bm]? = some (.map es clock):=fun bm hm=>by
     have:=(hmB bm hm).2;rw[hbn bm (by have:=hBr.size;omega) (by omega)];exact hbr bm hm
    have hen:=hent wn rfl hbn2
    have nn:wn.heap[w.heap.size]? = some (.cells #[.int .i64 tx,.int .i64 kx,.int .i64 (i:Int)] 44 (0,0)):=by rw[hbn _ (by omega) (by omega)];exact hnr
    have q0:wn.cell? ⟨w.heap.size,0,none⟩=some (.int .i64 tx):=by simp[A0,nn]
    have q1:wn.cell? ⟨w.heap.size,1,none⟩=some (.int .i64 kx):=by simp[A0,nn]
    have hon:RowN wn (w.heap.size+1) u5 out:=hor.kept' (by omega) fun k _ hc=>by
     obtain⟨cs,ty,hc⟩:=hc
     exact hbn k (lt_of_block hc) fun e=>hir.no_cells (e ▸ hc)
    by_cases hk1:kx=1
    ·by_cases hft:f=tx
     ·subst hk1
      have hft':(f != tx)=false:=by rw[hft];simp
      clear hmB nB BB hbr hbn hbn2 hnr hgn
      go_wp2
      go_roundg (rem.eraseIdx j).length
      case measure=>omega
      case rel =>
       refine⟨rem.eraseIdx j,out,rfl,Bn,by omega,hon,hin,nn,by omega,fun x hx=>hsr x ((d2 x).1 hx).2,d1,fun y=>?_⟩;rw[hY.out y];constructor
       ·rintro (h | ⟨h,h1,h2,h3⟩)
        ·exact .inl h
        ·exact .inr ⟨h,h1,h2,fun h4=>h3 ((d2 y).1 h4).2⟩
       ·rintro (h | ⟨h,h1,h2,h3⟩)
        ·exact .inl h
        ·exact .inr ⟨h,h1,h2,fun h4=>h3 ((d2 y).2 ⟨fun e=>h1 (e.trans hft),h4⟩)⟩
     ·subst hk1;have hft':(f != tx)=true:=bne_iff_ne.2 hft
      have hbase:w.heap.size+1≤(wn.alloc (.cells #[.int .i64 f] 3)).heap.size:=by simp;omega
      have hown:RowN (wn.alloc (.cells #[.int .i64 f] 3)) (w.heap.size+1) u5 out:=hon.kept (by simp) fun k hk _=>heap_alloc_old _ _ hk
      have n3:(wn.alloc (.cells #[.int .i64 f] 3)).heap[wn.heap.size]? = some (.cells #[.int .i64 f] 3 (0,0)):=heap_alloc_new wn _
      have hwf:rem.length+out.length≤7:=by omega
      have hll:out.length≤1000000000:=by omega
      obtain⟨oa,oc,rfl⟩:=hon.form;have HZ:=(show Hid _ from hzn);clear hmB nB BB hbr hbn hbn2 hnr hzn
      go_wp2_with (first | (at_builtin;refine YZ rfl (.tmp 48) (.tmp 50) (by rfl) (by rfl) (by rfl) hown n3 hll hbase ?_;intro g off cap wC ho3 a1 a2 a3 a4 a5 a6 a7) | fail)
      have hzn:=HZ.out
      go_roundg (rem.eraseIdx j).length
      case measure=>omega
      case rel =>
       have hzn:=HZ.out
       have hsN:(wn.alloc (.cells #[.int .i64 f] 3)).heap.size=wn.heap.size+1:=by simp
       have hol:∀ k,k<w.heap.size+1→wC.heap[k]? = wn.heap[k]?:=fun k hk=>by
        rw[a5 k (by omega) hk,heap_alloc_old _ _ (by omega)]
       have hgi:wC.heap[wA.heap.size]? = wn.heap[wA.heap.size]?:=by
        rw[a6 _ (by have:=hin.lt;omega) fun e=>?_,heap_alloc_old _ _ hin.lt];obtain⟨L5,r1,r2⟩:=hown
        rcases r2.2 with ⟨h0,_⟩ | ⟨g',off',cap',cur',h0,_,h2,_⟩
        ·rw[h0]at e;cases e
        ·rw[h0]at e;have e2:g'=wA.heap.size:=Option.some.inj e;rw[e2,heap_alloc_old _ _ hin.lt]at h2;exact hin.no_cells h2
       refine⟨rem.eraseIdx j,out++[f],rfl,⟨a1.trans Bn.os,a2.trans Bn.tape,a3.trans Bn.output,by have:=Bn.size;omega,fun k hk=>by rw[hol k (by omega)];exact Bn.block k hk⟩,by omega,ho3,hin.of hgi,by rw[hol _ (by omega)];exact nn,by rw[A9,List.length_singleton];omega,fun x hx=>hsr x ((d2 x).1 hx).2,d1,fun y=>?_⟩;have hfm:f∈rem:=List.mem_of_getElem? hj;rw[C5,B5,hY.out y,d2 y];constructor
       ·rintro ((h | ⟨h,h1,h2,h3⟩) | h)
        ·exact .inl h
        ·exact .inr ⟨h,h1,h2,fun h4=>h3 h4.2⟩
        ·exact .inr ⟨by simp,by rw[h];exact hft,by rw[h];exact hsr f hfm,fun h4=>h4.1 h⟩
       ·rintro (h | ⟨h,h1,h2,h3⟩)
        ·exact .inl (.inl h)
        ·by_cases e:y=f
         ·exact .inr e
         ·exact .inl (.inr ⟨h,h1,h2,fun h4=>h3 ⟨e,h4⟩⟩)
    ·have hk1':(kx == 1)=false:=beq_eq_false_iff_ne.2 hk1;clear hmB nB BB hbr hbn hbn2 hnr hgn
     go_wp2
     go_roundg (rem.eraseIdx j).length
     case measure=>omega
     case rel =>
      refine⟨rem.eraseIdx j,out,rfl,Bn,by omega,hon,hin,nn,by omega,fun x hx=>hsr x ((d2 x).1 hx).2,d1,fun y=>?_⟩;rw[hY.out y];constructor
      ·rintro (h | ⟨h,_⟩)
       ·exact .inl h
       ·exact absurd h hk1
      ·rintro (h | ⟨h,_⟩)
       ·exact .inl h
       ·exact absurd h hk1
end Go.Proofs
namespace Go.Proofs
open Go.RowKit Go.AM
open Go.ChangeMaps (setBlock)
theorem Mvs.undrew {L L':Nat→Nat} {w w':World} (h:Mvs L L' w.drew w'):Mvs L L' w w':=⟨h.os,h.tape,h.output,h.size,h.keep,h.grow⟩
abbrev retU:Ending:=.returned (.tuple #[])
def LkPost (base br:Nat) (w:World) (L:Nat→Nat) (s':LS) (w':World):Prop:=∃ L' G',RunB base br w' L' G' s'∧Mvs L L' w w'
set_option maxHeartbeats 2000000 in
theorem Try.take114 {N base br:Nat} {w:World} {L:Nat→Nat} {G:Gst} {s:LS} (h:RunB base br w L G s) (hs:OkS N s) {o:hsOp} (ho:OkOp o) :
  Calls Try.prog 114 #[.pointer (some ⟨br,0,none⟩),opV o] w fun e w'=>e=retU∧LkPost base br w L (takeL s o) w':=by
 obtain⟨tx,kx,ix⟩:=o;obtain⟨o1,o2,o3,o4,o5,o6⟩:=ho;simp only at o1 o2 o3 o4 o5 o6;have mixed:=mixedP;have t3:=Try.underlying3;have a3:=Try.isAgg3;have z3:=Try.sizeOf3;have v3:=Try.zeroValue3;have u3:=run_underlying Try.underlying3;have t4:=Try.underlying4;have a4:=Try.isAgg4;have z4:=Try.sizeOf4;have v4:=Try.zeroValue4;have t44:=Try.underlying44;have a44:=Try.isAgg44;have z44:=Try.sizeOf44;have v44:=Try.zeroValue44;have u44:=run_underlying Try.underlying44;have t83:=Try.underlying83;have a83:=Try.isAgg83;have z83:=Try.sizeOf83;have v83:=Try.zeroValue83;have u83:=run_underlying Try.underlying83;have t88:=Try.underlying88;have a88:=Try.isAgg88;have z88:=Try.sizeOf88;have u88:=run_underlying Try.underlying88;have t97:=Try.underlying97;have a97:=Try.isAgg97;have z97:=Try.sizeOf97;have u97:=run_underlying Try.underlying97;have t99:=Try.underlying99;have a99:=Try.isAgg99;have z99:=Try.sizeOf99;have u99:=run_underlying Try.underlying99;have hmm:=@run_makeMap Try.prog;obtain⟨w1,ew1⟩:∃ w1,w1=w.alloc (.cells #[.int .i64 tx,.int .i64 kx,.int .i64 ix] 44):=⟨_,rfl⟩
 have h1:RunB base br w1 L G s:=by rw[ew1];exact h.alloc _
 have B1:Mvs L L w w1:=by rw[ew1];exact (Mvs.refl _ _).alloc _
 have n1:w1.heap[w.heap.size]? = some (.cells #[.int .i64 tx,.int .i64 kx,.int .i64 ix] 44 (0,0)):=by rw[ew1];exact heap_alloc_new _ _
 obtain⟨i,hi⟩:∃ i:Nat,ix=(i:Int):=⟨ix.toNat,by omega⟩;subst hi
 have hi6:i<6:=by omega
 have j6:(i:Int)<6:=by omega
 have hb0:=h.lt;have hb1:=h1.lt
 have q0:∀ d,({ w1 with drawn:=d }:World).cell? ⟨w.heap.size,0,none⟩=some (.int .i64 tx):=fun d=>by simp[A0,n1]
 have q1:w1.cell? ⟨w.heap.size,1,none⟩=some (.int .i64 kx):=by simp[A0,n1]
 have q2:∀ d,({ w1 with drawn:=d }:World).cell? ⟨w.heap.size,2,none⟩=some (.int .i64 (i:Int)):=fun d=>by simp[A0,n1]
 have HW1:=(show Hid (w1=_) from ew1);by_cases hk:kx=1
 ·subst hk
  have qe:∀ d,({ w1 with drawn:=d }:World).cell? ⟨br,6+i,none⟩=some (.int .i64 (s.ex i)):=fun d=>(h1.heap rfl).cell_ex hi6
  have qf:∀ d,({ w1 with drawn:=d }:World).frozen? ⟨br,6+i,none⟩=false:=fun d=>(h1.heap rfl).free _
  rw[ew1]at q1;clear ew1
  go_enter Try.func114,Try.ntmps114
  go_wp2
  rw[← HW1.out]
  go_still_tail 8,(by kernel_rfl)
  change wpList _ _ _ _ _ w1.drew;have qe':w1.drew.cell? ⟨br,6+i,none⟩=some (.int .i64 (s.ex i)):=qe _;have qf':w1.drew.frozen? ⟨br,6+i,none⟩=false:=qf _;have HH:=(show Hid _ from h1.drew.setEx hi6 tx);have HG:=(show Hid _ from (h1.drew.cellG (i:=6+i) (v:=.int .i64 tx)).mv);clear h1 qe qf
  go_wp2
  refine bodyPost_ret (results_none rfl _ _ _) rfl ?_;refine⟨rfl,L,G,?_,B1.trans HG.out.undrew⟩;unfold takeL;simp only[if_pos rfl,C6];exact HH.out
 ·have hk':(kx == 1)=false:=beq_eq_false_iff_ne.2 hk
  have hres:∀ s1:LS,(∀ j y,s1.sh j y=if j=i then (if y=tx then true else s.sh i y) else s.sh j y)→s1.ex=s.ex→s1.done=s.done→s1.ab=s.ab→s1.wt=s.wt→∀ w' L' G',RunB base br w' L' G' s1→RunB base br w' L' G' (takeL s ⟨tx,kx,(i:Int)⟩):=by
   intro s1 e1 e2 e3 e4 e5 w' L' G' hr;unfold takeL;rw[if_neg hk];refine hr.congr (fun j hj x=>?_) (fun j hj=>?_) ?_ ?_ (fun t=>?_)
   ·show (if j=(i:Int).toNat∧x=tx then true else s.sh j x)=_;rw[e1,C6];by_cases h1:j=i <;> by_cases h2:x=tx <;> simp[h1,h2]
   ·rw[e2]
   ·rw[e3]
   ·rw[e4]
   ·rw[e5]
  have HR:=(show Hid _ from hres);clear hres
  have qm:∀ d,({ w1 with drawn:=d }:World).cell? ⟨br,i,none⟩=some (.map (G.m i)):=fun d=>(h1.heap rfl).cell_m hi6
  rw[ew1]at q1;clear ew1
  have hend:∀ (wC:World) (LC:Nat→Nat) (GC:Gst) (g:Nat),RunB base br wC LC GC s→GC.m i=some g→Mvs L LC w wC→∃ o',(Instr.mapUpdate 83 (.map (some g)) (.int .i64 tx) (.bool true)).run Try.prog wC=.ok () (setBlock wC g o')∧LkPost base br w L (takeL s ⟨tx,kx,(i:Int)⟩) (setBlock wC g o'):=by
   intro wC LC GC g hC hg hM;obtain⟨o',q1,q2⟩:=hC.addSh hi6 hg (hs.sh i) o1 o2
   have hLg:LC g=10+i:=by
    rcases hC.sh i hi6 with ⟨h3,_⟩ | ⟨g',l,h3,h4,_⟩
    ·rw[hg]at h3;cases h3
    ·rw[hg]at h3;cases h3;exact h4
   exact⟨o',q1 wC rfl,LC,GC,HR.out { s with sh:=fun j y=>if j=i then (if y=tx then true else s.sh i y) else s.sh j y } (fun j y=>rfl) rfl rfl rfl rfl _ _ _ (q2 wC rfl),hM.trans (Grw.setBlock (role:=10+i) o' hLg (by omega) hC.hi).mv⟩
  have HEnd:=(show Hid _ from hend)
  have heq:=fun w r=>run_eql_map_nil (P:=Try.prog) w 83 3 4 r Try.underlying83
  clear hend;obtain⟨wA,ewA⟩:∃ wA,wA=w1.drew:=⟨_,rfl⟩
  have hA:RunB base br wA L G s:=by rw[ewA];exact h1.drew
  have nA:wA.heap[w.heap.size]? = some (.cells #[.int .i64 tx,.int .i64 kx,.int .i64 (i:Int)] 44 (0,0)):=by rw[ewA];exact n1
  have BA:Mvs L L w wA:=by rw[ewA];exact B1.drew
  have zA:wA.heap.size=w1.heap.size:=by rw[ewA];rfl
  have hb1:=hA.lt;have hb2:=(Array.getElem?_eq_some_iff.1 nA).1;have HWA:=(show Hid (wA=_) from ewA);have HZA:=(show Hid _ from zA);clear ewA h1 B1 zA
  cases hm:G.m i with
  | some g =>
   rw[hm]at qm;obtain⟨o',hup,hpost⟩:=HEnd.out wA.drew L G g hA.drew hm BA.drew;have HP:=(show Hid _ from hpost)
   have p0:∀ d,({ wA with drawn:=d }:World).cell? ⟨w.heap.size,0,none⟩=some (.int .i64 tx):=fun d=>by simp[A0,nA]
   have p2:∀ d,({ wA with drawn:=d }:World).cell? ⟨w.heap.size,2,none⟩=some (.int .i64 (i:Int)):=fun d=>by simp[A0,nA]
   have pm:∀ d,({ wA with drawn:=d }:World).cell? ⟨br,i,none⟩=some (.map (some g)):=fun d=>by rw[← hm];exact (hA.heap rfl).cell_m hi6
   clear hpost hA hm
   go_enter Try.func114,Try.ntmps114
   go_wp2
   rw[← HW1.out]
   go_still_tail 7,(by kernel_rfl)
   change wpList _ _ _ _ _ w1.drew;rw[← HWA.out]
   go_wp2
   go_still_tail 9,(by kernel_rfl)
   change wpList _ _ _ _ _ wA.drew
   go_wp2
   refine bodyPost_end (results_none rfl _ _ _) rfl ?_;exact⟨rfl,HP.out⟩
  | none =>
   rw[hm]at qm;obtain⟨w2,ew2⟩:∃ w2,w2=(wA.alloc (.map #[] 0)).drew:=⟨_,rfl⟩
   have z2:w2.heap.size=wA.heap.size+1:=by rw[ew2];simp
   have b2:∀ k,k<wA.heap.size→w2.heap[k]? = wA.heap[k]?:=fun k hk=>by rw[ew2];exact heap_alloc_old wA _ hk
   obtain⟨LD,GD,hD,hDm,hDk,hDg⟩:=hA.lay hi6 hm (w1:=w2) (by rw[ew2];rfl);obtain⟨wD,ewD⟩:∃ wD,wD=w2.setCell ⟨br,i,none⟩ (.map (some wA.heap.size)):=⟨_,rfl⟩;rw[← ewD]at hD
   have hMD:Mvs L LD wA wD:=by
    refine⟨by rw[ewD,ew2];rfl,by rw[ewD,ew2];rfl,by rw[ewD,ew2];rfl,by rw[ewD,Vo];omega,fun k hk h0=>?_,hDg⟩;rw[ewD,YK (fun e=>by rw[e,hA.lbr]at h0;cases h0)];exact b2 k hk
   obtain⟨o',hup,hpost⟩:=HEnd.out wD.drew LD GD _ hD.drew hDm ((BA.trans hMD).drew)
   have nD:wD.heap[w.heap.size]? = some (.cells #[.int .i64 tx,.int .i64 kx,.int .i64 (i:Int)] 44 (0,0)):=by
    rw[ewD,YK (by omega),b2 _ hb2];exact nA
   have p0:∀ d,({ wD with drawn:=d }:World).cell? ⟨w.heap.size,0,none⟩=some (.int .i64 tx):=fun d=>by simp[A0,nD]
   have p2:∀ d,({ wD with drawn:=d }:World).cell? ⟨w.heap.size,2,none⟩=some (.int .i64 (i:Int)):=fun d=>by simp[A0,nD]
   have pm:∀ d,({ wD with drawn:=d }:World).cell? ⟨br,i,none⟩=some (.map (some wA.heap.size)):=fun d=>by
    have:=(hD.heap (w':={ wD with drawn:=d }) rfl).cell_m hi6;rw[hDm]at this;exact this
   have K0:wA.drew.cell? ⟨w.heap.size,2,none⟩=some (.int .i64 (i:Int)):=by rw[show wA.drew.cell? ⟨w.heap.size,2,none⟩=wA.cell? ⟨w.heap.size,2,none⟩ from rfl];simp[A0,nA]
   have K2:w2.cell? ⟨w.heap.size,2,none⟩=some (.int .i64 (i:Int)):=by
    have:=(b2 _ hb2).trans nA;simp[A0,this]
   have KD:wD.cell? ⟨w.heap.size,2,none⟩=some (.int .i64 (i:Int)):=p2 _
   have m2:w2.cell? ⟨br,i,none⟩=some (.map none):=by
    have h7:w2.heap[br]? = _:=(b2 br hb1).trans hA.blk;have h8:=hA.cell_m hi6;rw[hm]at h8;rw[← h8];simp[A0,h7,hA.blk]
   have f2:w2.frozen? ⟨br,i,none⟩=false:=by
    have h7:w2.heap[br]? = _:=(b2 br hb1).trans hA.blk;simp[B9,h7]
   have HP:=(show Hid _ from hpost);rw[ewD]at KD;have HWD:=(show Hid (wD=_) from ewD)
   have hWD2:wD=((wA.setCell ⟨br,i,none⟩ (.map (some wA.heap.size))).alloc (.map #[] 0)).drew:=by
    rw[ewD,ew2,← World.setCell_alloc_past _ _ _ _ hb1];rfl
   rw[← ewD,hWD2]at KD;have HWD2:=(show Hid _ from hWD2);rw[ew2]at K2 m2 f2;clear hpost hA hm hD ew2 ewD z2 b2 hMD hDk hDg hDm hWD2 HWD HEnd HR
   go_enter Try.func114,Try.ntmps114
   go_wp2
   rw[← HW1.out]
   go_still_tail 7,(by kernel_rfl)
   change wpList _ _ _ _ _ w1.drew;rw[← HWA.out]
   go_wp2
   go_region_held3 (fun w'=>w'.cell? ⟨w.heap.size,2,none⟩=some (.int .i64 (i:Int))) (first | exact K0 | exact K2 | exact KD) (fail)
   rw[← HWD2.out]
   go_wp2
   go_still_tail 9,(by kernel_rfl)
   change wpList _ _ _ _ _ wD.drew
   go_wp2
   refine bodyPost_end (results_none rfl _ _ _) rfl ?_;exact⟨rfl,HP.out⟩
def relTo (n:Nat) (s:LS) (t:Int):LS:={ s with sh:=fun j y=>if j<n∧y=t then false else s.sh j y,ex:=fun j=>if j<n∧s.ex j=t then 0 else s.ex j }
theorem qed {base br:Nat} {w:World} {L:Nat→Nat} {G:Gst} {s:LS} (h:RunB base br w L G s) (t:Int):RunB base br w L G (relTo 0 s t) :=
 h.congr (fun i _ x=>by show (if i<0∧x=t then false else s.sh i x)=_;rw[if_neg (by omega)]) (fun i _=>by show (if i<0∧s.ex i=t then 0 else s.ex i)=_;rw[if_neg (by omega)]) rfl rfl (fun _=>rfl)
theorem qfB {base br:Nat} {w:World} {L:Nat→Nat} {G:Gst} {s:LS} {t:Int} (h:RunB base br w L G (relTo 6 s t)):RunB base br w L G (relL s t) :=
 h.congr (fun i hi x=>by show (if x=t then false else s.sh i x)=(if i<6∧x=t then false else s.sh i x);by_cases e:x=t <;> simp[e,hi]) (fun i hi=>by show (if s.ex i=t then 0 else s.ex i)=(if i<6∧s.ex i=t then 0 else s.ex i);by_cases e:s.ex i=t <;> simp[e,hi]) rfl rfl (fun _=>rfl)
set_option maxHeartbeats 2000000 in
theorem Try.release98 {base br:Nat} {w:World} {L:Nat→Nat} {G:Gst} {s:LS} (h:RunB base br w L G s) {t:Int} (h1:1≤t) (h6:t≤6) :
  Calls Try.prog 98 #[.pointer (some ⟨br,0,none⟩),.int .i64 t] w fun e w'=>e=retU∧LkPost base br w L (relL s t) w':=by
 have mixed:=mixedP;have t3:=Try.underlying3;have a3:=Try.isAgg3;have z3:=Try.sizeOf3;have v3:=Try.zeroValue3;have u3:=run_underlying Try.underlying3;have t4:=Try.underlying4;have a4:=Try.isAgg4;have z4:=Try.sizeOf4;have v4:=Try.zeroValue4;have t83:=Try.underlying83;have a83:=Try.isAgg83;have z83:=Try.sizeOf83;have v83:=Try.zeroValue83;have u83:=run_underlying Try.underlying83;have t88:=Try.underlying88;have a88:=Try.isAgg88;have z88:=Try.sizeOf88;have u88:=run_underlying Try.underlying88;have t97:=Try.underlying97;have a97:=Try.isAgg97;have z97:=Try.sizeOf97;have u97:=run_underlying Try.underlying97;have t99:=Try.underlying99;have a99:=Try.isAgg99;have z99:=Try.sizeOf99;have u99:=run_underlying Try.underlying99;have H0:=(show Hid _ from qed h t);have hlt:=h.lt;clear h
 go_enter Try.func98,Try.ntmps98
 go_wp2
 go_loopg [5] 6 (fun gf s5 wx=>∃ (i:Nat),s5=.int .i64 (i:Int)∧i+gf=6∧RunB base br wx L G (relTo i s t)∧Mvs L L w wx)
 case atStart=>exact⟨0,rfl,rfl,H0.out,Mvs.refl _ _⟩
 case round =>
  obtain⟨i,rfl,hig,hR,hM⟩:=hrel;by_cases hi:i<6
  ·have j0:(0:Int)≤(i:Int):=Int.natCast_nonneg _
   have j6:(i:Int)<6:=by omega
   obtain⟨w1,hdel,hM1,hR1⟩:=hR.delSh hi h1 h6;have qm:wr.cell? ⟨br,i,none⟩=some (.map (G.m i)):=hR.cell_m hi
   have qe:w1.cell? ⟨br,6+i,none⟩=some (.int .i64 (s.ex i)):=by
    rw[hR1.cell_ex hi];show some (Value.int .i64 (if i<i∧s.ex i=t then 0 else s.ex i))=_;rw[if_neg (by omega)]
   have qf:w1.frozen? ⟨br,6+i,none⟩=false:=hR1.free _
   have hnext:∀ w2,(s.ex i=t→w2=w1.setCell ⟨br,6+i,none⟩ (.int .i64 0))→(s.ex i≠t→w2=w1)→RunB base br w2 L G (relTo (i+1) s t)∧Mvs L L w1 w2:=by
    intro w2 e1 e2;by_cases hx:s.ex i=t
    ·rw[e1 hx];refine⟨(hR1.setEx hi 0).congr (fun j hj x=>?_) (fun j hj=>?_) rfl rfl (fun _=>rfl),(hR1.cellG (i:=6+i) (v:=.int .i64 0)).mv⟩
     ·show (if j<i+1∧x=t then false else s.sh j x)=(if j=i then (if x=t then false else (if i<i∧x=t then false else s.sh i x)) else (if j<i∧x=t then false else s.sh j x));by_cases e3:j=i <;> by_cases e4:x=t <;> simp[e3,e4];by_cases e5:j<i
      ·simp[e5,B6 e5]
      ·simp[e5,show ¬ j<i+1 by omega]
     ·show (if j<i+1∧s.ex j=t then 0 else s.ex j)=(if j=i then 0 else (if j<i∧s.ex j=t then 0 else s.ex j));by_cases e3:j=i
      ·simp[e3,hx]
      ·by_cases e5:j<i
       ·simp[e3,e5,B6 e5]
       ·simp[e3,e5,show ¬ j<i+1 by omega]
    ·rw[e2 hx];refine⟨hR1.congr (fun j hj x=>?_) (fun j hj=>?_) rfl rfl (fun _=>rfl),Mvs.refl _ _⟩
     ·show (if j<i+1∧x=t then false else s.sh j x)=(if j=i then (if x=t then false else (if i<i∧x=t then false else s.sh i x)) else (if j<i∧x=t then false else s.sh j x));by_cases e3:j=i <;> by_cases e4:x=t <;> simp[e3,e4];by_cases e5:j<i
      ·simp[e5,B6 e5]
      ·simp[e5,show ¬ j<i+1 by omega]
     ·show (if j<i+1∧s.ex j=t then 0 else s.ex j)=(if j<i∧s.ex j=t then 0 else s.ex j);by_cases e3:j=i
      ·simp[e3,hx]
      ·by_cases e5:j<i
       ·simp[e5,B6 e5]
       ·simp[e5,show ¬ j<i+1 by omega]
   have HN:=(show Hid _ from hnext);have HM:=(show Hid _ from hM.trans hM1);clear hnext hR hR1 hM hM1;generalize s.ex i=x at qe HN;by_cases hx:x=t
   ·subst hx;obtain⟨r1,r2⟩:=HN.out _ (fun _=>rfl) (fun e=>absurd rfl e);have R1:=(show Hid _ from r1);have R2:=(show Hid _ from r2);clear r1 r2 HN
    go_wp2
    go_roundg (6 - (i+1))
    case measure=>omega
    case rel=>exact⟨i+1,by go_num,by omega,R1.out,HM.out.trans R2.out⟩
   ·have hx':(x == t)=false:=beq_eq_false_iff_ne.2 hx;obtain⟨r1,r2⟩:=HN.out _ (fun e=>absurd e hx) (fun _=>rfl);have R1:=(show Hid _ from r1);clear r1 r2 HN
    go_wp2
    go_roundg (6 - (i+1))
    case measure=>omega
    case rel=>exact⟨i+1,by go_num,by omega,R1.out,HM.out⟩
  ·have hi6:i=6:=by omega
   subst hi6;have HR:=(show Hid _ from qfB hR);clear hR
   go_wp2
   refine bodyPost_end (results_none rfl _ _ _) rfl ?_;exact⟨rfl,L,G,HR.out,hM⟩
end Go.Proofs
namespace Go.Proofs
open Go
section
variable {P:Program} {ops:Array Oper} {Q:Exit→Act→World→Prop} {md:C7} {S:World→Prop} {m:Nat}
def wpAnyG (P:Program) (md:C7) (ops:Array Oper) (Q:Exit→Act→World→Prop) (S:World→Prop) (m:Nat):Nat→Array Bool→Act→World→Prop
 | 0,listed,a,w=>A1 md ops listed=[]∧Q .normal a w
 | fuel+1,listed,a,w =>
  (A1 md ops listed=[]→Q .normal a w) ∧
  ∀ i∈A1 md ops listed,wpOp P ops Q i (fun a' w'=>(i≠m→listed.getD m true=false→S w')∧wpAnyG P md ops Q S m fuel (listed.setIfInBounds i true) a' w') a w
theorem Dm:∀ (fuel:Nat) (listed:Array Bool) (a:Act) (w:World),wpAnyG P md ops Q S m fuel listed a w→wpAny P md ops Q fuel listed a w
 | 0,_,_,_,h=>h
 | fuel+1,_,_,_,h=>⟨h.1,fun i hi=>wpOp_mono (fun a' w' h'=>Dm fuel _ a' w' h'.2) (h.2 i hi)⟩
theorem qbL {i:Nat} {oi:Oper} {v:Value} (hi:ops[i]? = some oi) (hsel:∀ (j:Nat) (o:Oper) cs b,ops[j]? = some o→o.op≠.select cs b)
  (him:i≠m) (hwait:∀ om,ops[m]? = some om→∃ e∈om.after,A8 md e=true∧e.on=i)
  (hQ:∀ c a w,Q (.panic c) (a.put oi.dst v) w→Q (.panic c) a w) :
  ∀ (fuel:Nat) (listed:Array Bool) (a:Act) (w:World),
   (∀ j oj,ops[j]? = some oj→j≠i→listed.getD j true=false→(∀ e∈oj.after,A8 md e=true→e.on≠i)→oi.apart ops oj=true) →
   i∈A1 md ops listed→YieldsIf P ops S oi v a→S w→listed.getD m true=false →
   wpAnyG P md ops Q S m fuel (listed.setIfInBounds i true) (a.put oi.dst v) w→wpAnyG P md ops Q S m (fuel+1) listed a w:=by
 intro fuel
 induction fuel with
 | zero =>
  intro listed a w _ hr hy hS hm H;refine⟨fun h=>(by rw[h]at hr;cases hr),fun j hj=>?_⟩;by_cases hji:j=i
  ·subst hji;exact hy.wpOp hi hS ⟨fun _ _=>hS,H⟩
  ·have:=ready_mono hj hji;rw[H.1]at this;cases this
 | succ fuel ih =>
  intro listed a w hfree hr hy hS hm H;refine⟨fun h=>(by rw[h]at hr;cases hr),fun j hj=>?_⟩;by_cases hji:j=i
  ·subst hji;exact hy.wpOp hi hS ⟨fun _ _=>hS,H⟩
  ·have h1:=H.2 j (ready_mono hj hji);obtain⟨hjun,oj,hoj,hall⟩:=mem_ready.1 hj
   have hnot:∀ e∈oj.after,A8 md e=true→e.on≠i:=fun e he hb heq=>by
    have h1:=hall e he hb;have h0:=(mem_ready.1 hr).1;rw[heq]at h1
    rcases Nat.lt_or_ge i listed.size with h' | h'
    ·simp[h']at h0 h1;rw[h0]at h1;cases h1
    ·simp[Array.getElem?_eq_none h']at h1
   have hjm:j≠m:=fun e=>by
    subst e;obtain⟨e,he,hb,ho⟩:=hwait oj hoj;exact hnot e he hb ho
   have h2:=wpOp_putIf hoj (hfree j oj hoj hji hjun hnot) (fun cs b=>hsel i oi cs b hi) (fun cs b=>hsel j oj cs b hoj) hQ hy h1
   have hfree':∀ k ok,ops[k]? = some ok→k≠i→(listed.setIfInBounds j true).getD k true=false →
     (∀ e∈ok.after,A8 md e=true→e.on≠i)→oi.apart ops ok=true:=fun k ok hk hki hun hno=>by
    refine hfree k ok hk hki ?_ hno;by_cases hjk:j=k
    ·subst hjk;exact hjun
    ·rw[getD_set_ne true hjk]at hun;exact hun
   have hm2:(listed.setIfInBounds j true).getD m true=false:=by rw[getD_set_ne true hjm];exact hm
   have hm3:(listed.setIfInBounds i true).getD m true=false:=by rw[getD_set_ne true him];exact hm
   refine wpOp_mono (fun a' w' h3=>⟨fun _ _=>h3.2.1 hjm hm3,ih (listed.setIfInBounds j true) a' w' hfree' (ready_mono hr (Ne.symm hji)) h3.1 (h3.2.1 hjm hm3) hm2 ?_⟩) h2;rw[Array.setIfInBounds_comm _ _ hji];exact h3.2.2
theorem qdM {i:Nat} (h:Region.waitsFor md ops m i=true):∀ om,ops[m]? = some om→∃ e∈om.after,A8 md e=true∧e.on=i:=fun om hom=>by
 obtain⟨oj,hoj,e,he,hb,ho⟩:=Region.waitsFor_spec h;rw[hom]at hoj;cases hoj;exact⟨e,he,hb,ho⟩
def takeB (md:C7) (ops:Array Oper) (listed:Array Bool) (i m:Nat):Bool :=
 Region.noSelect ops && Region.free md ops listed i && (A1 md ops listed).contains i && !(i == m) && Region.waitsFor md ops m i && !(listed.getD m true)
theorem jp {i:Nat} {oi:Oper} {v:Value} {fuel:Nat} {listed:Array Bool} {a:Act} {w:World} (hi:ops[i]? = some oi)
  (hb:takeB md ops listed i m=true)
  (hQ:∀ c a w,Q (.panic c) (a.put oi.dst v) w→Q (.panic c) a w) (hw:B7 oi (yielded ops a.tmps)=true) (hy:∀ w,S w→(execOp a.eval oi).run P w=.ok (.value v) w) (hS:S w)
  (h:wpAnyG P md ops Q S m fuel (listed.setIfInBounds i true) (a.put oi.dst v) w):wpAnyG P md ops Q S m (fuel+1) listed a w:=by
 simp only[takeB,Bool.and_eq_true,Bool.not_eq_true',beq_eq_false_iff_ne]at hb;obtain⟨⟨⟨⟨⟨hs,hf⟩,hr⟩,him⟩,hwt⟩,hm⟩:=hb;exact qbL hi (Region.noSelect_spec hs) him (qdM hwt) hQ fuel listed a w (Region.free_spec hi hf) (by simpa using hr) (.inl ⟨hw,hy⟩) hS hm h
theorem Yu {i:Nat} {o:Oper} {fuel:Nat} {listed:Array Bool} {a:Act} {w:World} (hr:A1 md ops listed=[i]) (ho:ops[i]? = some o) (him:(i == m)=false)
  (h:∀ K':Act→World→Prop,Shut (∀ a w,S w→(S w→wpAnyG P md ops Q S m fuel (listed.setIfInBounds i true) a w)→K' a w)→if B7 o (yielded ops a.tmps)=true then Oper.wp P o a w K' Q else K' (a.put o.dst undef) w) :
  wpAnyG P md ops Q S m (fuel+1) listed a w:=by
 refine⟨fun h0=>absurd (hr ▸ h0) (by simp),fun j hj=>?_⟩;rw[hr,B5]at hj;subst hj;exact wpOp_step ho (fun K' hK=>h K' (fun a w hS hW=>hK a w ⟨fun _ _=>hS,hW hS⟩))
theorem Hh {o:Oper} {fuel:Nat} {listed:Array Bool} {a:Act} {w:World} (hr:A1 md ops listed=[m]) (ho:ops[m]? = some o) (hd:A1 md ops (listed.setIfInBounds m true)=[])
  (h:∀ K':Act→World→Prop,(∀ a w,Q .normal a w→K' a w)→if B7 o (yielded ops a.tmps)=true then Oper.wp P o a w K' Q else K' (a.put o.dst undef) w) :
  wpAnyG P md ops Q S m (fuel+1) listed a w:=by
 refine⟨fun h0=>absurd (hr ▸ h0) (by simp),fun j hj=>?_⟩;rw[hr,B5]at hj;subst hj;refine wpOp_step ho (fun K' hK=>h K' (fun a w hW=>hK a w ⟨fun e _=>absurd rfl e,?_⟩))
 cases fuel with
 | zero=>exact⟨hd,hW⟩
 | succ n=>exact⟨fun _=>hW,fun i hi=>by rw[hd]at hi;cases hi⟩
theorem Hg {id:Nat} {a:Act} {w:World} (m:Nat) (hm:P.follows .mixedOrders=true) (hS:S w.drew)
  (h:S w.drew→wpAnyG P .any ops Q S m ops.size (Array.replicate ops.size false) a w.drew):(Code.region id ops true).wp P Q a w :=
 wp_region_any hm (Dm _ _ _ _ (h hS))
end
end Go.Proofs
namespace Go.Proofs
open Go.RowKit Go.AM
open Go.ChangeMaps (setBlock)
theorem Mvs.lab {L L':Nat→Nat} {w w':World} (h:Mvs L L' w w') {k:Nat} (hk:k<w.heap.size) (h0:L k=0):L' k=0:=by
 rcases Nat.eq_zero_or_pos (L' k) with e | e
 ·exact e
 ·rcases h.grow k (by omega) with e2 | e2
  ·exact absurd h0 e2
  ·omega
theorem Try.info44:(Try.prog.info? 44).map (fun i=>(i.zero,i.size,i.bytes))=some (some (.agg #[.int .i64 0,.int .i64 0,.int .i64 0]),3,24):=by kernel_rfl
theorem Try.info104:(Try.prog.info? 104).map (fun i=>(i.zero,i.size,i.bytes))=some (some (.agg #[.int .i64 0,.int .i64 0,.int .i64 0,.int .i64 0]),4,32):=by kernel_rfl
theorem NK {ops:Array Oper} {rest:List Oper} {o:Oper} {a:Act} {w:World} {Q:Exit→Act→World→Prop} (hgd:o.guard=none) (s x:Operand) (ho:o.op=.call { callee:=.builtin .append,args:=#[s,x],argTypes:=#[29,29] }) {L:Nat→Nat} {v:Value} {n:Nat} {xs:List Value} {f:hsOp} {b c0:Nat} {fz:Nat×Nat}
  (hs:a.eval s=v) (hx:a.eval x=.slice (some ⟨b,0,none⟩) 1 c0) (hown:RowT w L 3 44 3 v n xs) (hi:∀ k,w.heap.size≤k→L k=0) (hb:w.heap[b]? = some (.cells #[.int .i64 f.qb,.int .i64 f.qh,.int .i64 f.qi] 44 fz)) (hlen:n≤1000000000)
  (h:∀ g off cap w' L',RowT w' L' 3 44 3 (.slice (some ⟨g,off,none⟩) (n+1) cap) (n+1) (xs++[.int .i64 f.qb,.int .i64 f.qh,.int .i64 f.qi])→Grw 3 L L' w w'→wpList Try.prog ops Q rest (a.put o.dst (.slice (some ⟨g,off,none⟩) (n+1) cap)) w'):wpList Try.prog ops Q (o::rest) a w :=
 XW hgd s x 29 ho hi (by decide) 44 _ 3 24 Try.underlying29 Try.info44 rfl (by decide) hs hown (ad:=⟨b,0,none⟩) (news:=[.int .i64 f.qb,.int .i64 f.qh,.int .i64 f.qi]) hx rfl (C4 hb) (by simp[Value.oneCell']) (by simp only[maxLen];omega) (by omega) h
theorem Du {ops:Array Oper} {o:Oper} {a:Act} {w:World} {K:Act→World→Prop} {Q:Exit→Act→World→Prop} {E:Prop} (hgd:o.guard=none) (s x:Operand) (ho:o.op=.call { callee:=.builtin .append,args:=#[s,x],argTypes:=#[29,29] }) {L:Nat→Nat} {v:Value} {n:Nat} {xs:List Value} {f:hsOp} {b c0:Nat} {fz:Nat×Nat}
  (hs:a.eval s=v) (hx:a.eval x=.slice (some ⟨b,0,none⟩) 1 c0) (hown:RowT w L 3 44 3 v n xs) (hi:∀ k,w.heap.size≤k→L k=0) (hb:w.heap[b]? = some (.cells #[.int .i64 f.qb,.int .i64 f.qh,.int .i64 f.qi] 44 fz)) (hlen:n≤1000000000)
  (h:∀ g off cap w' L',RowT w' L' 3 44 3 (.slice (some ⟨g,off,none⟩) (n+1) cap) (n+1) (xs++[.int .i64 f.qb,.int .i64 f.qh,.int .i64 f.qi])→Grw 3 L L' w w'→K (a.put o.dst (.slice (some ⟨g,off,none⟩) (n+1) cap)) w'):if B7 o (yielded ops a.tmps)=true then Oper.wp Try.prog o a w K Q else E :=
 ZQ hgd s x 29 ho hi (by decide) 44 _ 3 24 Try.underlying29 Try.info44 rfl (by decide) hs hown (ad:=⟨b,0,none⟩) (news:=[.int .i64 f.qb,.int .i64 f.qh,.int .i64 f.qi]) hx rfl (C4 hb) (by simp[Value.oneCell']) (by simp only[maxLen];omega) (by omega) h
set_option maxHeartbeats 4000000 in
theorem Try.try96 {N base br:Nat} {w:World} {L:Nat→Nat} {G:Gst} {s:LS} (h:RunB base br w L G s) (hs:OkS N s) (hN:N≤1000000) {t:Int} {p:hsOp×Int} {rest:List (hsOp×Int)} (hw:s.wt t=p::rest) :
  Calls Try.prog 96 #[.pointer (some ⟨br,0,none⟩),.int .i64 t] w fun e w'=>(Stuck s p.1∧e=.returned (.bool false)∧LkPost base br w L s w')∨(¬ Stuck s p.1∧e=.returned (.bool true)∧LkPost base br w L (doL s t p.1 rest) w'):=by
 obtain⟨⟨tx,kx,ix⟩,pa⟩:=p;have hk6:=hs.wtk t (by rw[hw];simp);obtain⟨hoo,hot,hoa⟩:=hs.wto t _ (by rw[hw];exact .head _);have ho:=hoo;obtain⟨o1,o2,o3,o4,o5,o6⟩:=hoo;simp only at o1 o2 o3 o4 o5 o6 hot;subst hot;have mixed:=mixedP;have t3:=Try.underlying3;have a3:=Try.isAgg3;have z3:=Try.sizeOf3;have v3:=Try.zeroValue3;have u3:=run_underlying Try.underlying3;have t4:=Try.underlying4;have a4:=Try.isAgg4;have z4:=Try.sizeOf4;have v4:=Try.zeroValue4;have t24:=Try.underlying24;have a24:=Try.isAgg24;have z24:=Try.sizeOf24;have v24:=Try.zeroValue24;have u24:=run_underlying Try.underlying24;have t29:=Try.underlying29;have a29:=Try.isAgg29;have z29:=Try.sizeOf29;have v29:=Try.zeroValue29;have u29:=run_underlying Try.underlying29;have t44:=Try.underlying44;have a44:=Try.isAgg44;have z44:=Try.sizeOf44;have v44:=Try.zeroValue44;have u44:=run_underlying Try.underlying44;have t96:=Try.underlying96;have a96:=Try.isAgg96;have z96:=Try.sizeOf96;have u96:=run_underlying Try.underlying96;have t101:=Try.underlying101;have a101:=Try.isAgg101;have z101:=Try.sizeOf101;have u101:=run_underlying Try.underlying101;have t102:=Try.underlying102;have a102:=Try.isAgg102;have z102:=Try.sizeOf102;have v102:=Try.zeroValue102;have u102:=run_underlying Try.underlying102;have t104:=Try.underlying104;have a104:=Try.isAgg104;have z104:=Try.sizeOf104;have u104:=run_underlying Try.underlying104;obtain⟨v,hlk,hrow⟩:=h.row (by omega:0≤tx) hk6.2;rw[hw]at hrow;obtain⟨g,off,cap,rfl,hgr,hgl,_⟩:=hrow.formp (by simp);have hlk0:=hlk w rfl;have c0:w.cell? ⟨g,off,none⟩=some (.int .i64 tx):=hrow.cell (j:=0) rfl;have c1:w.cell? ⟨g,off+1,none⟩=some (.int .i64 kx):=hrow.cell (j:=1) rfl;have c2:w.cell? ⟨g,off+2,none⟩=some (.int .i64 ix):=hrow.cell (j:=2) rfl;have qw:w.cell? ⟨br,14,none⟩=some (.map (some G.gw)):=h.cell_wt;obtain⟨w1,ew1⟩:∃ w1,w1=w.alloc (.cells #[.int .i64 tx,.int .i64 kx,.int .i64 ix] 44):=⟨_,rfl⟩
 have h1:RunB base br w1 L G s:=by rw[ew1];exact h.alloc _
 have B1:Mvs L L w w1:=by rw[ew1];exact (Mvs.refl _ _).alloc _
 have n1:w1.heap[w.heap.size]? = some (.cells #[.int .i64 tx,.int .i64 kx,.int .i64 ix] 44 (0,0)):=by rw[ew1];exact heap_alloc_new _ _
 have hL0:L w.heap.size=0:=h.hi _ (Nat.le_refl _)
 have q0:∀ d,({ w1 with drawn:=d }:World).cell? ⟨w.heap.size,0,none⟩=some (.int .i64 tx):=fun d=>by simp[A0,n1]
 have q1:∀ d,({ w1 with drawn:=d }:World).cell? ⟨w.heap.size,1,none⟩=some (.int .i64 kx):=fun d=>by simp[A0,n1]
 have q2:∀ d,({ w1 with drawn:=d }:World).cell? ⟨w.heap.size,2,none⟩=some (.int .i64 ix):=fun d=>by simp[A0,n1]
 have q1':w1.cell? ⟨w.heap.size,1,none⟩=some (.int .i64 kx):=q1 w1.drawn
 have hl0:(0:Int)<((rest.length:Int)+1):=by omega
 have HW1:=(show Hid (w1=_) from ew1);rw[ew1]at q1';have HR:=(show Hid _ from hrow);clear hrow hlk ew1;by_cases hk:kx≤1
 case' pos =>
  go_enter Try.func96,Try.ntmps96
  go_wp2_with fail
  rw[← HW1.out]
  go_still_tail 4,(by kernel_rfl)
  change wpList _ _ _ _ _ w1.drew;have c99:=Try.hinders99 h1.drew hs ho
  go_wp2_with fail
  refine Calls.mono c99 ?_
  rintro e w2 ⟨hv,out,rfl,B2,R2,hl2,hm2⟩
  obtain⟨ha,hc,rfl⟩:=R2.form;clear c99;have B2':Mvs L L w w2:=B1.trans (Mvs.of_below B2).undrew;have h2:=h1.drew.below B2;have n2:w2.heap[w.heap.size]? = some (.cells #[.int .i64 tx,.int .i64 kx,.int .i64 ix] 44 (0,0)):=(B2.block _ (Array.getElem?_eq_some_iff.1 n1).1).trans n1;by_cases hout:out=[]
  case neg =>
   have hpos:(0:Int)<(out.length:Int):=by have:=List.length_pos_iff.2 hout;omega
   have hst:Stuck s ⟨tx,kx,ix⟩:=by
    cases out with
    | nil=>exact absurd rfl hout
    | cons y ys=>exact⟨hk,y,(hm2 y).1 (.head _)⟩
   clear hout
   go_wp2
   go_ret
   exact .inl ⟨hst,rfl,L,G,h2,B2'⟩
  case' pos =>
   have hlz:out.length=0:=by rw[hout];rfl
   have hst:¬ Stuck s ⟨tx,kx,ix⟩:=fun ⟨_,y,hy⟩=>by
    have:=(hm2 y).2 hy;rw[hout]at this;cases this
   rw[hlz];clear hout hm2 R2 hlz q0 q1 q2 n1 HW1
   have q0:∀ d,({ w2 with drawn:=d }:World).cell? ⟨w.heap.size,0,none⟩=some (.int .i64 tx):=fun d=>by simp[A0,n2]
   have q1:∀ d,({ w2 with drawn:=d }:World).cell? ⟨w.heap.size,1,none⟩=some (.int .i64 kx):=fun d=>by simp[A0,n2]
   have q2:∀ d,({ w2 with drawn:=d }:World).cell? ⟨w.heap.size,2,none⟩=some (.int .i64 ix):=fun d=>by simp[A0,n2]
   go_wp2_with fail
   go_still_tail 4,(by kernel_rfl)
   change wpList _ _ _ _ _ w2.drew;have c114:=Try.take114 h2.drew hs ho
   go_wp2_with fail
   refine Calls.mono c114 ?_
   rintro e w3 ⟨rfl,L3,G3,h3,B3⟩
   have M3:Mvs L L3 w w3:=B2'.trans B3.undrew;have n3:w3.heap[w.heap.size]? = some (.cells #[.int .i64 tx,.int .i64 kx,.int .i64 ix] 44 (0,0)):=((B3.keep w.heap.size (Array.getElem?_eq_some_iff.1 n2).1 hL0:w3.heap[w.heap.size]? = w2.heap[w.heap.size]?)).trans n2;have hL3:L3 w.heap.size=0:=B3.lab (lt_of_block n2) hL0;clear c114 B3 B2' h2 q0 q1 q2 n2 B2 w2;obtain⟨s1,es1⟩:∃ s1,s1=takeL s ⟨tx,kx,ix⟩:=⟨_,rfl⟩;rw[← es1]at h3
   have e1:s1.done=s.done:=by rw[es1];unfold takeL;split <;> rfl
   have e2:s1.wt=s.wt:=by rw[es1];unfold takeL;split <;> rfl
   have e3:doL s tx ⟨tx,kx,ix⟩ rest=putW { s1 with done:=s.done++[⟨tx,kx,ix⟩] } tx rest:=by rw[es1];unfold doL;rw[if_pos (by show kx≤1;omega)]
 case' neg =>
  have hst:¬ Stuck s ⟨tx,kx,ix⟩:=fun h=>hk h.1
  have c98:=Try.release98 h1 (t:=tx) (by omega) (by omega)
  go_enter Try.func96,Try.ntmps96
  go_wp2_with fail
  rw[← HW1.out];refine Calls.mono c98 ?_
  rintro e w3 ⟨rfl,L3,G3,h3,B3⟩
  have M3:Mvs L L3 w w3:=B1.trans B3;obtain⟨s1,es1⟩:∃ s1,s1=relL s tx:=⟨_,rfl⟩;rw[← es1]at h3
  have e1:s1.done=s.done:=by rw[es1];rfl
  have e2:s1.wt=s.wt:=by rw[es1];rfl
  have e3:doL s tx ⟨tx,kx,ix⟩ rest=putW { s1 with done:=s.done++[⟨tx,kx,ix⟩] } tx rest:=by rw[es1];unfold doL;rw[if_neg (by show ¬ kx≤1;omega)]
  have n3:w3.heap[w.heap.size]? = some (.cells #[.int .i64 tx,.int .i64 kx,.int .i64 ix] 44 (0,0)):=(B3.keep _ (Array.getElem?_eq_some_iff.1 n1).1 hL0).trans n1;have hL3:L3 w.heap.size=0:=B3.lab (lt_of_block n1) hL0;clear c98 B3 q0 q1 q2 HW1 n1
 all_goals
  clear es1 B1 h1 q1' w1;have E3:=(show Hid _ from e3);have E1:=(show Hid _ from e1);have E2:=(show Hid _ from e2);clear e3 e1 e2 c0 c1 c2 qw hlk0 HR
  have hwt:s1.wt tx=(⟨tx,kx,ix⟩,pa)::rest:=by rw[E2.out];exact hw
  have q3:∀ d,({ w3 with drawn:=d }:World).cell? ⟨br,12,none⟩=some G3.dv:=fun d=>(h3.heap rfl).cell_done
  have q4:∀ d,({ w3 with drawn:=d }:World).cell? ⟨w.heap.size,0,none⟩=some (.int .i64 tx):=fun d=>by simp[A0,n3]
  have q5:∀ d,({ w3 with drawn:=d }:World).cell? ⟨w.heap.size,1,none⟩=some (.int .i64 kx):=fun d=>by simp[A0,n3]
  have q6:∀ d,({ w3 with drawn:=d }:World).cell? ⟨w.heap.size,2,none⟩=some (.int .i64 ix):=fun d=>by simp[A0,n3]
  obtain⟨w4,ew4⟩:∃ w4,w4=(w3.alloc (.cells #[.int .i64 tx,.int .i64 kx,.int .i64 ix] 44)).drew:=⟨_,rfl⟩
  have h4:RunB base br w4 L3 G3 s1:=by rw[ew4];exact (h3.alloc _).drew
  have M4:Mvs L L3 w w4:=by rw[ew4];exact (M3.alloc _).drew
  have n4:w4.heap[w3.heap.size]? = some (.cells #[.int .i64 tx,.int .i64 kx,.int .i64 ix] 44 (0,0)):=by rw[ew4];exact heap_alloc_new w3 _
  have n4':w4.heap[w.heap.size]? = some (.cells #[.int .i64 tx,.int .i64 kx,.int .i64 ix] 44 (0,0)):=by rw[ew4];exact (heap_alloc_old w3 _ (lt_of_block n3)).trans n3
  have hne:w.heap.size≠br:=fun e=>by have:=h3.lbr;rw[← e,hL3]at this;cases this
  have hdl:s1.done.length≤1000000000:=by rw[E1.out];have:=hs.tot;omega
  have r4:=h4.done;have i4:=h4.hi;have W4:=(show Hid (w4=_) from ew4);rw[ew4]at r4 n4 i4;have H3:=(show Hid _ from h3);have H4:=(show Hid _ from h4);clear h3 h4 ew4 n3
  go_wp2_with fail
  have K0:w3.drew.cell? ⟨br,12,none⟩=some G3.dv∧w3.drew.cell? ⟨w.heap.size,0,none⟩=some (.int .i64 tx)∧w3.drew.cell? ⟨w.heap.size,1,none⟩=some (.int .i64 kx)∧w3.drew.cell? ⟨w.heap.size,2,none⟩=some (.int .i64 ix):=⟨q3 _,q4 _,q5 _,q6 _⟩
  have K4:(w3.alloc (.cells #[.int .i64 tx,.int .i64 kx,.int .i64 ix] 44)).drew.cell? ⟨br,12,none⟩=some G3.dv∧(w3.alloc (.cells #[.int .i64 tx,.int .i64 kx,.int .i64 ix] 44)).drew.cell? ⟨w.heap.size,0,none⟩=some (.int .i64 tx)∧(w3.alloc (.cells #[.int .i64 tx,.int .i64 kx,.int .i64 ix] 44)).drew.cell? ⟨w.heap.size,1,none⟩=some (.int .i64 kx)∧(w3.alloc (.cells #[.int .i64 tx,.int .i64 kx,.int .i64 ix] 44)).drew.cell? ⟨w.heap.size,2,none⟩=some (.int .i64 ix):=by
   rw[← W4.out];exact⟨H4.out.cell_done,by simp[A0,n4'],by simp[A0,n4'],by simp[A0,n4']⟩
  refine Hg (S:=fun w'=>w'.cell? ⟨br,12,none⟩=some G3.dv∧w'.cell? ⟨w.heap.size,0,none⟩=some (.int .i64 tx)∧w'.cell? ⟨w.heap.size,1,none⟩=some (.int .i64 kx)∧w'.cell? ⟨w.heap.size,2,none⟩=some (.int .i64 ix)) 10 (by kernel_rfl) K0 (fun hHeld=>?_);refine jp (i:=0) (v:=.pointer (some ⟨br,0,none⟩)) rfl (by kernel_rfl) (fun _ _ _ h=>h) (by kernel_rfl) (fun w' hw'=>?_) hHeld ?_
  ·obtain⟨p0,p1,p2,p3⟩:=hw';go_simp
  simp only[Act.put,A2,A3,A4,A5,A6,A7];refine jp (i:=1) (v:=.pointer (some ⟨br,0,none⟩)) rfl (by kernel_rfl) (fun _ _ _ h=>h) (by kernel_rfl) (fun w' hw'=>?_) hHeld ?_
  ·obtain⟨p0,p1,p2,p3⟩:=hw';go_simp
  simp only[Act.put,A2,A3,A4,A5,A6,A7];refine jp (i:=2) (v:=.pointer (some ⟨br,0,none⟩)) rfl (by kernel_rfl) (fun _ _ _ h=>h) (by kernel_rfl) (fun w' hw'=>?_) hHeld ?_
  ·obtain⟨p0,p1,p2,p3⟩:=hw';go_simp
  simp only[Act.put,A2,A3,A4,A5,A6,A7];refine jp (i:=3) (v:=.pointer (some ⟨br,12,none⟩)) rfl (by kernel_rfl) (fun _ _ _ h=>h) (by kernel_rfl) (fun w' hw'=>?_) hHeld ?_
  ·obtain⟨p0,p1,p2,p3⟩:=hw';go_simp
  simp only[Act.put,A2,A3,A4,A5,A6,A7];refine jp (i:=4) (v:=G3.dv) rfl (by kernel_rfl) (fun _ _ _ h=>h) (by kernel_rfl) (fun w' hw'=>?_) hHeld ?_
  ·obtain⟨p0,p1,p2,p3⟩:=hw';go_simp
  simp only[Act.put,A2,A3,A4,A5,A6,A7];refine jp (i:=5) (v:=.agg #[.int .i64 tx,.int .i64 kx,.int .i64 ix]) rfl (by kernel_rfl) (fun _ _ _ h=>h) (by kernel_rfl) (fun w' hw'=>?_) hHeld ?_
  ·obtain⟨p0,p1,p2,p3⟩:=hw';go_simp
  simp only[Act.put,A2,A3,A4,A5,A6,A7];refine Yu (i:=6) (by kernel_rfl) rfl rfl (fun K hK=>?_);rw[if_pos (by kernel_rfl)];go_simp;refine hK.out _ _ K4 (fun hHeld=>?_);clear hK K;refine Yu (i:=7) (by kernel_rfl) rfl rfl (fun K hK=>?_);refine Du (f:=⟨tx,kx,ix⟩) (by rfl) (.tmp 39) (.tmp 41) (by rfl) (by rfl) (by rfl) r4 i4 n4 hdl ?_;intro g5 off5 cap5 w5 L5 r5 g5';rw[← W4.out]at g5';have nb5:w5.heap[br]? = some (.cells (Qi G3 s1) 101 (0,0)):=(g5'.oth br H4.out.lt (by rw[H4.out.lbr];decide)).trans H4.out.blk
  have d1:w5.frozen? ⟨br,12,none⟩=false:=by simp[B9,nb5]
  have no5:w5.heap[w.heap.size]? = some (.cells #[.int .i64 tx,.int .i64 kx,.int .i64 ix] 44 (0,0)):=(g5'.oth _ (lt_of_block n4') (by rw[hL3];decide)).trans n4'
  have d2:w5.cell? ⟨br,12,none⟩=some G3.dv:=by simp[A0,nb5,Qi]
  have K5:w5.cell? ⟨br,12,none⟩=some G3.dv∧w5.cell? ⟨w.heap.size,0,none⟩=some (.int .i64 tx)∧w5.cell? ⟨w.heap.size,1,none⟩=some (.int .i64 kx)∧w5.cell? ⟨w.heap.size,2,none⟩=some (.int .i64 ix):=⟨d2,by simp[A0,no5],by simp[A0,no5],by simp[A0,no5]⟩;refine hK.out _ _ K5 (fun hHeld=>?_);clear hK K;refine Yu (i:=8) (by kernel_rfl) rfl rfl (fun K hK=>?_);rw[if_pos (by kernel_rfl)];go_simp;refine hK.out _ _ K5 (fun hHeld=>?_);clear hK K;refine Yu (i:=9) (by kernel_rfl) rfl rfl (fun K hK=>?_);rw[if_pos (by kernel_rfl)];go_simp;refine hK.out _ _ K5 (fun hHeld=>?_);clear hK K;refine Hh (by kernel_rfl) rfl (by kernel_rfl) (fun K hK=>?_);rw[if_pos (by kernel_rfl)];go_simp;refine hK _ _ ?_;clear hK K K0 K4 K5 hHeld no5;obtain⟨h6,M6⟩:=H4.out.pushDone (o:=⟨tx,kx,ix⟩) g5' r5;obtain⟨w6,ew6⟩:∃ w6,w6=w5.setCell ⟨br,12,none⟩ (.slice (some ⟨g5,off5,none⟩) (s1.done.length+1) cap5):=⟨_,rfl⟩;rw[← ew6]at h6 M6 ⊢;obtain⟨G6,eG6⟩:∃ G6:Gst,G6={ G3 with dv:=.slice (some ⟨g5,off5,none⟩) (s1.done.length+1) cap5 }:=⟨_,rfl⟩;rw[← eG6]at h6;clear eG6;have M6':Mvs L L5 w w6:=M4.trans M6;obtain⟨s2,es2⟩:∃ s2:LS,s2={ s1 with done:=s1.done++[⟨tx,kx,ix⟩] }:=⟨_,rfl⟩
  have hwt2:s2.wt tx=(⟨tx,kx,ix⟩,pa)::rest:=by rw[es2];exact hwt
  rw[← es2]at h6;have ES:=(show Hid _ from es2);clear ew6 es2 nb5 d1 d2 q3 q4 q5 q6 r4 n4 i4;obtain⟨v6,hlk6,hrow6⟩:=h6.row (by omega:0≤tx) hk6.2;rw[hwt2]at hrow6;obtain⟨g6,off6,cap6,rfl,hgr6,hgl6,hcap6⟩:=hrow6.formp (by simp)
  have q7:=fun d=>(h6.heap (w':={ w6 with drawn:=d }) rfl).cell_wt
  have hlk7:=hlk6 w6.drew rfl
  have hc1:(1:Int)≤(rest.length:Int)+1:=by omega
  have hg6:Grw (20+tx.toNat) L5 L5 w6 w6:=⟨Mvs.refl _ _,fun _ _=>rfl,fun _ _ _=>rfl,fun k e1 e2=>absurd (h6.hi k e1) e2⟩
  have hdoL:doL s tx ⟨tx,kx,ix⟩ rest=putW s2 tx rest:=by rw[E3.out,ES.out,E1.out]
  have HD:=(show Hid _ from hdoL);clear r5 g5' hlk6 hgr6 hgl6 M6 hdoL
  rcases RowT.tail hrow6 with ⟨hcc,hrz,hrow7⟩ | ⟨hcc,hrow7⟩
  all_goals
   obtain⟨o7,G7,hup7,hput7⟩:=h6.putW (by omega:1≤tx) hk6.2 hg6 (xs:=rest) hrow7;have hup8:=hup7 w6.drew rfl;obtain⟨h8,M8⟩:=hput7 w6.drew rfl;have H8:=(show Hid _ from h8);have MM8:=(show Hid _ from M6'.trans M8);clear h6 h8 M8 hup7 hput7 hrow6 hrow7 hg6
  case' inl =>
   subst hcc;rw[hrz]at hup8
  all_goals
   go_wp2_with fail
   go_still_tail 12,(by kernel_rfl)
   change wpList _ _ _ _ _ w6.drew
   go_wp2_with fail
   go_ret
   exact .inr ⟨hst,rfl,L5,G7,by rw[HD.out];exact H8.out,MM8.out.drew⟩
end Go.Proofs
