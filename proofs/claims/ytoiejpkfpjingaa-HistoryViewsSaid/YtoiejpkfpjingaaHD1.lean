import Derived.Test.YtoiejpkfpjingaaHA1
import Derived.Test.YtoiejpkfpjingaaKAT
import Derived.WalkKit
import Derived.BigCall
import Derived.Deep.RegionHeld3
import Derived.Deep.RegionHeldLaw
import Derived.Deep.AppendLies
import Derived.Deep.OwnRows
import Derived.OneCell
import Derived.Laws.Rows
import Derived.Laws.EntriesVeiled
import Derived.Test.YtoiejpkfpjingaaASimJ
import Derived.Test.YtoiejpkfpjingaaChecked
set_option linter.all false
set_option maxRecDepth 100000
open List renaming map→A0, length_map→A1, getD_eq_getElem?_getD→A4, getElem?_eq_getElem→A5
open Go.Result renaming andThen→A2
open Go.IntKind renaming wrap→A3
open Go.MapKept renaming run_getObj_map→A6
namespace Go.AM
open Go.RowKit Go.Proofs
theorem glob0 (M:Mem):Glob M:=fun g hg=>by cases hg
theorem Cons.below {M:Mem} {w w':World} (h:Cons M w) (hB:Below w.heap.size w w'):Cons M w':=Nq h hB
theorem Cons.of_blocks {M:Mem} {w w':World} (h:Cons M w) (hb:∀ b o u,M b o=some u→b<w.heap.size→w'.heap[b]? = w.heap[b]?):Cons M w':=fun b o u hu=>by
 have h1:=h b o u hu;rw[JK (hb b o u hu (Yw h1))];exact h1
theorem Cons.alloc {M:Mem} {w:World} (h:Cons M w) (o:Obj):Cons M (w.alloc o):=h.of_blocks fun b _ _ _ hb=>heap_alloc_old w o hb
theorem Cons.setCell {M:Mem} {w:World} (h:Cons M w) {a:Addr} (ha:∀ o,M a.block o=none) (v:Value):Cons M (w.setCell a v) :=
 h.of_blocks fun b o u hu hb=>Below.heap_setCell w a v b fun e=>by rw[e,ha]at hu;cases hu
theorem Hx (l:List Int):flat (cL l)=cL l:=ZP l .i64
theorem Zp {M:Mem} {l:List Int} {v:Value} (h:R M (.lst 3 1 none (cL l)) v):∃ a cap,v=.slice a l.length cap∧∀ j (hj:j<l.length),∃ b off,a=some ⟨b,off,none⟩∧M b (off+j)=some (.int .i64 l[j]):=by
 generalize hx:cL l=xs at h
 cases h with
 | lstn =>
  have:l=[]:=by simpa[cL] using hx
  subst this;exact⟨none,0,rfl,fun j hj=>absurd hj (by simp)⟩
 | lste _ _ _ ad cap =>
  have:l=[]:=by simpa[cL] using hx
  subst this;exact⟨some ad,cap,rfl,fun j hj=>absurd hj (by simp)⟩
 | lst us h1 h2 h5 h3 h4 =>
  subst hx;rename_i b off cap;refine⟨some ⟨b,off,none⟩,cap,by simp[cL],fun j hj=>⟨b,off,rfl,?_⟩⟩
  have hf:(flat (cL l))[j]? = some (.int .i64 l[j]):=by rw[Hx];simp[cL,hj]
  rw[h3 j _ hf,(h4 j _ hf).int_inv]
theorem qbN {M:Mem} {c:List Int} {g off cap:Nat} (hcap:c.length≤cap) (hM:∀ j (hj:j<c.length),M g (off+j)=some (.int .i64 c[j])):R M (.lst 3 1 none (cL c)) (.slice (some ⟨g,off,none⟩) c.length cap):=by
 have hl:(cL c).length=c.length:=by simp[cL]
 have hf:∀ (j:Nat) x,(flat (cL c))[j]? = some x→∃ h:j<c.length,x=.int .i64 c[j]:=by
  intro j x hx;rw[Hx]at hx;have hj:=(List.getElem?_eq_some_iff.1 hx).1;rw[hl]at hj;refine⟨hj,?_⟩
  simpa[cL,hj] using hx.symm
 rw[← hl];refine .lst (fun j=>.int .i64 (c.getD j 0)) (by rw[hl];exact hcap) (fun x hx=>?_) (fun x hx=>?_) (fun j x hx=>?_) (fun j x hx=>?_)
 ·obtain⟨z,_,rfl⟩:=List.mem_map.1 hx;rfl
 ·obtain⟨z,_,rfl⟩:=List.mem_map.1 hx;rfl
 ·obtain⟨hj,rfl⟩:=hf j x hx;rw[hM j hj,A4,A5 hj];rfl
 ·obtain⟨hj,rfl⟩:=hf j x hx;rw[A4,A5 hj];exact .int _ _
abbrev intsV (l:List Int):List Value:=l.map (Value.int .i64)
theorem Zk {w:World} {base:Nat} {v:Value} {c:List Int} (h:w.ownsRow base 3 1 v c.length (intsV c)):∃ N:Mem,Cons N w∧R N (.lst 3 1 none (cL c)) v∧∀ b o u,N b o=some u→v.ownBlock=some b:=by
 rcases h.2 with ⟨rfl,h0⟩ | ⟨g,cap,cur,rfl,hb,hg,hn,hm,hs,ht⟩
 ·have:c=[]:=List.eq_nil_of_length_eq_zero h0;subst this;exact⟨fun _ _=>none,fun _ _ _ hu=>(by cases hu),.lstn _ _ _,fun _ _ _ hu=>(by cases hu)⟩
 ·have hcell:∀ j (hj:j<c.length),cur[j]? = some (.int .i64 c[j]):=by
   intro j hj;have h1:=congrArg (fun l=>l[j]?) ht;simp only[List.getElem?_take,Array.getElem?_toList]at h1;rw[if_pos (by omega)]at h1;rw[h1];simp[hj]
  refine⟨fun b o=>if b=g then (c[o]?).map (Value.int .i64) else none,fun b o u hu=>?_,?_,fun b o u hu=>?_⟩
  ·simp only at hu;split at hu
   ·rename_i e;subst e
    cases ho:c[o]? with
    | none=>rw[ho]at hu;cases hu
    | some x =>
     rw[ho]at hu;cases hu;obtain⟨hj,rfl⟩:=List.getElem?_eq_some_iff.1 ho;unfold mc;rw[hg];exact jA (hcell o hj) rfl
   ·cases hu
  ·refine qbN hn fun j hj=>?_
   simp[hj]
  ·simp only at hu;split at hu
   ·rename_i e;subst e;rfl
   ·cases hu
theorem YG {f:Nat} {args:List AV} {r:AV} (h:Run Try.prog (.call f args r)):CallOk Try.prog f args r:=Zf mixedP h
theorem DA {w w':World} (h:Below w.heap.size w w'):w.grownBy w' none:=⟨h.os,h.tape,h.output,h.size,fun k hk _=>h.block k hk⟩
theorem qdk {M:Mem} {w:World} {t kt e:TypeId} {ks vs:List AV} {mv kv:Value} {k r:AV} (hC:Cons M w) (hm:R M (.mpv ks vs) mv) (ht:Qi Try.prog t=some (kt,e)) (hkv:k.keyV=some kv) (hr:alookup Try.prog t [] (.mpv ks vs) k=some r) :
  ∃ v,(Instr.lookup t mv kv false).run Try.prog w=.ok v w∧R M r v:=by
 unfold alookup at hr;rw[ht]at hr;simp only[Xc]at hr;split at hr
 case h_2=>cases hr
 rename_i hc;simp only[Bool.and_eq_true]at hc;obtain⟨⟨hfit,hks⟩,hall⟩:=hc;have ht:=Qh ht;obtain⟨K,l,hl⟩:=Yn hfit hkv
 have hz:∀ z,zeroA1 Try.prog e=some z→∃ v,(zeroValue e).run Try.prog w=.ok v w∧R M z v:=fun z hz=>by
  obtain⟨v,h1,h2⟩:=Yf (M:=M) (O:=⟨fun _ _=>none,fun _=>0,fun _=>0⟩) (w:=w) hz;exact⟨v,h1,h2⟩
 rcases Dm hm with ⟨rfl,rfl,rfl⟩ | ⟨ks',vs',b,es,clock,hp,rfl,h1,h2,h3,h4,h5,h6,h7⟩
 ·simp only[findA]at hr;obtain⟨z,hz,hz2⟩:=hz _ hr;refine⟨z,?_,hz2⟩
  have hfind:(Instr.findKey kt kv (#[]:Array MapEntry).toList).run Try.prog w=.ok none w:=by
   rcases K.find w hl [] (by simp) with ⟨h1,_⟩ | ⟨j,e,_,h2,_⟩
   ·exact h1
   ·simp at h2
  simp[Instr.lookup,run_underlying ht,K.check w true hl,hfind,hz,A2]
 ·have hb:=UX (hC _ _ _ h1)
  have hall':ks'.all (keyFits Try.prog kt)=true:=List.all_eq_true.2 fun y hy=>List.all_eq_true.1 hall y (hp.keys.mem_iff.2 hy)
  have E:EntOk M es clock ks' vs':=⟨h2,h3,h4,h5,h6,h7⟩;obtain⟨hck,hst,hfd⟩:=Yq (w:=w) hfit hkv hall' E;obtain⟨fp1,fp2⟩:=Hy hkv hp E
  rcases hfd with ⟨k1,k2,k3⟩ | ⟨j,e0,k1,k2,k3,k4⟩
  ·rw[fp1 k1]at hr;obtain⟨z,hz,hz2⟩:=hz _ hr;refine⟨z,?_,hz2⟩;simp[Instr.lookup,run_underlying ht,A6 hb,hck,k2,hz,A2]
  ·obtain⟨i,g1,g2⟩:=fp2 j k1;rw[g1]at hr;simp only[g2]at hr;refine⟨e0.val,?_,h7 j r e0 hr (by simpa using k3)⟩;simp[Instr.lookup,run_underlying ht,A6 hb,hck,k2,A2]
end Go.AM
namespace Go.AM
theorem Ul (t:Int):∀ (l:List Int) (k:Nat),∃ r:Int,jD t JI l k=some r∧(decide (r ≥ 0)=l.contains t)
 | [],k=>⟨-1,by rw[jD.eq_1];rfl,rfl⟩
 | x::l,k=>by
  obtain⟨r,h1,h2⟩:=Ul t l (k+1);rw[jD.eq_2];by_cases h:t=x
  ·subst h;refine⟨(k:Int),by simp,?_⟩;simp
  ·refine⟨r,?_,?_⟩
   ·rw[beq_eq_false_iff_ne.2 h,cN,h1]
   ·rw[h2,List.contains_cons];simp[h]
theorem Vt {l:List Int} (hl:l.length≤100000) (t:Int):JJ l t=some (l.contains t):=by
 unfold JJ Xj;obtain⟨r,h1,h2⟩:=Ul t l 0;have:lenOk l=true:=Nat.ble_eq_true_of_le (by omega);rw[this];simp only[chk,cond_true];rw[h1,← h2];rfl
end Go.AM
namespace Go.Proofs
open Go.RowKit Go.AM
theorem Try.infoInt:(Try.prog.info? 3).map (fun i=>(i.zero,i.size,i.bytes))=some (some (.int .i64 0),1,8):=by kernel_rfl
end Go.Proofs
namespace Go.Proofs
open Go.RowKit Go.AM
structure GP (base:Nat) (w:World) (bf:Nat) (vc:Value) (c:List Int) (w':World):Prop where
 os:w'.os=w.os
 tape:w'.tape=w.tape
 output:w'.output=w.output
 size:w.heap.size≤w'.heap.size
 block:∀ k,k<w.heap.size→k≠bf→some k≠vc.ownBlock→w'.heap[k]? = w.heap[k]?
 own:w'.ownsRow base 3 1 vc c.length (intsV c)
 box:∃ fv,w'.heap[bf]? = some (.cells #[fv] 24 (0,0))
theorem Zv {w:World} {base bf:Nat} {fv vc:Value} {c:List Int} (hb:w.heap[bf]? = some (.cells #[fv] 24 (0,0))) (ho:w.ownsRow base 3 1 vc c.length (intsV c)):some bf≠vc.ownBlock:=by
 rcases ho.2 with ⟨rfl,_⟩ | ⟨g,cap,cur,rfl,_,hg,_⟩
 ·intro e;cases e
 ·intro e;simp only[Value.ownBlock,Option.some.injEq]at e;subst e;rw[hb]at hg;simp at hg
section
variable {base:Nat} {w w1 w2:World} {bf:Nat} {vc:Value} {c:List Int}
theorem GP.refl {fv:Value} (ho:w.ownsRow base 3 1 vc c.length (intsV c)) (hb:w.heap[bf]? = some (.cells #[fv] 24 (0,0))):GP base w bf vc c w:=⟨rfl,rfl,rfl,Nat.le_refl _,fun _ _ _ _=>rfl,ho,fv,hb⟩
theorem GP.below (h:GP base w bf vc c w1) (hB:Below w1.heap.size w1 w2):GP base w bf vc c w2:=by
 obtain⟨fv,hf⟩:=h.box;refine⟨hB.os.trans h.os,hB.tape.trans h.tape,hB.output.trans h.output,Nat.le_trans h.size hB.size,fun k hk h1 h2=>?_,World.ownsRow.kept h.own (DA hB) ?_,fv,?_⟩
 ·have:=h.size;rw[hB.block k (by omega),h.block k hk h1 h2]
 ·cases vc.ownBlock with
  | none=>exact .inl rfl
  | some k=>exact .inr (by intro e;cases e)
 ·rw[hB.block bf (lt_of_block hf)];exact hf
theorem GP.alloc (h:GP base w bf vc c w1) (o:Obj):GP base w bf vc c (w1.alloc o):=h.below ((Below.refl _ _).alloc (Nat.le_refl _) o)
theorem GP.drew (h:GP base w bf vc c w1):GP base w bf vc c w1.drew:=h.below ⟨rfl,rfl,rfl,Nat.le_refl _,fun _ _=>rfl⟩
theorem GP.trans (h:GP base w bf vc c w1) (k:GP base w1 bf vc c w2):GP base w bf vc c w2 :=
 ⟨k.os.trans h.os,k.tape.trans h.tape,k.output.trans h.output,Nat.le_trans h.size k.size,fun j hj h1 h2=>by
  have:=h.size
  rw[k.block j (by omega) h1 h2,h.block j hj h1 h2],k.own,k.box⟩
theorem GP.cons {M:Mem} (h:GP base w bf vc c w1) (hC:Cons M w) (hf:∀ o,M bf o=none) (hv:∀ g,vc.ownBlock=some g→∀ o,M g o=none):Cons M w1 :=
 hC.of_blocks fun b o u hu hb=>h.block b hb (fun e=>by rw[e,hf]at hu;cases hu) (fun e=>by rw[hv b e.symm]at hu;cases hu)
end
def growV (bf be bl bg:Nat):Value:=.func (.func 52) #[] #[.pointer (some ⟨bf,0,none⟩),.pointer (some ⟨be,0,none⟩),.pointer (some ⟨bl,0,none⟩),.pointer (some ⟨bg,0,none⟩)]
structure GE (M:Mem) (bf be bl bg:Nat) (E:Int→Int→Bool) (l:List Int):Prop where
 e:∃ mv,M be 0=some mv∧isTup mv=false∧∀ w,Cons M w→∀ a b,wfI .i64 a=true→wfI .i64 b=true→(Instr.lookup 67 mv (.agg #[.int .i64 a,.int .i64 b]) false).run Try.prog w=.ok (.bool (E a b)) w
 lv:∃ lv,M bl 0=some lv∧isTup lv=false∧R M (.lst 3 1 none (cL l)) lv
 g:M bg 0=some (growV bf be bl bg)
 f:∀ o,M bf o=none
 wf:∀ x,x∈l→wfI .i64 x=true
 len:l.length≤1000
theorem Try.contains_own {w:World} {base:Nat} {v:Value} {c:List Int} {t:Int} (hl:c.length≤100000) (h:w.ownsRow base 3 1 v c.length (intsV c)):Calls Try.prog 39 #[v,.int .i64 t] w fun e w'=>e=.returned (.bool (c.contains t))∧Below w.heap.size w w':=by
 obtain⟨N,hN,hR,_⟩:=Zk h;refine (YG (Xg c t _ (Vt hl t)) N w [v,.int .i64 t] (glob0 N) hN rfl (fun j a b ha hb=>?_)).mono ?_
 ·match j,ha,hb with
  | 0,ha,hb=>cases ha;cases hb;exact hR
  | 1,ha,hb=>cases ha;cases hb;exact .int _ _
 ·rintro e w' ⟨v',M',rfl,hB,_,_,_,hr,_⟩
  cases hr;exact⟨rfl,hB⟩
end Go.Proofs
namespace Go.Proofs
open Go.RowKit Go.AM
theorem Ug {α β:Type} {f:α→Option β}:∀ {l:List α} {i:Nat} {x:α} {r:β},l[i]? = some x→(∀ j y,j<i→l[j]? = some y→f y=none)→f x=some r→l.findSome? f=some r
 | [],i,x,r,h,_,_=>by simp at h
 | a::l,0,x,r,h,_,hf=>by
  simp at h;subst h;rw[List.findSome?_cons,hf]
 | a::l,i+1,x,r,h,hn,hf=>by
  rw[List.findSome?_cons,hn 0 a (by omega) rfl];exact Ug (l:=l) (i:=i) (by simpa using h) (fun j y hj hy=>hn (j+1) y (by omega) (by simpa using hy)) hf
theorem qax {α β:Type} {f:α→Option β} {l:List α} (h:∀ j y,j<l.length→l[j]? = some y→f y=none):l.findSome? f=none:=by
 rw[List.findSome?_eq_none_iff];intro x hx;obtain⟨j,hj⟩:=List.mem_iff_getElem?.1 hx;exact h j x (List.getElem?_eq_some_iff.1 hj).1 hj
end Go.Proofs
namespace Go.Proofs
open Go.RowKit Go.AM
theorem GP.store {base:Nat} {w w1:World} {bf:Nat} {vc:Value} {c:List Int} (h:GP base w bf vc c w1) (u:Value):GP base w bf vc c (w1.setCell ⟨bf,0,none⟩ u):=by
 obtain⟨fv,hf⟩:=h.box;refine⟨h.os,h.tape,h.output,by simpa[World.setCell] using h.size,fun k hk h1 h2=>?_,ownsRow_setCell_other h.own (fun e=>Zv hf h.own e.symm) u,u,one_setCell hf⟩;rw[Below.heap_setCell _ _ _ _ h1,h.block k hk h1 h2]
end Go.Proofs
namespace Go.AM
end Go.AM
namespace Go.Proofs
open Go.RowKit Go.AM
structure FB (w:World) (bf:Nat) (w':World):Prop where
 os:w'.os=w.os
 tape:w'.tape=w.tape
 output:w'.output=w.output
 size:w.heap.size≤w'.heap.size
 block:∀ k,k<w.heap.size→k≠bf→w'.heap[k]? = w.heap[k]?
 box:∃ fv,w'.heap[bf]? = some (.cells #[fv] 24 (0,0))
theorem FB.cons {M:Mem} {w w1:World} {bf:Nat} (h:FB w bf w1) (hC:Cons M w) (hf:∀ o,M bf o=none):Cons M w1 :=
 hC.of_blocks fun b o u hu hb=>h.block b hb fun e=>by rw[e,hf]at hu;cases hu
def qdD (M:Mem) (w:World) (r:AV) (e:Ending) (w':World):Prop:=∃ v M',e=.returned v∧Below w.heap.size w w'∧Sub M M'∧Cons M' w'∧(∀ b o,b<w.heap.size→M' b o=M b o)∧R M' r v∧OwnR M' w.heap.size w' r v
end Go.Proofs
namespace Go.AM
open Go.Proofs
def l24 (c:Option Nat) (l:List (List Int)):AV:=.lst 24 1 c (A0 (encL 3 1 (AV.int .i64)) l)
end Go.AM
namespace Go.AM
open Go.Proofs
def qq (v35:(List Int)):Option (List Int) :=
 (some v35)
def qB (v8:(List Int)) (K9:((List Int)→Option (List Int))) (v32:Int):Option (List Int) :=
 (chk (capOk 8 ((v8++[v32])).length) (K9 (v8++[v32])))
def qx (N1:((List Int)→Option (List Int))) (v34:(List Int)):Option (List Int) :=
 (N1 v34)
def jC (v18:Int) (v19:Int) (e24:hsOp) (N2:(Int→Int→Option (List Int))) (K16:(Int→Option (List Int))) (v30:Bool):Option (List Int) :=
 (bif v30 then (K16 e24.qa) else (N2 v18 (A3 .i64 (v19 - 1))))
def jZ (x1:hsOp) (v18:Int) (v19:Int) (e24:hsOp) (N2:(Int→Int→Option (List Int))) (K16:(Int→Option (List Int))) (v28:Bool):Option (List Int) :=
 (bif (e24.qb == 1) then (bif (e24.qc == x1.qc) then ((jC v18 v19 e24 N2 K16) (!v28)) else ((jC v18 v19 e24 N2 K16) false)) else ((jC v18 v19 e24 N2 K16) false))
def qw (a1:(List hsOp)) (k1:Nat) (x1:hsOp) (w4:(List (Int×Int))) (K16:(Int→Option (List Int))):Nat→Int→Int→Option (List Int)
 | 0,_,_=>none
 | m2+1,v18,v19=>(bif (decide (v19 ≥ 0)) then ((idx a1 v19).bind fun e24=>(chk (wfI .i64 e24.qa) (bif (decide ((mget keq1 0 e24.qa w4) ≥ 0)) then (chk (wfI .i64 e24.qa) ((jZ x1 v18 v19 e24 (qw a1 k1 x1 w4 K16 m2) K16) (decide ((mget keq1 0 e24.qa w4)<(k1:Int))))) else ((jZ x1 v18 v19 e24 (qw a1 k1 x1 w4 K16 m2) K16) false)))) else (K16 v18))
def qi (fuel:Nat) (a1:(List hsOp)) (w4:(List (Int×Int))) (K6:((List Int)→Option (List Int))):List hsOp→Nat→(List Int)→Option (List Int)
 | [],k1,v8=>(K6 v8)
 | x1::r1,k1,v8=>(bif (x1.qb != 0) then (chk (capOk 8 ((v8++[(-1)])).length) ((qx (qi fuel a1 w4 K6 r1 (k1+1))) (v8++[(-1)]))) else (qw a1 k1 x1 w4 (qB v8 (qx (qi fuel a1 w4 K6 r1 (k1+1)))) fuel 0 (A3 .i64 ((k1:Int) - 1))))
def JL (fuel:Nat) (a1:(List hsOp)):Option (List Int) :=
 ((jz fuel a1 3).bind fun w4=>(chk (lenOk a1) (qi fuel a1 w4 (qq) a1 0 ([]:(List Int)))))
theorem Zz (fuel:Nat) (a1:(List hsOp)) (r:(List Int)) (h:JL fuel a1=some r):Run Try.prog (.call 60 [l44 none a1] (l3 (some 1) r)):=by
 refine cW Try.func60 rfl (env0:=[(0,l44 none a1)]) ?_;unfold JL at h;refine W.seq ?_;let z0:=fun t=>EN ((0,l44 none a1)::t);refine W.rt (e2:=z0 []) ?_;refine W.sr ?_;obtain⟨w4,hw4,h⟩:=qd h;refine WO.ck 1 (F:=62) (l:=[l44 none a1,.int .i64 3]) (C:=[]) (r:=mpE (AV.int .i64) (AV.int .i64) w4) (QC fuel a1 3 w4 hw4) (e1:=z0 [(11,l44 none a1),(12,mpE (AV.int .i64) (AV.int .i64) w4)]) ?_;let z1:=fun t=>z0 ((3,mpE (AV.int .i64) (AV.int .i64) w4)::t);refine WO.fn (e2:=z1 []) ?_;refine W.seq<|W.rt (e2:=z1 [(4,.nils)]) ?_;refine W.seq<|W.join (σ:=((List Int))) (fun s=>[(4,l3 (some 10400) s)]) (fun s=>(qq) s=some r) (fun v35 h=>?_) (fun hK6=>?_)
 ·unfold qq at h;refine W.seq<|W.rt (e2:=[(2,l3 (some 10400) v35)]) ?_;refine W.weak [2] [] [] [(10400,some 1)] (env':=[(2,l3 (some 1) v35)]) (by kernel_rfl) ?_;cases h;exact W.rr
 refine W.sr ?_;let z2:=fun t=>z1 ((4,.nils)::(13,l44 none a1)::(14,I6 (a1.length:Int))::t);refine WO.pq 1 (jM je a1) (e1:=z2 [])<|WO.fn (e2:=z2 [(15,.int .i64 0)]) ?_;refine W.block ?_;obtain⟨hl1,h⟩:=qh h;refine W.weak [0,3,4,13,14,15] [] [(4,0,3,1,10400)] [] (env':=z1 [(4,l3 (some 10400) ([]:(List Int))),(13,l44 none a1),(14,I6 (a1.length:Int)),(15,I6 ((0:Nat):Int))]) (by kernel_rfl)<|W.range (σ:=((List Int))) a1 (fun k1 s=>z1 [(4,l3 (some 10400) s),(13,l44 none a1),(14,I6 (a1.length:Int)),(15,I6 (k1:Int))]) (fun r0 k0 s=>qi fuel a1 w4 (qq) r0 k0 s=some r) (fun v8 h=>?_) (fun x1 r1 k1 s hx1 hk1 h hN1=>?_) ([]:(List Int)) h
 ·have h:qi fuel a1 w4 (qq) [] (a1).length v8=some r:=h;rw[qi.eq_1]at h;refine W.sr ?_;let y0:Env:=[(3,mpE (AV.int .i64) (AV.int .i64) w4),(4,l3 (some 10400) v8),(13,l44 none a1),(14,I6 (a1.length:Int)),(15,I6 ((a1).length:Int)),(16,.bool false)];refine WO.pq 0 (jB (qS (l:=a1))) (e1:=z0 y0)<|WO.fn (e2:=z0 y0) ?_;refine W.seq<|W.cF<|W.exit<|W.wk (e:=[(4,l3 (some 10400) v8)]) ?_;exact hK6 v8 h
 ·obtain⟨v8,rfl⟩:∃ x,x=s:=⟨s,rfl⟩;have h:qi fuel a1 w4 (qq) (x1::r1) k1 v8=some r:=h;rw[qi.eq_2]at h;refine W.sr ?_;let y1:Env:=[(3,mpE (AV.int .i64) (AV.int .i64) w4),(4,l3 (some 10400) v8),(13,l44 none a1),(14,I6 (a1.length:Int)),(15,I6 (k1:Int)),(16,.bool true)];refine WO.pq 0 (jB (jp hk1)) (e1:=z0 y1)<|WO.fn (e2:=z0 y1) ?_;refine W.seq<|W.cT<|W.skip ?_;let y2:Env:=[(13,l44 none a1),(14,I6 (a1.length:Int)),(15,I6 (k1:Int))];let z3:=fun t=>z1 ((4,l3 (some 10400) v8)::t);refine W.wk (e:=z3 y2)<|W.seq<|W.join (σ:=((List Int))) (fun s=>z1 ((4,l3 (some 10400) s)::y2)) (fun s=>(qx (qi fuel a1 w4 (qq) r1 (k1+1))) s=some r) (fun v34 h=>?_) (fun hK9=>?_)
  ·unfold qx at h;refine W.rg ?_;let z4:=fun t=>z1 ((4,l3 (some 10400) v34)::(13,l44 none a1)::(14,I6 (a1.length:Int))::t);refine WO.pq 0 (jI (qE hl1 hk1)) (e1:=z4 [(15,I6 (k1:Int)),(69,I6 ((k1+1:Nat):Int))])<|WO.fn (e2:=z4 [(15,I6 ((k1+1:Nat):Int))]) ?_;exact hN1 v34 h
  refine W.block<|W.sr<|WO.pq 1 (jq (f:=je) hx1) (e1:=z3 [(13,l44 none a1),(14,I6 (a1.length:Int)),(15,I6 (k1:Int)),(17,I6 (k1:Int)),(18,.ptr (.agg [I6 x1.qa,I6 x1.qb,I6 x1.qc]))]) ?_;let y3:Env:=(3,mpE (AV.int .i64) (AV.int .i64) w4)::(4,l3 (some 10400) v8)::(5,I6 (k1:Int))::(6,.ptr (.agg [I6 x1.qa,I6 x1.qb,I6 x1.qc]))::y2;refine WO.fi [0,3,4,5,6,13,14,15] [6] (e2:=z0 y3) ?_;refine W.seq<|W.seq ?_;let z5:=fun t=>z3 ((5,I6 (k1:Int))::(6,.ptr (.agg [I6 x1.qa,I6 x1.qb,I6 x1.qc]))::t);refine W.rt (e2:=z5 [(13,l44 none a1),(14,I6 (a1.length:Int)),(15,I6 (k1:Int)),(22,.bool (x1.qb != 0))]) ?_;refine W.ch (x1.qb != 0) h (fun h=>?_) (fun h=>?_)
  ·refine W.sr ?_;obtain⟨hc14,h⟩:=qh h;refine WO.appendK 2 (d:=25) (e:=3) (s:=1) (bytes:=8) (xs:=(M6 v8)) (ys:=(M6 [(-1)])) (zs:=(M6 (v8++[(-1)]))) (env1:=[(0,l44 none a1),(3,mpE (AV.int .i64) (AV.int .i64) w4),(4,l3 none v8),(5,I6 (k1:Int)),(6,.ptr (.agg [I6 x1.qa,I6 x1.qb,I6 x1.qc])),(13,l44 none a1),(14,I6 (a1.length:Int)),(15,I6 (k1:Int)),(22,.bool (x1.qb != 0)),(23,l3 none v8),(24,l3 (some 24) [(-1)])]) (by kernel_rfl) (List.map_append.symm) (by rw[A1];exact hc14) (e1:=z1 [(4,l3 none v8),(5,I6 (k1:Int)),(6,.ptr (.agg [I6 x1.qa,I6 x1.qb,I6 x1.qc])),(13,l44 none a1),(14,I6 (a1.length:Int)),(15,I6 (k1:Int)),(22,.bool (x1.qb != 0)),(23,l3 none v8),(24,l3 (some 24) [(-1)]),(25,l3 (some 25) (v8++[(-1)]))]) (by kernel_rfl) ?_;refine WO.fn (e2:=z1 ((4,l3 (some 25) (v8++[(-1)]))::y2)) ?_;refine W.exit<|W.weak [0,3,4,13,14,15] [] [] [(25,some 10400)] (env':=z1 ((4,l3 (some 10400) (v8++[(-1)]))::y2)) (by kernel_rfl) ?_;exact hK9 (v8++[(-1)]) h
  refine W.sw (e:=z0 y3) ?_;refine W.seq<|W.rt (e2:=z5 ((7,.int .i64 0)::y2)) ?_;refine W.seq<|W.join (σ:=(Int)) (fun s=>z3 ((7,I6 s)::y2)) (fun s=>(qB v8 (qx (qi fuel a1 w4 (qq) r1 (k1+1)))) s=some r) (fun v32 h=>?_) (fun hK16=>?_)
  ·unfold qB at h;refine W.rg ?_;obtain⟨hc33,h⟩:=qh h;refine WO.appendK 3 (d:=68) (e:=3) (s:=1) (bytes:=8) (xs:=(M6 v8)) (ys:=(M6 [v32])) (zs:=(M6 (v8++[v32]))) (env1:=[(0,l44 none a1),(3,mpE (AV.int .i64) (AV.int .i64) w4),(4,l3 none v8),(7,I6 v32),(13,l44 none a1),(14,I6 (a1.length:Int)),(15,I6 (k1:Int)),(65,l3 none v8),(66,I6 v32),(67,l3 (some 67) [v32])]) (by kernel_rfl) (List.map_append.symm) (by rw[A1];exact hc33) (e1:=z1 [(4,l3 none v8),(7,I6 v32),(13,l44 none a1),(14,I6 (a1.length:Int)),(15,I6 (k1:Int)),(65,l3 none v8),(66,I6 v32),(67,l3 (some 67) [v32]),(68,l3 (some 68) (v8++[v32]))]) (by kernel_rfl) ?_;refine WO.fin [0,3,4,13,14,15] [] [] [(68,some 10400)] (e2:=z1 ((4,l3 (some 10400) (v8++[v32]))::y2)) (by kernel_rfl) (fun _ h=>h) ?_;exact hK9 (v8++[v32]) h
  refine W.seq ?_;let y4:Env:=(3,mpE (AV.int .i64) (AV.int .i64) w4)::(4,l3 (some 10400) v8)::(5,I6 (k1:Int))::(6,.ptr (.agg [I6 x1.qa,I6 x1.qb,I6 x1.qc]))::(7,.int .i64 0)::(8,I6 (W6 ((k1:Int) - 1)))::y2;refine W.rt (e2:=z0 y4) ?_;refine W.block<|W.wk (e:=z0 y4)<|W.fuel (σ:=(Int×Int)) (fun s=>z5 ((7,I6 s.1)::(8,I6 s.2)::y2)) (fun m0 s=>qw a1 k1 x1 w4 (qB v8 (qx (qi fuel a1 w4 (qq) r1 (k1+1)))) m0 s.1 s.2=some r) (fun s h=>?_) (fun m2 s h hN2=>?_) fuel (0,(W6 ((k1:Int) - 1))) h
  ·obtain⟨v18,v19⟩:=s;have h:qw a1 k1 x1 w4 (qB v8 (qx (qi fuel a1 w4 (qq) r1 (k1+1)))) 0 v18 v19=some r:=h;rw[qw.eq_1]at h;cases h
  ·obtain⟨v18,v19⟩:=s;have h:qw a1 k1 x1 w4 (qB v8 (qx (qi fuel a1 w4 (qq) r1 (k1+1)))) (m2+1) v18 v19=some r:=h;rw[qw.eq_2]at h;refine W.seq<|W.seq ?_;let z6:=fun t=>z5 ((7,I6 v18)::(8,I6 v19)::t);let z7:=fun t=>z6 ((13,l44 none a1)::(14,I6 (a1.length:Int))::(15,I6 (k1:Int))::t);refine W.rt (e2:=z7 [(29,.bool (decide (v19 ≥ 0)))]) ?_;refine W.ch (decide (v19 ≥ 0)) h (fun h=>?_) (fun h=>?_)
   ·refine W.skip ?_;let y5:Env:=(3,mpE (AV.int .i64) (AV.int .i64) w4)::(4,l3 (some 10400) v8)::(5,I6 (k1:Int))::(6,.ptr (.agg [I6 x1.qa,I6 x1.qb,I6 x1.qc]))::(7,I6 v18)::(8,I6 v19)::y2;refine W.wk (e:=z0 y5)<|W.seq<|W.block<|W.sr ?_;obtain⟨e24,he24,h⟩:=qd h;refine WO.pq 2 (Dp (f:=je) he24) (e1:=z7 [(32,l44 none a1),(33,I6 v19),(34,.ptr (.agg [I6 e24.qa,I6 e24.qb,I6 e24.qc]))]) ?_;let z8:=fun t=>z6 ((9,.ptr (.agg [I6 e24.qa,I6 e24.qb,I6 e24.qc]))::t);refine WO.fi [0,3,4,5,6,7,8,9,13,14,15] [9] (e2:=z8 y2) ?_;refine W.seq<|W.join (σ:=(Bool)) (fun s=>z8 ((10,.bool s)::y2)) (fun s=>(jZ x1 v18 v19 e24 (qw a1 k1 x1 w4 (qB v8 (qx (qi fuel a1 w4 (qq) r1 (k1+1)))) m2) (qB v8 (qx (qi fuel a1 w4 (qq) r1 (k1+1))))) s=some r) (fun v28 h=>?_) (fun hK25=>?_)
    ·unfold jZ at h;refine W.seq ?_;let z9:=fun t=>z8 ((13,l44 none a1)::(14,I6 (a1.length:Int))::(15,I6 (k1:Int))::t);refine W.join (σ:=(Bool)) (fun s=>z9 [(62,.bool s)]) (fun s=>(jC v18 v19 e24 (qw a1 k1 x1 w4 (qB v8 (qx (qi fuel a1 w4 (qq) r1 (k1+1)))) m2) (qB v8 (qx (qi fuel a1 w4 (qq) r1 (k1+1))))) s=some r) (fun v30 h=>?_) (fun hK29=>?_)
     ·unfold jC at h;refine W.ch v30 h (fun h=>?_) (fun h=>?_)
      ·refine W.seq ?_;let y6:Env:=(3,mpE (AV.int .i64) (AV.int .i64) w4)::(4,l3 (some 10400) v8)::(7,I6 e24.qa)::y2;refine W.rt (e2:=z0 y6) ?_;refine W.exit<|W.wk (e:=z0 y6) ?_;exact hK16 e24.qa h
      refine W.sw (e:=z0 y5) ?_;refine W.rt (e2:=z5 ((7,I6 v18)::(8,I6 (W6 (v19 - 1)))::y2)) ?_;exact hN2 (v18,(W6 (v19 - 1))) h
     refine W.rg ?_;let z10:=fun t=>z8 ((10,.bool v28)::(13,l44 none a1)::(14,I6 (a1.length:Int))::(15,I6 (k1:Int))::(49,.ptr (I6 e24.qb))::(50,I6 e24.qb)::t);refine WO.bh 4 (fun b=>z10 [(51,.bool b),(52,.bool b)]) (e24.qb == 1) h (fun h=>?_) (fun h=>?_)
     ·refine WO.bh 7 (fun b=>z10 [(51,.bool true),(52,.bool true),(53,.ptr (I6 e24.qc)),(54,I6 e24.qc),(55,.ptr (I6 x1.qc)),(56,I6 x1.qc),(57,.bool b),(58,.bool b),(59,.bool b)]) (e24.qc == x1.qc) h (fun h=>?_) (fun h=>?_)
      ·refine WO.fn (e2:=z9 [(62,.bool (!v28))]) ?_;exact hK29 (!v28) h
      refine WO.fn (e2:=z9 [(62,.bool false)]) ?_;exact hK29 false h
     refine WO.fn (e2:=z9 [(62,.bool false)]) ?_;exact hK29 false h
    refine W.rg ?_;obtain⟨hc26,h⟩:=qh h;let z11:=fun t=>z8 ((13,l44 none a1)::(14,I6 (a1.length:Int))::(15,I6 (k1:Int))::(36,mpE (AV.int .i64) (AV.int .i64) w4)::(37,.ptr (I6 e24.qa))::(38,I6 e24.qa)::(39,I6 (mget keq1 0 e24.qa w4))::t);refine WO.pk 3 ((alookup Try.prog 85 [] (mpE (AV.int .i64) (AV.int .i64) w4) (I6 e24.qa)).map AV.strip) (congrArg (Option.map AV.strip) (QQ (F:=(AV.int .i64)) (G:=(AV.int .i64)) (eq:=keq1) (l:=w4) (k:=e24.qa) (z:=0) (kt:=3) (e:=3) (XY hc26) (by kernel_rfl) (fun x=>by kernel_rfl) (fun x y=>by kernel_rfl) (by kernel_rfl))) (e1:=z11 []) ?_;refine WO.bh 2 (fun b=>z11 [(40,.bool b),(41,.bool b)]) (decide ((mget keq1 0 e24.qa w4) ≥ 0)) h (fun h=>?_) (fun h=>?_)
    ·obtain⟨hc27,h⟩:=qh h;refine WO.pk 3 ((alookup Try.prog 85 [] (mpE (AV.int .i64) (AV.int .i64) w4) (I6 e24.qa)).map AV.strip) (congrArg (Option.map AV.strip) (QQ (F:=(AV.int .i64)) (G:=(AV.int .i64)) (eq:=keq1) (l:=w4) (k:=e24.qa) (z:=0) (kt:=3) (e:=3) (XY hc27) (by kernel_rfl) (fun x=>by kernel_rfl) (fun x y=>by kernel_rfl) (by kernel_rfl))) (e1:=z11 [(40,.bool true),(41,.bool true),(42,mpE (AV.int .i64) (AV.int .i64) w4),(43,.ptr (I6 e24.qa)),(44,I6 e24.qa),(45,I6 (mget keq1 0 e24.qa w4))]) ?_;refine WO.fn (e2:=z8 ((10,.bool (decide ((mget keq1 0 e24.qa w4)<(k1:Int))))::y2)) ?_;exact hK25 (decide ((mget keq1 0 e24.qa w4)<(k1:Int))) h
    refine WO.fn (e2:=z8 ((10,.bool false)::y2)) ?_;exact hK25 false h
   refine W.exit<|W.wk (e:=z3 ((7,I6 v18)::y2)) ?_;exact hK16 v18 h
def QI:Option Int :=
 (some (-1))
def XA (k1:Nat) (N1:(Option Int)) (v10:Bool):Option Int :=
 (bif v10 then (some (k1:Int)) else N1)
def Jt (a2:Int) (a3:Int) (K5:(Option Int)):List rf5Op→Nat→Option Int
 | [],k1=>K5
 | x1::r1,k1=>(bif (x1.qa == a2) then ((XA k1 (Jt a2 a3 K5 r1 (k1+1))) (x1.qb == a3)) else ((XA k1 (Jt a2 a3 K5 r1 (k1+1))) false))
def Yk (a1:(List rf5Op)) (a2:Int) (a3:Int):Option Int :=
 (chk (lenOk a1) (Jt a2 a3 (QI) a1 0))
theorem YF (a1:(List rf5Op)) (a2:Int) (a3:Int) (r:Int) (h:Yk a1 a2 a3=some r):Run Try.prog (.call 61 [l43 none a1,I6 a2,I6 a3] (I6 r)):=by
 refine cW Try.func61 rfl (env0:=[(0,l43 none a1),(1,I6 a2),(2,I6 a3)]) ?_;unfold Yk at h;refine W.seq<|W.rt (e2:=[(0,l43 none a1),(1,I6 a2),(2,I6 a3)]) ?_;refine W.seq<|W.join (σ:=Unit) (fun s=>[]) (fun s=>(QI)=some r) (fun s h=>?_) (fun hK5=>?_)
 ·unfold QI at h;refine W.seq<|W.rt (e2:=[(6,I6 (-1))]) ?_;refine W.wk (e:=[(6,I6 (-1))]) ?_;cases h;exact W.rr
 refine W.sr<|WO.pq 1 (jM qM a1) (e1:=[(0,l43 none a1),(1,I6 a2),(2,I6 a3),(9,l43 none a1),(10,I6 (a1.length:Int))]) ?_;let z0:=fun t=>EN ((1,I6 a2)::(2,I6 a3)::(9,l43 none a1)::(10,I6 (a1.length:Int))::t);refine WO.fn (e2:=z0 [(11,.int .i64 0)]) ?_;refine W.block ?_;obtain⟨hl1,h⟩:=qh h;refine W.wk (e:=z0 [(11,I6 ((0:Nat):Int))])<|W.range (σ:=Unit) a1 (fun k1 s=>z0 [(11,I6 (k1:Int))]) (fun r0 k0 s=>Jt a2 a3 (QI) r0 k0=some r) (fun s h=>?_) (fun x1 r1 k1 s hx1 hk1 h hN1=>?_) () h
 ·rw[Jt.eq_1]at h;refine W.sr ?_;let y0:Env:=[(2,I6 a3),(9,l43 none a1),(10,I6 (a1.length:Int)),(11,I6 ((a1).length:Int)),(12,.bool false)];refine WO.pq 0 (jB (qS (l:=a1))) (e1:=((1,I6 a2)::y0))<|WO.fn (e2:=((1,I6 a2)::y0)) ?_;refine W.seq<|W.cF<|W.exit<|W.wk (e:=[]) ?_;exact hK5 () h
 ·rw[Jt.eq_2]at h;refine W.sr ?_;let y1:Env:=[(2,I6 a3),(9,l43 none a1),(10,I6 (a1.length:Int)),(11,I6 (k1:Int)),(12,.bool true)];let z1:=fun t=>EN ((1,I6 a2)::t);refine WO.pq 0 (jB (jp hk1)) (e1:=z1 y1)<|WO.fn (e2:=z1 y1) ?_;refine W.seq<|W.cT<|W.skip ?_;let y2:Env:=[(9,l43 none a1),(10,I6 (a1.length:Int)),(11,I6 (k1:Int))];let z2:=fun t=>z1 ((2,I6 a3)::t);refine W.wk (e:=z2 y2)<|W.seq<|W.block<|W.sr<|WO.pq 1 (jq (f:=qM) hx1) (e1:=z0 [(11,I6 (k1:Int)),(13,I6 (k1:Int)),(14,.ptr (.agg [I6 x1.qa,I6 x1.qb,I6 x1.qc]))]) ?_;let z3:=fun t=>z2 ((7,I6 (k1:Int))::(8,.ptr (.agg [I6 x1.qa,I6 x1.qb,I6 x1.qc]))::t);refine WO.fi [1,2,7,8,9,10,11] [8] (e2:=z3 y2) ?_;refine W.seq ?_;let z4:=fun t=>z2 ((7,I6 (k1:Int))::(9,l43 none a1)::(10,I6 (a1.length:Int))::(11,I6 (k1:Int))::t);refine W.join (σ:=(Bool)) (fun s=>z4 [(25,.bool s)]) (fun s=>(XA k1 (Jt a2 a3 (QI) r1 (k1+1))) s=some r) (fun v10 h=>?_) (fun hK9=>?_)
  ·unfold XA at h;refine W.ch v10 h (fun h=>?_) (fun h=>?_)
   ·refine W.seq<|W.rt (e2:=[(6,I6 (k1:Int))]) ?_;refine W.wk (e:=[(6,I6 (k1:Int))]) ?_;cases h;exact W.rr
   refine W.sw (e:=z2 y2) ?_;refine W.rg<|WO.pq 0 (jI (qE hl1 hk1)) (e1:=z0 [(11,I6 (k1:Int)),(27,I6 ((k1+1:Nat):Int))])<|WO.fn (e2:=z0 [(11,I6 ((k1+1:Nat):Int))]) ?_;exact hN1 () h
  refine W.rg<|WO.bh 5 (fun b=>z3 [(9,l43 none a1),(10,I6 (a1.length:Int)),(11,I6 (k1:Int)),(16,.ptr (I6 x1.qa)),(17,I6 x1.qa),(18,I6 a2),(19,.bool b),(20,.bool b)]) (x1.qa == a2) h (fun h=>?_) (fun h=>?_)
  ·refine WO.fn (e2:=z4 [(25,.bool (x1.qb == a3))]) ?_;exact hK9 (x1.qb == a3) h
  refine WO.fn (e2:=z4 [(25,.bool false)]) ?_;exact hK9 false h
def jm (v27:(List Int)):Option (List Int) :=
 (some v27)
def jw (v6:(List Int)) (N1:((List Int)→Option (List Int))) (v25:Int):Option (List Int) :=
 (chk (capOk 8 ((v6++[v25])).length) (N1 (v6++[v25])))
def JE (N2:(Int→Option (List Int))) (v24:Int):Option (List Int) :=
 (N2 v24)
def Qp (x2:rf5Op) (v15:Int) (K16:(Int→Option (List Int))) (v23:Bool):Option (List Int) :=
 (bif v23 then (K16 x2.qa) else (K16 v15))
def Qq (a1:(List rf5Op)) (k1:Nat) (x2:rf5Op) (v15:Int) (K16:(Int→Option (List Int))) (v19:Bool):Option (List Int) :=
 (bif v19 then ((Yk a1 x2.qa 3).bind fun w21=>(bif (decide (w21<0)) then ((Qp x2 v15 K16) true) else ((Qp x2 v15 K16) (decide (w21 > (k1:Int)))))) else (K16 v15))
def jb (a1:(List rf5Op)) (k1:Nat) (x1:rf5Op) (K10:(Int→Option (List Int))):List rf5Op→Nat→Int→Option (List Int)
 | [],k2,v15=>(K10 v15)
 | x2::r2,k2,v15=>(bif (x2.qb == 1) then ((Qq a1 k1 x2 v15 (JE (jb a1 k1 x1 K10 r2 (k2+1)))) (x2.qc == x1.qc)) else ((Qq a1 k1 x2 v15 (JE (jb a1 k1 x1 K10 r2 (k2+1)))) false))
def qI (a1:(List rf5Op)) (K4:((List Int)→Option (List Int))):List rf5Op→Nat→(List Int)→Option (List Int)
 | [],k1,v6=>(K4 v6)
 | x1::r1,k1,v6=>(bif (x1.qb == 0) then ((sub a1 0 (k1:Int)).bind fun e14=>(chk (lenOk e14) (jb a1 k1 x1 (jw v6 (qI a1 K4 r1 (k1+1))) e14 0 0))) else ((jw v6 (qI a1 K4 r1 (k1+1))) (-1)))
def YM (a1:(List rf5Op)):Option (List Int) :=
 (chk (lenOk a1) (qI a1 (jm) a1 0 ([]:(List Int))))
theorem Dc (a1:(List rf5Op)) (r:(List Int)) (h:YM a1=some r):Run Try.prog (.call 27 [l43 none a1] (l3 (some 1) r)):=by
 refine cW Try.func27 rfl (env0:=[(0,l43 none a1)]) ?_;unfold YM at h;refine W.seq ?_;let z0:=fun t=>EN ((0,l43 none a1)::t);refine W.rt (e2:=z0 []) ?_;refine W.seq<|W.rt (e2:=z0 [(3,.nils)]) ?_;refine W.seq<|W.join (σ:=((List Int))) (fun s=>[(3,l3 (some 10300) s)]) (fun s=>(jm) s=some r) (fun v27 h=>?_) (fun hK4=>?_)
 ·unfold jm at h;refine W.seq<|W.rt (e2:=[(2,l3 (some 10300) v27)]) ?_;refine W.weak [2] [] [] [(10300,some 1)] (env':=[(2,l3 (some 1) v27)]) (by kernel_rfl) ?_;cases h;exact W.rr
 refine W.sr ?_;let z1:=fun t=>z0 ((3,.nils)::(10,l43 none a1)::(11,I6 (a1.length:Int))::t);refine WO.pq 1 (jM qM a1) (e1:=z1 [])<|WO.fn (e2:=z1 [(12,.int .i64 0)]) ?_;refine W.block ?_;obtain⟨hl1,h⟩:=qh h;refine W.weak [0,3,10,11,12] [] [(3,0,3,1,10300)] [] (env':=z0 [(3,l3 (some 10300) ([]:(List Int))),(10,l43 none a1),(11,I6 (a1.length:Int)),(12,I6 ((0:Nat):Int))]) (by kernel_rfl)<|W.range (σ:=((List Int))) a1 (fun k1 s=>z0 [(3,l3 (some 10300) s),(10,l43 none a1),(11,I6 (a1.length:Int)),(12,I6 (k1:Int))]) (fun r0 k0 s=>qI a1 (jm) r0 k0 s=some r) (fun v6 h=>?_) (fun x1 r1 k1 s hx1 hk1 h hN1=>?_) ([]:(List Int)) h
 ·have h:qI a1 (jm) [] (a1).length v6=some r:=h;rw[qI.eq_1]at h;refine W.sr ?_;let y0:Env:=[(3,l3 (some 10300) v6),(10,l43 none a1),(11,I6 (a1.length:Int)),(12,I6 ((a1).length:Int)),(13,.bool false)];refine WO.pq 0 (jB (qS (l:=a1))) (e1:=z0 y0)<|WO.fn (e2:=z0 y0) ?_;refine W.seq<|W.cF<|W.exit<|W.wk (e:=[(3,l3 (some 10300) v6)]) ?_;exact hK4 v6 h
 ·obtain⟨v6,rfl⟩:∃ x,x=s:=⟨s,rfl⟩;have h:qI a1 (jm) (x1::r1) k1 v6=some r:=h;rw[qI.eq_2]at h;refine W.sr ?_;let y1:Env:=[(3,l3 (some 10300) v6),(10,l43 none a1),(11,I6 (a1.length:Int)),(12,I6 (k1:Int)),(13,.bool true)];refine WO.pq 0 (jB (jp hk1)) (e1:=z0 y1)<|WO.fn (e2:=z0 y1) ?_;refine W.seq<|W.cT<|W.skip ?_;let y2:Env:=[(10,l43 none a1),(11,I6 (a1.length:Int)),(12,I6 (k1:Int))];let z2:=fun t=>z0 ((3,l3 (some 10300) v6)::t);refine W.wk (e:=z2 y2)<|W.seq<|W.block<|W.sr<|WO.pq 1 (jq (f:=qM) hx1) (e1:=z2 [(10,l43 none a1),(11,I6 (a1.length:Int)),(12,I6 (k1:Int)),(14,I6 (k1:Int)),(15,.ptr (.agg [I6 x1.qa,I6 x1.qb,I6 x1.qc]))]) ?_;let z3:=fun t=>z2 ((4,I6 (k1:Int))::(5,.ptr (.agg [I6 x1.qa,I6 x1.qb,I6 x1.qc]))::t);refine WO.fi [0,3,4,5,10,11,12] [5] (e2:=z3 y2) ?_;refine W.seq<|W.rt (e2:=z3 ((6,I6 (-1))::y2)) ?_;refine W.seq<|W.join (σ:=(Int)) (fun s=>z2 ((6,I6 s)::y2)) (fun s=>(jw v6 (qI a1 (jm) r1 (k1+1))) s=some r) (fun v25 h=>?_) (fun hK10=>?_)
  ·unfold jw at h;refine W.rg ?_;obtain⟨hc26,h⟩:=qh h;refine WO.appendK 3 (d:=55) (e:=3) (s:=1) (bytes:=8) (xs:=(M6 v6)) (ys:=(M6 [v25])) (zs:=(M6 (v6++[v25]))) (env1:=[(0,l43 none a1),(3,l3 none v6),(6,I6 v25),(10,l43 none a1),(11,I6 (a1.length:Int)),(12,I6 (k1:Int)),(52,l3 none v6),(53,I6 v25),(54,l3 (some 54) [v25])]) (by kernel_rfl) (List.map_append.symm) (by rw[A1];exact hc26) (e1:=z0 [(3,l3 none v6),(6,I6 v25),(10,l43 none a1),(11,I6 (a1.length:Int)),(12,I6 (k1:Int)),(52,l3 none v6),(53,I6 v25),(54,l3 (some 54) [v25]),(55,l3 (some 55) (v6++[v25]))]) (by kernel_rfl) ?_;refine WO.fn (e2:=z0 ((3,l3 (some 55) (v6++[v25]))::y2)) ?_;refine W.rg<|WO.pq 0 (jI (qE hl1 hk1)) (e1:=z0 [(3,l3 (some 55) (v6++[v25])),(10,l43 none a1),(11,I6 (a1.length:Int)),(12,I6 (k1:Int)),(56,I6 ((k1+1:Nat):Int))])<|WO.fin [0,3,10,11,12] [] [] [(55,some 10300)] (e2:=z0 [(3,l3 (some 10300) (v6++[v25])),(10,l43 none a1),(11,I6 (a1.length:Int)),(12,I6 ((k1+1:Nat):Int))]) (by kernel_rfl) (fun _ h=>h) ?_;exact hN1 (v6++[v25]) h
  refine W.seq<|W.rt (e2:=z3 [(6,I6 (-1)),(10,l43 none a1),(11,I6 (a1.length:Int)),(12,I6 (k1:Int)),(19,.bool (x1.qb == 0))]) ?_;refine W.ch (x1.qb == 0) h (fun h=>?_) (fun h=>?_)
  ·refine W.seq ?_;let z4:=fun t=>z3 ((6,.int .i64 0)::t);refine W.rt (e2:=z4 y2) ?_;refine W.sr ?_;obtain⟨e14,he14,h⟩:=qd h;let z5:=fun t=>z4 ((10,l43 none a1)::(11,I6 (a1.length:Int))::(12,I6 (k1:Int))::t);let z6:=fun t=>z5 ((20,l43 none a1)::(21,I6 (k1:Int))::(22,l43 none e14)::t);refine WO.pk 2 (if (0:Int)≤0∧0≤(k1:Int)∧(k1:Int)≤((A0 qM a1).length:Int) then some (.lst 43 3 none (((A0 qM a1).take (Int.toNat (k1:Int))).drop (Int.toNat 0))) else none) (HO he14) (e1:=z6 [])<|WO.pq 0 (jM qM e14) (e1:=z6 [(23,I6 (e14.length:Int))]) ?_;let z7:=fun t=>z5 ((22,l43 none e14)::(23,I6 (e14.length:Int))::t);refine WO.fn (e2:=z7 [(24,.int .i64 0)]) ?_;refine W.block ?_;obtain⟨hl2,h⟩:=qh h;refine W.wk (e:=z7 [(24,I6 ((0:Nat):Int))])<|W.range (σ:=(Int)) e14 (fun k2 s=>z3 [(6,I6 s),(10,l43 none a1),(11,I6 (a1.length:Int)),(12,I6 (k1:Int)),(22,l43 none e14),(23,I6 (e14.length:Int)),(24,I6 (k2:Int))]) (fun r0 k0 s=>jb a1 k1 x1 (jw v6 (qI a1 (jm) r1 (k1+1))) r0 k0 s=some r) (fun v15 h=>?_) (fun x2 r2 k2 s hx2 hk2 h hN2=>?_) 0 h
   ·have h:jb a1 k1 x1 (jw v6 (qI a1 (jm) r1 (k1+1))) [] (e14).length v15=some r:=h;rw[jb.eq_1]at h;refine W.sr ?_;let y3:Env:=[(3,l3 (some 10300) v6),(4,I6 (k1:Int)),(5,.ptr (.agg [I6 x1.qa,I6 x1.qb,I6 x1.qc])),(6,I6 v15),(10,l43 none a1),(11,I6 (a1.length:Int)),(12,I6 (k1:Int)),(22,l43 none e14),(23,I6 (e14.length:Int)),(24,I6 ((e14).length:Int)),(25,.bool false)];refine WO.pq 0 (jB (qS (l:=e14))) (e1:=z0 y3)<|WO.fn (e2:=z0 y3) ?_;refine W.seq<|W.cF<|W.exit<|W.wk (e:=z2 ((6,I6 v15)::y2)) ?_;exact hK10 v15 h
   ·obtain⟨v15,rfl⟩:∃ x,x=s:=⟨s,rfl⟩;have h:jb a1 k1 x1 (jw v6 (qI a1 (jm) r1 (k1+1))) (x2::r2) k2 v15=some r:=h;rw[jb.eq_2]at h;refine W.sr ?_;let y4:Env:=[(3,l3 (some 10300) v6),(4,I6 (k1:Int)),(5,.ptr (.agg [I6 x1.qa,I6 x1.qb,I6 x1.qc])),(6,I6 v15),(10,l43 none a1),(11,I6 (a1.length:Int)),(12,I6 (k1:Int)),(22,l43 none e14),(23,I6 (e14.length:Int)),(24,I6 (k2:Int)),(25,.bool true)];refine WO.pq 0 (jB (jp hk2)) (e1:=z0 y4)<|WO.fn (e2:=z0 y4) ?_;refine W.seq<|W.cT<|W.skip ?_;let y5:Env:=[(10,l43 none a1),(11,I6 (a1.length:Int)),(12,I6 (k1:Int)),(22,l43 none e14),(23,I6 (e14.length:Int)),(24,I6 (k2:Int))];let z8:=fun t=>z3 ((6,I6 v15)::t);refine W.wk (e:=z8 y5)<|W.seq<|W.join (σ:=(Int)) (fun s=>z3 ((6,I6 s)::y5)) (fun s=>(JE (jb a1 k1 x1 (jw v6 (qI a1 (jm) r1 (k1+1))) r2 (k2+1))) s=some r) (fun v24 h=>?_) (fun hK16=>?_)
    ·unfold JE at h;refine W.rg ?_;let z9:=fun t=>z3 ((6,I6 v24)::(10,l43 none a1)::(11,I6 (a1.length:Int))::(12,I6 (k1:Int))::(22,l43 none e14)::(23,I6 (e14.length:Int))::t);refine WO.pq 0 (jI (qE hl2 hk2)) (e1:=z9 [(24,I6 (k2:Int)),(51,I6 ((k2+1:Nat):Int))])<|WO.fn (e2:=z9 [(24,I6 ((k2+1:Nat):Int))]) ?_;exact hN2 v24 h
    refine W.block<|W.sr<|WO.pq 0 (jq (f:=qM) hx2) (e1:=z8 [(10,l43 none a1),(11,I6 (a1.length:Int)),(12,I6 (k1:Int)),(22,l43 none e14),(23,I6 (e14.length:Int)),(24,I6 (k2:Int)),(26,.ptr (.agg [I6 x2.qa,I6 x2.qb,I6 x2.qc]))]) ?_;let z10:=fun t=>z8 ((8,.ptr (.agg [I6 x2.qa,I6 x2.qb,I6 x2.qc]))::t);refine WO.fi [0,3,4,5,6,8,10,11,12,22,23,24] [8] (e2:=z10 y5) ?_;refine W.seq ?_;let z11:=fun t=>z10 ((10,l43 none a1)::(11,I6 (a1.length:Int))::(12,I6 (k1:Int))::(22,l43 none e14)::(23,I6 (e14.length:Int))::(24,I6 (k2:Int))::t);refine W.join (σ:=(Bool)) (fun s=>z11 [(37,.bool s)]) (fun s=>(Qq a1 k1 x2 v15 (JE (jb a1 k1 x1 (jw v6 (qI a1 (jm) r1 (k1+1))) r2 (k2+1)))) s=some r) (fun v19 h=>?_) (fun hK18=>?_)
    ·unfold Qq at h;refine W.ch v19 h (fun h=>?_) (fun h=>?_)
     ·refine W.sr ?_;obtain⟨w21,hw21,h⟩:=qd h;refine WO.ck 3 (F:=61) (l:=[l43 none a1,I6 x2.qa,.int .i64 3]) (C:=[]) (r:=I6 w21) (YF a1 x2.qa 3 w21 hw21) (e1:=z11 [(37,.bool v19),(38,l43 none a1),(39,.ptr (I6 x2.qa)),(40,I6 x2.qa),(41,I6 w21)])<|WO.fn (e2:=z10 ((9,I6 w21)::y5)) ?_;refine W.seq<|W.join (σ:=(Bool)) (fun s=>z11 [(48,.bool s)]) (fun s=>(Qp x2 v15 (JE (jb a1 k1 x1 (jw v6 (qI a1 (jm) r1 (k1+1))) r2 (k2+1)))) s=some r) (fun v23 h=>?_) (fun hK22=>?_)
      ·unfold Qp at h;refine W.ch v23 h (fun h=>?_) (fun h=>?_)
       ·refine W.rt (e2:=z3 ((6,I6 x2.qa)::y5)) ?_;exact hK16 x2.qa h
       refine W.sw (e:=z8 y5) ?_;exact hK16 v15 h
      refine W.rg<|WO.bh 3 (fun b=>z10 [(9,I6 w21),(10,l43 none a1),(11,I6 (a1.length:Int)),(12,I6 (k1:Int)),(22,l43 none e14),(23,I6 (e14.length:Int)),(24,I6 (k2:Int)),(42,I6 w21),(43,.bool b),(44,.bool b)]) (decide (w21<0)) h (fun h=>?_) (fun h=>?_)
      ·refine WO.fn (e2:=z11 [(48,.bool true)]) ?_;exact hK22 true h
      refine WO.fn (e2:=z11 [(48,.bool (decide (w21 > (k1:Int))))]) ?_;exact hK22 (decide (w21 > (k1:Int))) h
     refine W.sw (e:=z8 y5) ?_;exact hK16 v15 h
    refine W.rg<|WO.bh 4 (fun b=>z11 [(28,.ptr (I6 x2.qb)),(29,I6 x2.qb),(30,.bool b),(31,.bool b)]) (x2.qb == 1) h (fun h=>?_) (fun h=>?_)
    ·refine WO.fn (e2:=z11 [(37,.bool (x2.qc == x1.qc))]) ?_;exact hK18 (x2.qc == x1.qc) h
    refine WO.fn (e2:=z11 [(37,.bool false)]) ?_;exact hK18 false h
  refine W.sw (e:=z2 ((6,I6 (-1))::y2)) ?_;exact hK10 (-1) h
def jl (v15:(List Int)):Option (List Int) :=
 (some v15)
def Jo (v7:Int) (N1:((List Int)→Int→Option (List Int))) (v14:(List Int)):Option (List Int) :=
 (N1 v14 (A3 .i64 (v7+1)))
def qD (a1:(List rf5Op)) (K4:((List Int)→Option (List Int))):Nat→(List Int)→Int→Option (List Int)
 | 0,_,_=>none
 | m1+1,v6,v7=>(bif (decide (v7≤6)) then ((Yk a1 v7 2).bind fun w12=>(bif (decide (w12 ≥ 0)) then (chk (capOk 8 ((v6++[v7])).length) ((Jo v7 (qD a1 K4 m1)) (v6++[v7]))) else ((Jo v7 (qD a1 K4 m1)) v6))) else (K4 v6))
def Qe (fuel:Nat) (a1:(List rf5Op)):Option (List Int) :=
 (qD a1 (jl) fuel ([]:(List Int)) 1)
theorem Vb (fuel:Nat) (a1:(List rf5Op)) (r:(List Int)) (h:Qe fuel a1=some r):Run Try.prog (.call 57 [l43 none a1] (l3 (some 1) r)):=by
 refine cW Try.func57 rfl (env0:=[(0,l43 none a1)]) ?_;unfold Qe at h;refine W.seq ?_;let z0:=fun t=>EN ((0,l43 none a1)::t);refine W.rt (e2:=z0 []) ?_;refine W.seq<|W.rt (e2:=z0 [(3,.nils)]) ?_;refine W.seq<|W.join (σ:=((List Int))) (fun s=>[(3,l3 (some 10300) s)]) (fun s=>(jl) s=some r) (fun v15 h=>?_) (fun hK4=>?_)
 ·unfold jl at h;refine W.seq<|W.rt (e2:=[(2,l3 (some 10300) v15)]) ?_;refine W.weak [2] [] [] [(10300,some 1)] (env':=[(2,l3 (some 1) v15)]) (by kernel_rfl) ?_;cases h;exact W.rr
 refine W.seq<|W.rt (e2:=z0 [(3,.nils),(4,.int .i64 1)]) ?_;refine W.block<|W.weak [0,3,4] [] [(3,0,3,1,10300)] [] (env':=z0 [(3,l3 (some 10300) ([]:(List Int))),(4,.int .i64 1)]) (by kernel_rfl)<|W.fuel (σ:=((List Int)×Int)) (fun s=>z0 [(3,l3 (some 10300) s.1),(4,I6 s.2)]) (fun m0 s=>qD a1 (jl) m0 s.1 s.2=some r) (fun s h=>?_) (fun m1 s h hN1=>?_) fuel (([]:(List Int)),1) h
 ·obtain⟨v6,v7⟩:=s;have h:qD a1 (jl) 0 v6 v7=some r:=h;rw[qD.eq_1]at h;cases h
 ·obtain⟨v6,v7⟩:=s;have h:qD a1 (jl) (m1+1) v6 v7=some r:=h;rw[qD.eq_2]at h;refine W.seq<|W.seq ?_;let z1:=fun t=>z0 ((3,l3 (some 10300) v6)::(4,I6 v7)::t);refine W.rt (e2:=z1 [(6,.bool (decide (v7≤6)))]) ?_;refine W.ch (decide (v7≤6)) h (fun h=>?_) (fun h=>?_)
  ·refine W.sw (e:=z1 []) ?_;refine W.seq<|W.join (σ:=((List Int))) (fun s=>z0 [(3,l3 (some 10300) s),(4,I6 v7)]) (fun s=>(Jo v7 (qD a1 (jl) m1)) s=some r) (fun v14 h=>?_) (fun hK10=>?_)
   ·unfold Jo at h;refine W.rt (e2:=z0 [(3,l3 (some 10300) v14),(4,I6 (W6 (v7+1)))]) ?_;exact hN1 (v14,(W6 (v7+1))) h
   refine W.block<|W.sr ?_;obtain⟨w12,hw12,h⟩:=qd h;refine WO.ck 2 (F:=61) (l:=[l43 none a1,I6 v7,.int .i64 2]) (C:=[]) (r:=I6 w12) (YF a1 v7 2 w12 hw12) (e1:=z1 [(9,l43 none a1),(10,I6 v7),(11,I6 w12)])<|WO.fn (e2:=z1 [(12,.bool (decide (w12 ≥ 0)))]) ?_;refine W.ch (decide (w12 ≥ 0)) h (fun h=>?_) (fun h=>?_)
   ·refine W.rg ?_;obtain⟨hc13,h⟩:=qh h;refine WO.appendK 3 (d:=16) (e:=3) (s:=1) (bytes:=8) (xs:=(M6 v6)) (ys:=(M6 [v7])) (zs:=(M6 (v6++[v7]))) (env1:=[(0,l43 none a1),(3,l3 none v6),(4,I6 v7),(12,.bool (decide (w12 ≥ 0))),(13,l3 none v6),(14,I6 v7),(15,l3 (some 15) [v7])]) (by kernel_rfl) (List.map_append.symm) (by rw[A1];exact hc13) (e1:=z0 [(3,l3 none v6),(4,I6 v7),(12,.bool (decide (w12 ≥ 0))),(13,l3 none v6),(14,I6 v7),(15,l3 (some 15) [v7]),(16,l3 (some 16) (v6++[v7]))]) (by kernel_rfl) ?_;refine WO.fin [0,3,4] [] [] [(16,some 10300)] (e2:=z0 [(3,l3 (some 10300) (v6++[v7])),(4,I6 v7)]) (by kernel_rfl) (fun _ h=>h) ?_;exact hK10 (v6++[v7]) h
   refine W.sw (e:=z1 []) ?_;exact hK10 v6 h
  refine W.exit<|W.wk (e:=[(3,l3 (some 10300) v6)]) ?_;exact hK4 v6 h
def JV (v13:(List rf5Op)):Option (List rf5Op) :=
 (some v13)
def QW (N1:((List rf5Op)→Option (List rf5Op))) (v12:(List rf5Op)):Option (List rf5Op) :=
 (N1 v12)
def jE (a1:(List rf5Op)) (K4:((List rf5Op)→Option (List rf5Op))):List rf5Op→Nat→(List rf5Op)→Option (List rf5Op)
 | [],k1,v6=>(K4 v6)
 | x1::r1,k1,v6=>((Yk a1 x1.qa 2).bind fun w10=>(bif (decide (w10 ≥ 0)) then (chk (capOk 24 ((v6++[x1])).length) ((QW (jE a1 K4 r1 (k1+1))) (v6++[x1]))) else ((QW (jE a1 K4 r1 (k1+1))) v6)))
def YJ (a1:(List rf5Op)):Option (List rf5Op) :=
 (chk (lenOk a1) (jE a1 (JV) a1 0 ([]:(List rf5Op))))
theorem HZ (a1:(List rf5Op)) (r:(List rf5Op)) (h:YJ a1=some r):Run Try.prog (.call 93 [l43 none a1] (l43 (some 1) r)):=by
 refine cW Try.func93 rfl (env0:=[(0,l43 none a1)]) ?_;unfold YJ at h;refine W.seq ?_;let z0:=fun t=>EN ((0,l43 none a1)::t);refine W.rt (e2:=z0 []) ?_;refine W.seq<|W.rt (e2:=z0 [(3,.nils)]) ?_;refine W.seq<|W.join (σ:=((List rf5Op))) (fun s=>[(3,l43 (some 10300) s)]) (fun s=>(JV) s=some r) (fun v13 h=>?_) (fun hK4=>?_)
 ·unfold JV at h;refine W.seq<|W.rt (e2:=[(2,l43 (some 10300) v13)]) ?_;refine W.weak [2] [] [] [(10300,some 1)] (env':=[(2,l43 (some 1) v13)]) (by kernel_rfl) ?_;cases h;exact W.rr
 refine W.sr ?_;let z1:=fun t=>z0 ((3,.nils)::(6,l43 none a1)::(7,I6 (a1.length:Int))::t);refine WO.pq 1 (jM qM a1) (e1:=z1 [])<|WO.fn (e2:=z1 [(8,.int .i64 0)]) ?_;refine W.block ?_;obtain⟨hl1,h⟩:=qh h;refine W.weak [0,3,6,7,8] [] [(3,0,43,3,10300)] [] (env':=z0 [(3,l43 (some 10300) ([]:(List rf5Op))),(6,l43 none a1),(7,I6 (a1.length:Int)),(8,I6 ((0:Nat):Int))]) (by kernel_rfl)<|W.range (σ:=((List rf5Op))) a1 (fun k1 s=>z0 [(3,l43 (some 10300) s),(6,l43 none a1),(7,I6 (a1.length:Int)),(8,I6 (k1:Int))]) (fun r0 k0 s=>jE a1 (JV) r0 k0 s=some r) (fun v6 h=>?_) (fun x1 r1 k1 s hx1 hk1 h hN1=>?_) ([]:(List rf5Op)) h
 ·have h:jE a1 (JV) [] (a1).length v6=some r:=h;rw[jE.eq_1]at h;refine W.sr ?_;let y0:Env:=[(3,l43 (some 10300) v6),(6,l43 none a1),(7,I6 (a1.length:Int)),(8,I6 ((a1).length:Int)),(9,.bool false)];refine WO.pq 0 (jB (qS (l:=a1))) (e1:=z0 y0)<|WO.fn (e2:=z0 y0) ?_;refine W.seq<|W.cF<|W.exit<|W.wk (e:=[(3,l43 (some 10300) v6)]) ?_;exact hK4 v6 h
 ·obtain⟨v6,rfl⟩:∃ x,x=s:=⟨s,rfl⟩;have h:jE a1 (JV) (x1::r1) k1 v6=some r:=h;rw[jE.eq_2]at h;refine W.sr ?_;let y1:Env:=[(3,l43 (some 10300) v6),(6,l43 none a1),(7,I6 (a1.length:Int)),(8,I6 (k1:Int)),(9,.bool true)];refine WO.pq 0 (jB (jp hk1)) (e1:=z0 y1)<|WO.fn (e2:=z0 y1) ?_;refine W.seq<|W.cT<|W.skip ?_;let y2:Env:=[(6,l43 none a1),(7,I6 (a1.length:Int)),(8,I6 (k1:Int))];let z2:=fun t=>z0 ((3,l43 (some 10300) v6)::t);refine W.wk (e:=z2 y2)<|W.seq<|W.join (σ:=((List rf5Op))) (fun s=>z0 ((3,l43 (some 10300) s)::y2)) (fun s=>(QW (jE a1 (JV) r1 (k1+1))) s=some r) (fun v12 h=>?_) (fun hK7=>?_)
  ·unfold QW at h;refine W.rg ?_;let z3:=fun t=>z0 ((3,l43 (some 10300) v12)::(6,l43 none a1)::(7,I6 (a1.length:Int))::t);refine WO.pq 0 (jI (qE hl1 hk1)) (e1:=z3 [(8,I6 (k1:Int)),(21,I6 ((k1+1:Nat):Int))])<|WO.fn (e2:=z3 [(8,I6 ((k1+1:Nat):Int))]) ?_;exact hN1 v12 h
  refine W.block<|W.sr<|WO.pq 0 (jq (f:=qM) hx1) (e1:=z2 [(6,l43 none a1),(7,I6 (a1.length:Int)),(8,I6 (k1:Int)),(10,.ptr (.agg [I6 x1.qa,I6 x1.qb,I6 x1.qc]))]) ?_;let z4:=fun t=>z2 ((5,.ptr (.agg [I6 x1.qa,I6 x1.qb,I6 x1.qc]))::t);refine WO.fi [0,3,5,6,7,8] [5] (e2:=z4 y2) ?_;refine W.sr ?_;obtain⟨w10,hw10,h⟩:=qd h;let z5:=fun t=>z4 ((6,l43 none a1)::(7,I6 (a1.length:Int))::(8,I6 (k1:Int))::t);refine WO.ck 3 (F:=61) (l:=[l43 none a1,I6 x1.qa,.int .i64 2]) (C:=[]) (r:=I6 w10) (YF a1 x1.qa 2 w10 hw10) (e1:=z5 [(12,l43 none a1),(13,.ptr (I6 x1.qa)),(14,I6 x1.qa),(15,I6 w10)])<|WO.fn (e2:=z5 [(16,.bool (decide (w10 ≥ 0)))]) ?_;refine W.ch (decide (w10 ≥ 0)) h (fun h=>?_) (fun h=>?_)
  ·refine W.rg ?_;obtain⟨hc11,h⟩:=qh h;refine WO.appendK 3 (d:=20) (e:=43) (s:=3) (bytes:=24) (xs:=(A0 qM v6)) (ys:=(A0 qM [x1])) (zs:=(A0 qM (v6++[x1]))) (env1:=[(0,l43 none a1),(3,l43 none v6),(5,.ptr (.agg [I6 x1.qa,I6 x1.qb,I6 x1.qc])),(6,l43 none a1),(7,I6 (a1.length:Int)),(8,I6 (k1:Int)),(16,.bool (decide (w10 ≥ 0))),(17,l43 none v6),(18,.agg [I6 x1.qa,I6 x1.qb,I6 x1.qc]),(19,l43 (some 19) [x1])]) (by kernel_rfl) (List.map_append.symm) (by rw[A1];exact hc11) (e1:=z0 [(3,l43 none v6),(5,.ptr (.agg [I6 x1.qa,I6 x1.qb,I6 x1.qc])),(6,l43 none a1),(7,I6 (a1.length:Int)),(8,I6 (k1:Int)),(16,.bool (decide (w10 ≥ 0))),(17,l43 none v6),(18,.agg [I6 x1.qa,I6 x1.qb,I6 x1.qc]),(19,l43 (some 19) [x1]),(20,l43 (some 20) (v6++[x1]))]) (by kernel_rfl) ?_;refine WO.fin [0,3,6,7,8] [] [] [(20,some 10300)] (e2:=z0 ((3,l43 (some 10300) (v6++[x1]))::y2)) (by kernel_rfl) (fun _ h=>h) ?_;exact hK7 (v6++[x1]) h
  refine W.sw (e:=z2 y2) ?_;exact hK7 v6 h
end Go.AM
