import Derived.Test.YtoiejpkfpjingaaHA1
import Derived.Test.YtoiejpkfpjingaaKAT
import Derived.WalkKit
import Derived.BigCall
import Derived.Deep.RegionHeld3
import Derived.Deep.RegionHeldLaw
import Derived.Deep.AppendLies
import Derived.Deep.OwnRows
import Derived.OneCell
import Derived.Laws.Rows
import Derived.Test.YtoiejpkfpjingaaASimJ
set_option linter.all false
set_option maxRecDepth 100000
open Go.MapKept renaming run_getObj_map→A0, run_setObj_map→A6, stamped_push→B6, stamped_modify→B7
open Go.Result renaming andThen→A1
open Array renaming getElem?_push→A2, getElem?_modify→A3, getElem?_eq_getElem→B0
open List renaming getElem?_concat_length→A4, getElem?_append_left→A5, getElem?_map→A7, getElem?_eq_getElem→A9, getD_eq_getElem?_getD→B5, exists_mem_of_ne_nil→B9
open Option renaming map_eq_some_iff→A8
namespace Go.AM
open Go.RowKit Go.Proofs
theorem glob0 (M:Mem):Glob M:=fun g hg=>by cases hg
theorem Cons.below {M:Mem} {w w':World} (h:Cons M w) (hB:Below w.heap.size w w'):Cons M w':=VW h hB
theorem Cons.of_blocks {M:Mem} {w w':World} (h:Cons M w) (hb:∀ b o u,M b o=some u→b<w.heap.size→w'.heap[b]? = w.heap[b]?):Cons M w':=fun b o u hu=>by
 have h1:=h b o u hu;rw[jY (hb b o u hu (XC h1))];exact h1
theorem Cons.alloc {M:Mem} {w:World} (h:Cons M w) (o:Obj):Cons M (w.alloc o):=h.of_blocks fun b _ _ _ hb=>heap_alloc_old w o hb
theorem Cons.setCell {M:Mem} {w:World} (h:Cons M w) {a:Addr} (ha:∀ o,M a.block o=none) (v:Value):Cons M (w.setCell a v) :=
 h.of_blocks fun b o u hu hb=>Below.heap_setCell w a v b fun e=>by rw[e,ha]at hu;cases hu
theorem qaB (l:List Int):flat (cL l)=cL l:=YJ l .i64
theorem DY {M:Mem} {c:List Int} {g off cap:Nat} (hcap:c.length≤cap) (hM:∀ j (hj:j<c.length),M g (off+j)=some (.int .i64 c[j])):R M (.lst 3 1 none (cL c)) (.slice (some ⟨g,off,none⟩) c.length cap):=by
 have hl:(cL c).length=c.length:=by simp[cL]
 have hf:∀ (j:Nat) x,(flat (cL c))[j]? = some x→∃ h:j<c.length,x=.int .i64 c[j]:=by
  intro j x hx;rw[qaB]at hx;have hj:=(List.getElem?_eq_some_iff.1 hx).1;rw[hl]at hj;refine⟨hj,?_⟩
  simpa[cL,hj] using hx.symm
 rw[← hl];refine .lst (fun j=>.int .i64 (c.getD j 0)) (by rw[hl];exact hcap) (fun x hx=>?_) (fun x hx=>?_) (fun j x hx=>?_) (fun j x hx=>?_)
 ·obtain⟨z,_,rfl⟩:=List.mem_map.1 hx;rfl
 ·obtain⟨z,_,rfl⟩:=List.mem_map.1 hx;rfl
 ·obtain⟨hj,rfl⟩:=hf j x hx;rw[hM j hj,B5,A9 hj];rfl
 ·obtain⟨hj,rfl⟩:=hf j x hx;rw[B5,A9 hj];exact .int _ _
abbrev intsV (l:List Int):List Value:=l.map (Value.int .i64)
theorem qaX {f:Nat} {args:List AV} {r:AV} (h:Run Try.prog (.call f args r)):CallOk Try.prog f args r:=Ye mixedP h
theorem NL {w w':World} (h:Below w.heap.size w w'):w.grownBy w' none:=⟨h.os,h.tape,h.output,h.size,fun k hk _=>h.block k hk⟩
end Go.AM
namespace Go.AM
open Go.RowKit Go.Proofs
open Go.ChangeMaps (setBlock)
variable {K V:Type} {F:K→AV} {G:V→AV} {eq:K→K→Bool}
def MapAt (M:Mem) (w:World) (g:Nat) (F:K→AV) (G:V→AV) (l:List (K×V)):Prop :=
 ∃ es clock,w.heap[g]? = some (.map es clock)∧EntOk M es clock (l.map fun p=>F p.1) (l.map fun p=>G p.2)
theorem MapAt.mono {M M':Mem} {w:World} {g:Nat} {l:List (K×V)} (h:MapAt M w g F G l) (hs:Sub M M'):MapAt M' w g F G l:=by
 obtain⟨es,clock,h1,h2⟩:=h;exact⟨es,clock,h1,h2.mono hs⟩
theorem MapAt.of {M:Mem} {w w':World} {g:Nat} {l:List (K×V)} (h:MapAt M w g F G l) (hb:w'.heap[g]? = w.heap[g]?):MapAt M w' g F G l:=by
 obtain⟨es,clock,h1,h2⟩:=h;exact⟨es,clock,hb.trans h1,h2⟩
theorem MapAt.lt {M:Mem} {w:World} {g:Nat} {l:List (K×V)} (h:MapAt M w g F G l):g<w.heap.size:=by
 obtain⟨es,clock,h1,_⟩:=h;exact (Array.getElem?_eq_some_iff.1 h1).1
theorem MapAt.empty {M:Mem} {w:World} {g:Nat} (h:w.heap[g]? = some (.map #[] 0)):MapAt M w g F G []:=⟨#[],0,h,(MapKept.stamped_iff _ _).2 ⟨by simp,by simp,by simp⟩,Nat.zero_le _,rfl,rfl,fun j k e hk=>by simp at hk,fun j k e hk=>by simp at hk⟩
theorem Try.lookup_own {M:Mem} {w:World} {t kt e:TypeId} {g:Nat} {l:List (K×V)} (h:MapAt M w g F G l) (ht:jN Try.prog t=some (kt,e)) (hf:∀ x,keyFits Try.prog kt (F x)=true) (he:∀ x y,akeq (F x) (F y)=eq x y) {z:V} (hz:zeroA1 Try.prog e=some (G z)) {k:K} {kv:Value} (hkv:(F k).keyV=some kv) :
  ∃ v,(Instr.lookup t (.map (some g)) kv false).run Try.prog w=.ok v w∧R M (G (mget eq z k l)) v:=by
 obtain⟨es,clock,hb,E⟩:=h;have ht':=jr ht;obtain⟨hck,hst,hfd⟩:=jT (w:=w) (hf k) hkv (XT hf l) E;obtain⟨h2,h3,h4,h5,h6,h7⟩:=E
 rcases hfd with ⟨k1,k2,k3⟩ | ⟨j,e0,k1,k2,k3,k4⟩
 ·rcases Ym (G:=G) he z k l with ⟨j,g1,g2⟩ | ⟨g1,g2⟩
  ·rw[k1]at g1;cases g1
  ·obtain⟨v,z1,z2⟩:=Xj (M:=M) (O:=⟨fun _ _=>none,fun _=>0,fun _=>0⟩) (w:=w) hz;rw[g2];refine⟨v,?_,z2⟩;simp[Instr.lookup,run_underlying ht',A0 hb,hck,k2,z1,A1]
 ·rcases Ym (G:=G) he z k l with ⟨i,g1,g2⟩ | ⟨g1,g2⟩
  ·rw[k1]at g1;cases g1;refine⟨e0.val,?_,h7 j _ e0 g2 (by simpa using k3)⟩;simp[Instr.lookup,run_underlying ht',A0 hb,hck,k2,A1]
  ·rw[k1]at g1;cases g1
theorem Try.update_own {M:Mem} {es:Array MapEntry} {clock:Nat} {t kt e:TypeId} {l:List (K×V)} (E:EntOk M es clock (l.map fun p=>F p.1) (l.map fun p=>G p.2)) (ht:jN Try.prog t=some (kt,e)) (hf:∀ x,keyFits Try.prog kt (F x)=true) (he:∀ x y,akeq (F x) (F y)=eq x y) {k:K} {v:V} {kv vv:Value} (hkv:(F k).keyV=some kv) (hvv:R M (G v) vv) (hl:l.length<1000000000) :
  ∃ es' clock',EntOk M es' clock' ((mset eq k v l).map fun p=>F p.1) ((mset eq k v l).map fun p=>G p.2)∧∀ (w:World) (g:Nat),w.heap[g]? = some (.map es clock)→(Instr.mapUpdate t (.map (some g)) kv vv).run Try.prog w=.ok () (setBlock w g (.map es' clock')):=by
 have ht':=jr ht
 have fnd:=fun w=>jT (P:=Try.prog) (w:=w) (hf k) hkv (XT hf l) E
 obtain⟨E1,E2,E3,E4,E5,E6⟩:=E;have w0:World:=(default:World);obtain⟨_,_,hfd⟩:=fnd w0
 rcases hfd with ⟨f1,_,f3⟩ | ⟨j,e0,f1,_,f3,f4⟩
 ·rcases Yl (G:=G) he k v l with ⟨i,g1,_⟩ | ⟨g1,g2,g3⟩
  ·rw[f1]at g1;cases g1
  ·rw[g2,g3];refine⟨es.push ⟨kv,vv,clock⟩,clock+1,⟨B6 E1 f3,by simp[maxLen];simp at E3;omega,by simp at E3 ⊢;exact E3,by simp at E4 ⊢;exact E4,fun j k' e' hk' he'=>?_,fun j v' e' hv' he'=>?_⟩,fun w g hb=>?_⟩
   ·rw[A2]at he';split at he'
    ·rename_i hj;cases he';rw[hj,← E3]at hk';simp only[A4,Option.some.injEq]at hk';subst hk';exact hkv
    ·rename_i hj
     have hjl:j<(l.map fun p=>F p.1).length:=by
      have:=(Array.getElem?_eq_some_iff.1 he').1;omega
     rw[A5 hjl]at hk';exact E5 j k' e' hk' he'
   ·rw[A2]at he';split at he'
    ·rename_i hj;cases he';rw[hj,← E4]at hv';simp only[A4,Option.some.injEq]at hv';subst hv';exact hvv
    ·rename_i hj
     have hjl:j<(l.map fun p=>G p.2).length:=by
      have:=(Array.getElem?_eq_some_iff.1 he').1;omega
     rw[A5 hjl]at hv';exact E6 j v' e' hv' he'
   ·obtain⟨hck,hst,hfd⟩:=fnd w
    rcases hfd with ⟨_,f2,_⟩ | ⟨j,e0,q1,_⟩
    ·simp[Instr.mapUpdate,run_underlying ht',A0 hb,hck,f2,A6 _ hb,A1,setBlock]
    ·rw[f1]at q1;cases q1
 ·rcases Yl (G:=G) he k v l with ⟨i,g1,g2,g3⟩ | ⟨g1,_⟩
  ·rw[f1]at g1;cases g1;rw[g2,g3]
   have hj:es[j]? = some e0:=by simpa using f3
   have hjs:j<es.size:=(Array.getElem?_eq_some_iff.1 hj).1
   have hkeyf:∀ e',es[j]? = some e'→({ e' with key:=kv,val:=vv }:MapEntry).key=e'.key:=fun e' he'=>by rw[hj]at he';cases he';exact f4.symm
   refine⟨es.modify j (fun e'=>{ e' with key:=kv,val:=vv }),clock,⟨B7 E1 _ _ (fun _ _=>rfl) (fun e' _ he'=>hkeyf e' he'),by simpa using E2,by simpa using E3,by simpa using E4,fun i k' e' hk' he'=>?_,fun i v' e' hv' he'=>?_⟩,fun w g hb=>?_⟩
   ·rw[A3]at he';split at he'
    ·rename_i hij;subst hij;rw[hj]at he';cases he';show k'.keyV=some kv;rw[← f4];exact E5 j k' e0 hk' hj
    ·exact E5 i k' e' hk' he'
   ·rw[A3]at he';split at he'
    ·rename_i hij;subst hij;rw[hj]at he';cases he';rw[List.getElem?_set_self (by omega)]at hv';cases hv';exact hvv
    ·rename_i hij;rw[List.getElem?_set_ne hij]at hv';exact E6 i v' e' hv' he'
   ·obtain⟨hck,hst,hfd⟩:=fnd w
    rcases hfd with ⟨q1,_⟩ | ⟨j',e',q1,f2,q3,q4⟩
    ·rw[f1]at q1;cases q1
    ·rw[f1]at q1;cases q1;simp[Instr.mapUpdate,run_underlying ht',A0 hb,hck,f2,hj,f4,hst,A6 _ hb,A1,setBlock]
  ·rw[f1]at g1;cases g1
theorem jq {w:World} {g:Nat} {o o':Obj} (h:w.heap[g]? = some o):(setBlock w g o').heap[g]? = some o':=by
 have:=(Array.getElem?_eq_some_iff.1 h).1;unfold setBlock;simp[this]
theorem jw {w:World} {g k:Nat} {o':Obj} (h:k≠g):(setBlock w g o').heap[k]? = w.heap[k]?:=by
 unfold setBlock;simp[Array.getElem?_setIfInBounds,Ne.symm h]
theorem Jc {w:World} {g:Nat} {o':Obj}:(setBlock w g o').heap.size=w.heap.size:=by
 unfold setBlock;simp
def qaO (M:Mem) (w:World) (r:AV) (e:Ending) (w':World):Prop:=∃ v M',e=.returned v∧Below w.heap.size w w'∧Sub M M'∧Cons M' w'∧(∀ b o,b<w.heap.size→M' b o=M b o)∧R M' r v∧OwnR M' w.heap.size w' r v
end Go.AM
namespace Go.AM
theorem ZY (t:Int):∀ (l:List Int) (k:Nat),∃ r:Int,je t jV l k=some r∧(decide (r ≥ 0)=l.contains t)
 | [],k=>⟨-1,by rw[je.eq_1];rfl,rfl⟩
 | x::l,k=>by
  obtain⟨r,h1,h2⟩:=ZY t l (k+1);rw[je.eq_2];by_cases h:t=x
  ·subst h;refine⟨(k:Int),by simp,?_⟩;simp
  ·refine⟨r,?_,?_⟩
   ·rw[beq_eq_false_iff_ne.2 h,cond_false,h1]
   ·rw[h2,List.contains_cons];simp[h]
theorem NH {l:List Int} (hl:l.length≤100000) (t:Int):jX l t=some (l.contains t):=by
 unfold jX Qq;obtain⟨r,h1,h2⟩:=ZY t l 0;have:lenOk l=true:=Nat.ble_eq_true_of_le (by omega);rw[this];simp only[chk,cond_true];rw[h1,← h2];rfl
end Go.AM
namespace Go.Proofs
open Go.RowKit Go.AM
theorem Try.infoInt:(Try.prog.info? 3).map (fun i=>(i.zero,i.size,i.bytes))=some (some (.int .i64 0),1,8):=by kernel_rfl
end Go.Proofs
namespace Go.Proofs
open Go.RowKit Go.AM
structure GP (base:Nat) (w:World) (bf:Nat) (vc:Value) (c:List Int) (w':World):Prop where
 os:w'.os=w.os
 tape:w'.tape=w.tape
 output:w'.output=w.output
 size:w.heap.size≤w'.heap.size
 block:∀ k,k<w.heap.size→k≠bf→some k≠vc.ownBlock→w'.heap[k]? = w.heap[k]?
 own:w'.ownsRow base 3 1 vc c.length (intsV c)
 box:∃ fv,w'.heap[bf]? = some (.cells #[fv] 24 (0,0))
theorem qaH {w:World} {base bf:Nat} {fv vc:Value} {c:List Int} (hb:w.heap[bf]? = some (.cells #[fv] 24 (0,0))) (ho:w.ownsRow base 3 1 vc c.length (intsV c)):some bf≠vc.ownBlock:=by
 rcases ho.2 with ⟨rfl,_⟩ | ⟨g,cap,cur,rfl,_,hg,_⟩
 ·intro e;cases e
 ·intro e;simp only[Value.ownBlock,Option.some.injEq]at e;subst e;rw[hb]at hg;simp at hg
section
variable {base:Nat} {w w1 w2:World} {bf:Nat} {vc:Value} {c:List Int}
theorem GP.refl {fv:Value} (ho:w.ownsRow base 3 1 vc c.length (intsV c)) (hb:w.heap[bf]? = some (.cells #[fv] 24 (0,0))):GP base w bf vc c w:=⟨rfl,rfl,rfl,Nat.le_refl _,fun _ _ _ _=>rfl,ho,fv,hb⟩
theorem GP.below (h:GP base w bf vc c w1) (hB:Below w1.heap.size w1 w2):GP base w bf vc c w2:=by
 obtain⟨fv,hf⟩:=h.box;refine⟨hB.os.trans h.os,hB.tape.trans h.tape,hB.output.trans h.output,Nat.le_trans h.size hB.size,fun k hk h1 h2=>?_,World.ownsRow.kept h.own (NL hB) ?_,fv,?_⟩
 ·have:=h.size;rw[hB.block k (by omega),h.block k hk h1 h2]
 ·cases vc.ownBlock with
  | none=>exact .inl rfl
  | some k=>exact .inr (by intro e;cases e)
 ·rw[hB.block bf (lt_of_block hf)];exact hf
theorem GP.alloc (h:GP base w bf vc c w1) (o:Obj):GP base w bf vc c (w1.alloc o):=h.below ((Below.refl _ _).alloc (Nat.le_refl _) o)
theorem GP.drew (h:GP base w bf vc c w1):GP base w bf vc c w1.drew:=h.below ⟨rfl,rfl,rfl,Nat.le_refl _,fun _ _=>rfl⟩
theorem GP.trans (h:GP base w bf vc c w1) (k:GP base w1 bf vc c w2):GP base w bf vc c w2 :=
 ⟨k.os.trans h.os,k.tape.trans h.tape,k.output.trans h.output,Nat.le_trans h.size k.size,fun j hj h1 h2=>by
  have:=h.size
  rw[k.block j (by omega) h1 h2,h.block j hj h1 h2],k.own,k.box⟩
theorem GP.cons {M:Mem} (h:GP base w bf vc c w1) (hC:Cons M w) (hf:∀ o,M bf o=none) (hv:∀ g,vc.ownBlock=some g→∀ o,M g o=none):Cons M w1 :=
 hC.of_blocks fun b o u hu hb=>h.block b hb (fun e=>by rw[e,hf]at hu;cases hu) (fun e=>by rw[hv b e.symm]at hu;cases hu)
end
def growV (bf be bl bg:Nat):Value:=.func (.func 52) #[] #[.pointer (some ⟨bf,0,none⟩),.pointer (some ⟨be,0,none⟩),.pointer (some ⟨bl,0,none⟩),.pointer (some ⟨bg,0,none⟩)]
structure GE (M:Mem) (bf be bl bg:Nat) (E:Int→Int→Bool) (l:List Int):Prop where
 e:∃ mv,M be 0=some mv∧isTup mv=false∧∀ w,Cons M w→∀ a b,wfI .i64 a=true→wfI .i64 b=true→(Instr.lookup 67 mv (.agg #[.int .i64 a,.int .i64 b]) false).run Try.prog w=.ok (.bool (E a b)) w
 lv:∃ lv,M bl 0=some lv∧isTup lv=false∧R M (.lst 3 1 none (cL l)) lv
 g:M bg 0=some (growV bf be bl bg)
 f:∀ o,M bf o=none
 wf:∀ x,x∈l→wfI .i64 x=true
 len:l.length≤1000
end Go.Proofs
namespace Go.Proofs
open Go.RowKit Go.AM
end Go.Proofs
namespace Go.Proofs
open Go.RowKit Go.AM
theorem GP.store {base:Nat} {w w1:World} {bf:Nat} {vc:Value} {c:List Int} (h:GP base w bf vc c w1) (u:Value):GP base w bf vc c (w1.setCell ⟨bf,0,none⟩ u):=by
 obtain⟨fv,hf⟩:=h.box;refine⟨h.os,h.tape,h.output,by simpa[World.setCell] using h.size,fun k hk h1 h2=>?_,ownsRow_setCell_other h.own (fun e=>qaH hf h.own e.symm) u,u,one_setCell hf⟩;rw[Below.heap_setCell _ _ _ _ h1,h.block k hk h1 h2]
end Go.Proofs
namespace Go.Proofs
open Go.RowKit Go.AM
open Go.ChangeMaps (setBlock)
theorem Xv (l m:List Int):intsV (l++m)=intsV l++intsV m:=by simp[intsV]
abbrev kE (bl:List (Int×List Int)):List AV:=bl.map fun p=>AV.int .i64 p.1
abbrev tE (bl:List (Int×List Int)):List AV:=bl.map fun _=>AV.top
structure ByRel (w:World) (base gm:Nat) (bl:List (Int×List Int)) (es:Array MapEntry) (clock:Nat):Prop where
 at':w.heap[gm]? = some (.map es clock)
 ent:EntOk (fun _ _=>none) es clock (kE bl) (tE bl)
 row:∀ (j:Nat) p e,bl[j]? = some p→es[j]? = some e→p.2≠[]∧w.ownsRow base 3 1 e.val p.2.length (intsV p.2)
 apart:∀ (i j:Nat) e f g,es[i]? = some e→es[j]? = some f→e.val.ownBlock=some g→f.val.ownBlock=some g→i=j
 lt:gm<base
theorem ByRel.below {w w':World} {base gm:Nat} {bl:List (Int×List Int)} {es:Array MapEntry} {clock:Nat} (h:ByRel w base gm bl es clock) (hB:∀ k,k<w.heap.size→(k=gm∨base≤k)→w'.heap[k]? = w.heap[k]?):ByRel w' base gm bl es clock:=by
 obtain⟨h1,h2,h3,h4,h5⟩:=h;refine⟨(hB gm (lt_of_block h1) (.inl rfl)).trans h1,h2,fun j p e hp he=>⟨(h3 j p e hp he).1,?_⟩,h4,h5⟩;obtain⟨q1,q2⟩:=(h3 j p e hp he).2;refine⟨q1,?_⟩
 rcases q2 with hn | ⟨g,cap,cur,hv,hb,hgg,rest⟩
 ·exact .inl hn
 ·exact .inr ⟨g,cap,cur,hv,hb,by rw[hB g (lt_of_block hgg) (.inr hb)];exact hgg,rest⟩
theorem fits3 (x:Int):keyFits Try.prog 3 (AV.int .i64 x)=true:=by kernel_rfl
theorem Xu (x y:Int):akeq (AV.int .i64 x) (AV.int .i64 y)=keq1 x y:=by simp[akeq,keq1,kbeq]
theorem VT (k:Int):∀ bl:List (Int×List Int),(∃ j l,findA (AV.int .i64 k) (kE bl)=some j∧bl[j]? = some (k,l)∧mget keq1 [] k bl=l∧∀ m,mset keq1 k m bl=bl.set j (k,m))∨(findA (AV.int .i64 k) (kE bl)=none∧mget keq1 [] k bl=[]∧∀ m,mset keq1 k m bl=bl++[(k,m)])
 | []=>.inr ⟨rfl,rfl,fun m=>rfl⟩
 | p::r=>by
  have ih:=VT k r;simp only[kE,List.map_cons,findA,mget,mset,Xu]at ih ⊢
  cases hq:keq1 p.1 k with
  | true =>
   have:p.1=k:=by simpa[keq1] using hq
   subst this;exact .inl ⟨0,p.2,rfl,rfl,rfl,fun m=>rfl⟩
  | false =>
   simp only[cond_false]
   rcases ih with ⟨j,l,h1,h2,h3,h4⟩ | ⟨h1,h2,h3⟩
   ·rw[h1];exact .inl ⟨j+1,l,rfl,by simpa using h2,h3,fun m=>by rw[h4];rfl⟩
   ·rw[h1];exact .inr ⟨rfl,h2,fun m=>by rw[h3];rfl⟩
theorem ByRel.step {w:World} {base gm:Nat} {bl:List (Int×List Int)} {es:Array MapEntry} {clock:Nat} (h:ByRel w base gm bl es clock) {k:Int} (hwf:wfI .i64 k=true) (hlen:bl.length<1000000000) :
  ∃ v24,(∀ w',w'.heap[gm]? = some (.map es clock)→(Instr.lookup 87 (.map (some gm)) (.int .i64 k) false).run Try.prog w'=.ok v24 w')∧w.ownsRow base 3 1 v24 (mget keq1 [] k bl).length (intsV (mget keq1 [] k bl)) ∧
   ∀ (x:Int) (vv:Value) (g:Nat) (w2:World),w.grownBy w2 v24.ownBlock→w2.ownsRow base 3 1 vv ((mget keq1 [] k bl).length+1) (intsV (mget keq1 [] k bl)++[.int .i64 x])→vv.ownBlock=some g→(v24.ownBlock=some g∨w.heap.size≤g) →
    ∃ es' clock',(Instr.mapUpdate 87 (.map (some gm)) (.int .i64 k) vv).run Try.prog w2=.ok () (setBlock w2 gm (.map es' clock'))∧ByRel (setBlock w2 gm (.map es' clock')) base gm (mset keq1 k (mget keq1 [] k bl++[x]) bl) es' clock':=by
 obtain⟨h1,E,h3,h4,h5⟩:=h
 have ht:jN Try.prog 87=some (3,24):=by kernel_rfl
 have ht':=jr ht
 have hkv:(AV.int .i64 k).keyV=some (.int .i64 k):=by simp only[AV.keyV,hwf]
 have hall:(kE bl).all (keyFits Try.prog 3)=true:=by
  rw[List.all_map,List.all_eq_true]
  exact fun p _=>fits3 p.1
 have fnd:=fun w=>jT (P:=Try.prog) (w:=w) (fits3 k) hkv hall E
 obtain⟨E1,E2,E3,E4,E5,E6⟩:=E
 have hsz:es.size=bl.length:=by simpa[kE] using E3.symm
 have hzero:∀ w,(zeroValue 24).run Try.prog w=.ok (.slice none 0 0) w:=Try.zeroValue24
 have kept:∀ {w2:World} {row:Option Nat},w.grownBy w2 row→∀ (j:Nat) p e,bl[j]? = some p→es[j]? = some e→(e.val.ownBlock=none∨e.val.ownBlock≠row)→∀ es' clock',(setBlock w2 gm (.map es' clock')).ownsRow base 3 1 e.val p.2.length (intsV p.2):=by
  intro w2 row hg j p e hp he hne es' clock';have h6:=World.ownsRow.kept (h3 j p e hp he).2 hg hne;obtain⟨q1,q2⟩:=h6;refine⟨q1,?_⟩
  rcases q2 with hn | ⟨g,cap,cur,hv,hb,hgg,rest⟩
  ·exact .inl hn
  ·exact .inr ⟨g,cap,cur,hv,hb,by rw[jw (by omega)];exact hgg,rest⟩
 have keptN:∀ {w2:World} {vv:Value} {n:Nat} {xs:List Value},w2.ownsRow base 3 1 vv n xs→∀ es' clock',(setBlock w2 gm (.map es' clock')).ownsRow base 3 1 vv n xs:=by
  intro w2 vv n xs h6 es' clock';obtain⟨q1,q2⟩:=h6;refine⟨q1,?_⟩
  rcases q2 with hn | ⟨g,cap,cur,hv,hb,hgg,rest⟩
  ·exact .inl hn
  ·exact .inr ⟨g,cap,cur,hv,hb,by rw[jw (by omega)];exact hgg,rest⟩
 have hlt:∀ (j:Nat) e g,es[j]? = some e→e.val.ownBlock=some g→g<w.heap.size∧gm≠g:=by
  intro j e g he hg
  have hj:j<bl.length:=by rw[← hsz];exact (Array.getElem?_eq_some_iff.1 he).1
  have:=(h3 j _ e (A9 hj) he).2.lt g hg;omega
 rcases VT k bl with ⟨j,l,a1,a2,a3,a4⟩ | ⟨a1,a2,a3⟩
 ·
  obtain⟨e0,he0⟩:∃ e0,es[j]? = some e0:=by
   have:j<es.size:=by rw[hsz];exact (List.getElem?_eq_some_iff.1 a2).1
   exact⟨_,B0 this⟩
  have hf:∀ w',(Instr.findKey 3 (.int .i64 k) es.toList).run Try.prog w'=.ok (some (j,e0.val)) w'∧e0.key=.int .i64 k:=fun w'=>by
   obtain⟨_,_,hfd⟩:=fnd w'
   rcases hfd with ⟨k1,_,_⟩ | ⟨j',e',k1,k2,k3,k4⟩
   ·rw[a1]at k1;cases k1
   ·rw[a1]at k1;cases k1
    have:es[j]? = some e':=by simpa using k3
    rw[this]at he0;cases he0;exact⟨k2,k4⟩
  have hrow:=h3 j _ e0 a2 he0;simp only[a3,a4];refine⟨e0.val,fun w' hb=>?_,hrow.2,fun x vv g w2 hg ho hvg hat=>⟨es.modify j (fun e'=>{ e' with key:=.int .i64 k,val:=vv }),clock,?_,⟨jq ((hg.block gm (lt_of_block h1) (fun e=>(hlt j e0 gm he0 e.symm).2 rfl)).trans h1),⟨B7 E1 _ _ (fun _ _=>rfl) (fun e' _ he'=>by rw[he0]at he';cases he';exact ((hf w).2).symm),by simpa using E2,by simp[kE,hsz],by simp[tE,hsz],fun i k' e' hk' he'=>?_,fun i v' e' hv' he'=>?_⟩,fun i p e' hp he'=>?_,fun i i' e f gg he hf' g1 g2=>?_,h5⟩⟩⟩
  ·obtain⟨hck,_,_⟩:=fnd w';have hj:es[j]? = some e0:=he0;simp[Instr.lookup,run_underlying ht',A0 hb,hck,(hf w').1,hj,A1]
  ·have hb2:w2.heap[gm]? = some (.map es clock):=(hg.block gm (lt_of_block h1) (fun e=>(hlt j e0 gm he0 e.symm).2 rfl)).trans h1;obtain⟨hck,hst,_⟩:=fnd w2;have f4:=(hf w2).2;simp[Instr.mapUpdate,run_underlying ht',A0 hb2,hck,(hf w2).1,he0,f4,hst,A6 _ hb2,A1,setBlock]
  ·rw[A3]at he';simp only[kE,A7,A8]at hk';obtain⟨p,hp,rfl⟩:=hk';rw[List.getElem?_set]at hp;split at he'
   ·rename_i hij;subst hij;rw[he0]at he';cases he';rw[if_pos rfl]at hp;split at hp
    ·cases hp;exact hkv
    ·cases hp
   ·rename_i hij;rw[if_neg hij]at hp;exact E5 i _ e' (by simp[kE,hp]) he'
  ·simp only[tE,A7,A8]at hv';obtain⟨_,_,rfl⟩:=hv';exact .top _
  ·rw[A3]at he';rw[List.getElem?_set]at hp;split at he'
   ·rename_i hij;subst hij;rw[he0]at he';cases he';rw[if_pos rfl]at hp;split at hp
    ·cases hp;refine⟨by simp,?_⟩;rw[Xv,List.length_append];exact keptN ho _ _
    ·cases hp
   ·rename_i hij;rw[if_neg hij]at hp;refine⟨(h3 i p e' hp he').1,kept hg i p e' hp he' ?_ _ _⟩
    cases hob:e'.val.ownBlock with
    | none=>exact .inl rfl
    | some b=>exact .inr fun e=>hij (h4 j i e0 e' b he0 he' e.symm hob)
  ·
   rw[A3]at he hf';split at he <;> split at hf'
   ·rename_i q1 q2;omega
   ·rename_i q1 q2;subst q1;rw[he0]at he;cases he;have g1':vv.ownBlock=some gg:=g1;rw[hvg]at g1';cases g1'
    rcases hat with h6 | h6
    ·exact absurd (h4 j i' e0 f _ he0 hf' h6 g2) q2
    ·have:=(hlt i' f _ hf' g2).1;omega
   ·rename_i q1 q2;subst q2;rw[he0]at hf';cases hf';have g2':vv.ownBlock=some gg:=g2;rw[hvg]at g2';cases g2'
    rcases hat with h6 | h6
    ·exact absurd (h4 j i e0 e _ he0 he h6 g1) q1
    ·have:=(hlt i e _ he g1).1;omega
   ·exact h4 i i' e f gg he hf' g1 g2
 ·
  have hf:∀ w',(Instr.findKey 3 (.int .i64 k) es.toList).run Try.prog w'=.ok none w'∧(∀ e∈es.toList,e.key≠.int .i64 k):=fun w'=>by
   obtain⟨_,_,hfd⟩:=fnd w'
   rcases hfd with ⟨k1,k2,k3⟩ | ⟨j',e',k1,k2,k3,k4⟩
   ·exact⟨k2,k3⟩
   ·rw[a1]at k1;cases k1
  simp only[a2,a3];refine⟨.slice none 0 0,fun w' hb=>?_,World.ownsRow_nil _ _ _ _,fun x vv g w2 hg ho hvg hat=>⟨es.push ⟨.int .i64 k,vv,clock⟩,clock+1,?_,⟨jq ((hg.block gm (lt_of_block h1) (fun e=>by cases e)).trans h1),⟨B6 E1 (hf w).2,by simp[maxLen];omega,by simp[kE,hsz],by simp[tE,hsz],fun i k' e' hk' he'=>?_,fun i v' e' hv' he'=>?_⟩,fun i p e' hp he'=>?_,fun i i' e f gg he hf' g1 g2=>?_,h5⟩⟩⟩
  ·obtain⟨hck,_,_⟩:=fnd w';simp[Instr.lookup,run_underlying ht',A0 hb,hck,(hf w').1,hzero,A1]
  ·have hb2:w2.heap[gm]? = some (.map es clock):=(hg.block gm (lt_of_block h1) (fun e=>by cases e)).trans h1;obtain⟨hck,hst,_⟩:=fnd w2;simp[Instr.mapUpdate,run_underlying ht',A0 hb2,hck,(hf w2).1,A6 _ hb2,A1,setBlock]
  ·rw[A2]at he';simp only[kE,A7,A8]at hk';obtain⟨p,hp,rfl⟩:=hk';split at he'
   ·rename_i hi;cases he';rw[hi,hsz,A4]at hp;cases hp;exact hkv
   ·have hi:=(Array.getElem?_eq_some_iff.1 he').1;rw[A5 (by omega)]at hp;exact E5 i _ e' (by simp[kE,hp]) he'
  ·simp only[tE,A7,A8]at hv';obtain⟨_,_,rfl⟩:=hv';exact .top _
  ·rw[A2]at he';split at he'
   ·rename_i hi;cases he';rw[hi,hsz,A4]at hp;cases hp;refine⟨by simp,?_⟩;have:=keptN ho (es.push ⟨.int .i64 k,vv,clock⟩) (clock+1)
    simpa[intsV] using this
   ·have hi:=(Array.getElem?_eq_some_iff.1 he').1;rw[A5 (by omega)]at hp;exact⟨(h3 i p e' hp he').1,kept hg i p e' hp he' (by cases hob:e'.val.ownBlock with | none=>exact .inl rfl | some b=>exact .inr fun e=>by cases e) _ _⟩
  ·rw[A2]at he hf'
   have hnew:∀ (i:Nat) e',es[i]? = some e'→e'.val.ownBlock=some g→False:=fun i e' he' hg'=>by
    have:=(hlt i e' _ he' hg').1
    rcases hat with h6 | h6
    ·cases h6
    ·omega
   split at he <;> split at hf'
   ·omega
   ·cases he;have g1':vv.ownBlock=some gg:=g1;rw[hvg]at g1';cases g1';exact (hnew i' f hf' g2).elim
   ·cases hf';have g2':vv.ownBlock=some gg:=g2;rw[hvg]at g2';cases g2';exact (hnew i e he g1).elim
   ·exact h4 i i' e f gg he hf' g1 g2
def mtail (M:Mem) (B:Nat) (w:World):Mem:=fun b o=>if b<B then M b o else mc w b o
theorem UH {M:Mem} {B b o:Nat} {w:World} (h:b<B):mtail M B w b o=M b o:=by unfold mtail;rw[if_pos h]
theorem UI {M:Mem} {B b o:Nat} {w:World} (h:B≤b):mtail M B w b o=mc w b o:=by unfold mtail;rw[if_neg (by omega)]
theorem DB {M:Mem} {B:Nat} {w0 w:World} (hC:Cons M w0) (hB:Below B w0 w):Cons (mtail M B w) w:=fun b o u hu=>by
 unfold mtail at hu;split at hu
 ·rename_i h;have h1:=hC _ _ _ hu;rw[jY (hB.block b h)];exact h1
 ·exact hu
theorem qas {M:Mem} {B:Nat} {w0 w:World} (hC:Cons M w0) (hB:Below B w0 w) (hb:w0.heap.size≤B):Sub M (mtail M B w):=fun b o u hu=>by
 rw[UH (by have:=XC (hC _ _ _ hu);omega)];exact hu
theorem qbd {w:World} {b o:Nat} {t:TypeId} {fz:Nat×Nat} {cs:Array Value} {u:Value} (h:w.heap[b]? = some (.cells cs t fz)) (hu:cs[o]? = some u) (ht:isTup u=false):mc w b o=some u:=by
 unfold mc;rw[h];exact jk hu ht
theorem qaw {M:Mem} {e k:Nat} {xs:List AV} {v:Value} (h:R M (.lst e k none xs) v):∃ a cap,v=.slice a xs.length cap∧∀ i x,xs[i]? = some x→∃ b off,a=some ⟨b,off,none⟩∧∀ j c,x.cells[j]? = some c→∃ u,M b (off+(i * k+j))=some u∧R M c u:=by
 cases h with
 | lstn=>exact⟨none,0,rfl,fun i x hx=>by simp at hx⟩
 | lste _ _ _ ad cap=>exact⟨some ad,cap,rfl,fun i x hx=>by simp at hx⟩
 | lst us h1 h2 h5 h3 h4 =>
  rename_i b off cap;refine⟨some ⟨b,off,none⟩,cap,rfl,fun i x hx=>⟨b,off,rfl,fun j c hc=>?_⟩⟩;have hk:=h2 x (List.mem_of_getElem? hx)
  have hj:j<k:=by rw[← hk];exact (List.getElem?_eq_some_iff.1 hc).1
  have hf:=(JM h2 hx j hj).trans hc;exact⟨us (i * k+j),h3 _ _ hf,h4 _ _ hf⟩
theorem qba {M:Mem} {l:List hsOp} {v:Value} (h:R M (l44 none l) v):∃ a cap,v=.slice a l.length cap∧∀ i x,l[i]? = some x→∃ b off,a=some ⟨b,off,none⟩∧M b (off+i * 3)=some (.int .i64 x.qb)∧M b (off+i * 3+1)=some (.int .i64 x.qh)∧M b (off+i * 3+2)=some (.int .i64 x.qi):=by
 obtain⟨a,cap,rfl,hc⟩:=qaw h;refine⟨a,cap,by rw[List.length_map],fun i x hx=>?_⟩;obtain⟨b,off,rfl,hcell⟩:=hc i (qN x) (by simp[hx]);obtain⟨u0,h0,r0⟩:=hcell 0 _ rfl;obtain⟨u1,h1,r1⟩:=hcell 1 _ rfl;obtain⟨u2,h2,r2⟩:=hcell 2 _ rfl;cases r0;cases r1;cases r2;exact⟨b,off,rfl,h0,h1,h2⟩
theorem Xp {w:World} {b j:Nat} {cs:Array Value} {t:TypeId} (u:Value) (h:w.heap[b]? = some (.cells cs t (0,0))):(w.setCell ⟨b,j,none⟩ u).heap[b]? = some (.cells (cs.setIfInBounds j u) t (0,0)):=by
 have hlt:=lt_of_block h
 have h':w.heap[b]=.cells cs t (0,0):=by simpa[B0 hlt] using h
 show (w.heap.modify b _)[b]? = _;rw[B0 (by simpa using hlt),Array.getElem_modify_self,h'];rfl
theorem Qb {w:World} {b j k:Nat} {u:Value} (h:k≠b):(w.setCell ⟨b,j,none⟩ u).heap[k]? = w.heap[k]?:=Below.heap_setCell w ⟨b,j,none⟩ u k h
theorem Xo {w:World} {a:Addr} {u:Value}:(w.setCell a u).heap.size=w.heap.size:=by simp[World.setCell]
end Go.Proofs
namespace Go.AM
structure LS where
 sh:Nat→Int→Bool
 ex:Nat→Int
 done:List hsOp
 ab:List Int
 wt:Int→List (hsOp×Int)
def LS.zero:LS:=⟨fun _ _=>false,fun _=>0,[],[],fun _=>[]⟩
def hindP (s:LS) (o:hsOp) (x:Int):Prop:=(s.ex o.qi.toNat=x∧x≠0∧x≠o.qb)∨(o.qh=1∧x≠o.qb∧s.sh o.qi.toNat x=true)
def takeL (s:LS) (o:hsOp):LS :=
 if o.qh=1 then { s with ex:=fun j=>if j=o.qi.toNat then o.qb else s.ex j }
 else { s with sh:=fun j y=>if j=o.qi.toNat∧y=o.qb then true else s.sh j y }
def relL (s:LS) (t:Int):LS:={ s with sh:=fun j y=>if y=t then false else s.sh j y,ex:=fun j=>if s.ex j=t then 0 else s.ex j }
def putW (s:LS) (t:Int) (l:List (hsOp×Int)):LS:={ s with wt:=fun x=>if x=t then l else s.wt x }
def doL (s:LS) (t:Int) (o:hsOp) (rest:List (hsOp×Int)):LS :=
 putW { (if o.qh≤1 then takeL s o else relL s t) with done:=s.done++[o] } t rest
def abortL (s:LS) (t:Int):LS:=relL (putW { s with done:=s.done++[⟨t,3,0⟩],ab:=s.ab++[t] } t []) t
def Stuck (s:LS) (o:hsOp):Prop:=o.qh≤1∧∃ x,hindP s o x
def EdgeL (s:LS) (x y:Int):Prop:=∃ p rest,s.wt x=p::rest∧hindP s p.1 y
inductive ReachL (s:LS):Int→Int→Prop where
 | one {x y}:EdgeL s x y→ReachL s x y
 | more {x y z}:ReachL s x y→EdgeL s y z→ReachL s x z
open Classical in
noncomputable def goOnL:Nat→LS→Int→Bool→Option (LS×Bool)
 | 0,_,_,_=>none
 | n+1,s,t,rel=>match s.wt t with
  | []=>some (s,rel)
  | p::rest=>if Stuck s p.1 then (if ReachL s t t then some (abortL s t,true) else some (s,rel)) else goOnL n (doL s t p.1 rest) t (rel || decide (1<p.1.qh))
def CanL (s:LS) (t:Int):Prop:=∃ p rest,s.wt t=p::rest∧¬ Stuck s p.1
def atL (s:LS) (t:Int):Int:=match s.wt t with
 | []=>0
 | p::_=>p.2
def BestL (s:LS) (b:Int):Prop:=(b=0∧∀ t,¬ CanL s t)∨(b≠0∧CanL s b∧∀ t,CanL s t→atL s b≤atL s t)
open Classical in
noncomputable def bestL (s:LS):Int:=if h:∃ b,BestL s b then h.choose else 0
noncomputable def retryL (m:Nat):Nat→LS→Option LS
 | 0,_=>none
 | n+1,s=>if bestL s=0 then some s else (goOnL m s (bestL s) false).bind fun r=>retryL m n r.1
open Classical in
noncomputable def stepL (m:Nat) (s:LS) (o:hsOp) (i:Int):Option LS :=
 if o.qb∈s.ab then some s else
 if s.wt o.qb≠[] then some (putW s o.qb (s.wt o.qb++[(o,i)])) else
 (goOnL m (putW s o.qb [(o,i)]) o.qb false).bind fun r=>if r.2=true then retryL m m r.1 else some r.1
noncomputable def runL (m:Nat):LS→Int→List hsOp→Option LS
 | s,_,[]=>some s
 | s,i,o::l=>(stepL m s o i).bind fun s'=>runL m s' (i+1) l
def OkOp (o:hsOp):Prop:=1≤o.qb∧o.qb≤6∧0≤o.qh∧o.qh≤3∧0≤o.qi∧o.qi≤5
def wtot (s:LS):Nat:=(s.wt 1).length+(s.wt 2).length+(s.wt 3).length+(s.wt 4).length+(s.wt 5).length+(s.wt 6).length
structure OkS (N:Nat) (s:LS):Prop where
 tot:s.done.length+wtot s≤N
 abl:s.ab.length≤s.done.length
 sh:∀ i x,s.sh i x=true→1≤x∧x≤6
 ex:∀ i,0≤s.ex i∧s.ex i≤6
 wtk:∀ t,s.wt t≠[]→1≤t∧t≤6
 wto:∀ t p,p∈s.wt t→OkOp p.1∧p.1.qb=t∧0≤p.2∧p.2<1000000
 one:∀ t u p q,p∈s.wt t→q∈s.wt u→p.2=q.2→t=u
theorem YP {s:LS} {t:Int} (h1:1≤t) (h2:t≤6):∃ k,wtot s=(s.wt t).length+k∧∀ l,wtot (putW s t l)=l.length+k:=by
 have:t=1∨t=2∨t=3∨t=4∨t=5∨t=6:=by omega
 rcases this with rfl | rfl | rfl | rfl | rfl | rfl
 ·exact⟨(s.wt 2).length+(s.wt 3).length+(s.wt 4).length+(s.wt 5).length+(s.wt 6).length,by unfold wtot;omega,fun l=>by simp[wtot,putW];omega⟩
 ·exact⟨(s.wt 1).length+(s.wt 3).length+(s.wt 4).length+(s.wt 5).length+(s.wt 6).length,by unfold wtot;omega,fun l=>by simp[wtot,putW];omega⟩
 ·exact⟨(s.wt 2).length+(s.wt 1).length+(s.wt 4).length+(s.wt 5).length+(s.wt 6).length,by unfold wtot;omega,fun l=>by simp[wtot,putW];omega⟩
 ·exact⟨(s.wt 2).length+(s.wt 3).length+(s.wt 1).length+(s.wt 5).length+(s.wt 6).length,by unfold wtot;omega,fun l=>by simp[wtot,putW];omega⟩
 ·exact⟨(s.wt 2).length+(s.wt 3).length+(s.wt 4).length+(s.wt 1).length+(s.wt 6).length,by unfold wtot;omega,fun l=>by simp[wtot,putW];omega⟩
 ·exact⟨(s.wt 2).length+(s.wt 3).length+(s.wt 4).length+(s.wt 5).length+(s.wt 1).length,by unfold wtot;omega,fun l=>by simp[wtot,putW];omega⟩
theorem OkS.wlen {N:Nat} {s:LS} (h:OkS N s) (t:Int):(s.wt t).length≤N:=by
 by_cases hn:s.wt t=[]
 ·simp[hn]
 ·obtain⟨h1,h2⟩:=h.wtk t hn;obtain⟨k,e,_⟩:=YP (s:=s) h1 h2;have:=h.tot;omega
theorem OkS.hind {N:Nat} {s:LS} (h:OkS N s) {o:hsOp} {x:Int} (hx:hindP s o x):1≤x∧x≤6:=by
 rcases hx with ⟨h1,h2,_⟩ | ⟨_,_,h3⟩
 ·have:=h.ex o.qi.toNat;omega
 ·exact h.sh _ _ h3
theorem OkS.doL {N:Nat} {s:LS} (h:OkS N s) {t:Int} {p:hsOp×Int} {rest:List (hsOp×Int)} (hw:s.wt t=p::rest):OkS N (doL s t p.1 rest):=by
 have hk:=h.wtk t (by rw[hw];simp);have hp:=h.wto t p (by rw[hw];exact .head _);obtain⟨k,e1,e2⟩:=YP (s:=s) hk.1 hk.2;obtain⟨⟨o1,o2,o3,o4,o5,o6⟩,ot,oa,ob⟩:=hp
 have hsub:∀ x q,q∈(Go.AM.doL s t p.1 rest).wt x→q∈s.wt x:=by
  intro x q hq
  have hq2:q∈if x=t then rest else s.wt x:=by
   unfold Go.AM.doL at hq;split at hq
   ·unfold takeL at hq;split at hq <;> exact hq
   ·exact hq
  clear hq;split at hq2
  ·rename_i hx;rw[hx,hw];exact .tail _ hq2
  ·exact hq2
 have ht2:wtot (Go.AM.doL s t p.1 rest)=rest.length+k:=by
  rw[← e2 rest];unfold Go.AM.doL wtot putW;split
  ·unfold takeL;split <;> rfl
  ·rfl
 have hd:(Go.AM.doL s t p.1 rest).done=s.done++[p.1]:=rfl
 have hab:(Go.AM.doL s t p.1 rest).ab=s.ab:=by
  unfold Go.AM.doL putW;split
  ·unfold takeL;split <;> rfl
  ·rfl
 refine⟨?_,?_,?_,?_,?_,?_,?_⟩
 ·rw[ht2,hd];have:=h.tot;rw[e1,hw]at this;simp at this ⊢;omega
 ·rw[hab,hd];have:=h.abl;simp;omega
 ·intro i x hx;unfold Go.AM.doL at hx;split at hx
  ·unfold takeL at hx;split at hx
   ·exact h.sh i x hx
   ·have hx:(if i=p.1.qi.toNat∧x=p.1.qb then true else s.sh i x)=true:=hx;split at hx
    ·rename_i e;omega
    ·exact h.sh i x hx
  ·have hx:(if x=t then false else s.sh i x)=true:=hx;split at hx
   ·cases hx
   ·exact h.sh i x hx
 ·intro i;have h0:=h.ex i;unfold Go.AM.doL;split
  ·unfold takeL;split
   ·show 0≤(if i=p.1.qi.toNat then p.1.qb else s.ex i)∧(if i=p.1.qi.toNat then p.1.qb else s.ex i)≤6;split <;> omega
   ·exact h0
  ·show 0≤(if s.ex i=t then 0 else s.ex i)∧(if s.ex i=t then 0 else s.ex i)≤6;split <;> omega
 ·intro x hx;obtain⟨q,hq⟩:=B9 _ hx;exact h.wtk x (List.ne_nil_of_mem (hsub x q hq))
 ·intro x q hq;exact h.wto x q (hsub x q hq)
 ·intro x u q r hq hr he;exact h.one x u q r (hsub x q hq) (hsub u r hr) he
theorem OkS.abortL {N:Nat} {s:LS} (h:OkS N s) {t:Int} {p:hsOp×Int} {rest:List (hsOp×Int)} (hw:s.wt t=p::rest):OkS N (abortL s t):=by
 have hk:=h.wtk t (by rw[hw];simp);obtain⟨k,e1,e2⟩:=YP (s:=s) hk.1 hk.2
 have hsub:∀ x q,q∈(Go.AM.abortL s t).wt x→q∈s.wt x:=by
  intro x q hq
  have hq:q∈if x=t then [] else s.wt x:=hq
  split at hq
  ·cases hq
  ·exact hq
 have ht2:wtot (Go.AM.abortL s t)=0+k:=by
  rw[← show ([]:List (hsOp×Int)).length=0 from rfl,← e2 []];rfl
 have hd:(Go.AM.abortL s t).done=s.done++[⟨t,3,0⟩]:=rfl;have hab:(Go.AM.abortL s t).ab=s.ab++[t]:=rfl;refine⟨?_,?_,?_,?_,?_,?_,?_⟩
 ·rw[ht2,hd];have:=h.tot;rw[e1,hw]at this;simp at this ⊢;omega
 ·rw[hab,hd];have:=h.abl;simp;omega
 ·intro i x hx;have hx:(if x=t then false else s.sh i x)=true:=hx;split at hx
  ·cases hx
  ·exact h.sh i x hx
 ·intro i;have h0:=h.ex i;show 0≤(if s.ex i=t then 0 else s.ex i)∧(if s.ex i=t then 0 else s.ex i)≤6;split <;> omega
 ·intro x hx;obtain⟨q,hq⟩:=B9 _ hx;exact h.wtk x (List.ne_nil_of_mem (hsub x q hq))
 ·intro x q hq;exact h.wto x q (hsub x q hq)
 ·intro x u q r hq hr he;exact h.one x u q r (hsub x q hq) (hsub u r hr) he
theorem OkS.goOn {N:Nat}:∀ (n:Nat) (s:LS) (t:Int) (rel:Bool) (r:LS×Bool),OkS N s→goOnL n s t rel=some r→OkS N r.1
 | 0,_,_,_,_,_,e=>by cases e
 | n+1,s,t,rel,r,h,e=>by
  unfold goOnL at e
  cases hw:s.wt t with
  | nil=>rw[hw]at e;cases e;exact h
  | cons p rest =>
   rw[hw]at e;simp only at e;split at e
   ·split at e
    ·cases e;exact h.abortL hw
    ·cases e;exact h
   ·exact OkS.goOn n _ _ _ _ (h.doL hw) e
theorem BestL.unique {N:Nat} {s:LS} (h:OkS N s) {a b:Int} (ha:BestL s a) (hb:BestL s b):a=b:=by
 rcases ha with ⟨rfl,h1⟩ | ⟨h0,⟨p,r,e1,e2⟩,h1⟩
 ·rcases hb with ⟨rfl,_⟩ | ⟨_,hc,_⟩
  ·rfl
  ·exact absurd hc (h1 b)
 ·rcases hb with ⟨rfl,h2⟩ | ⟨_,⟨q,u,e3,e4⟩,h2⟩
  ·exact absurd ⟨p,r,e1,e2⟩ (h2 a)
  ·have q1:=h1 b ⟨q,u,e3,e4⟩;have q2:=h2 a ⟨p,r,e1,e2⟩
   have w1:atL s a=p.2:=by unfold atL;rw[e1]
   have w2:atL s b=q.2:=by unfold atL;rw[e3]
   refine h.one a b p q (by rw[e1];exact .head _) (by rw[e3];exact .head _) (by omega)
theorem qbr {N:Nat} {s:LS} (h:OkS N s) {b:Int} (hb:BestL s b):bestL s=b:=by
 unfold bestL;rw[dif_pos ⟨b,hb⟩];exact BestL.unique h (Exists.choose_spec (p:=fun b=>BestL s b) ⟨b,hb⟩) hb
end Go.AM
