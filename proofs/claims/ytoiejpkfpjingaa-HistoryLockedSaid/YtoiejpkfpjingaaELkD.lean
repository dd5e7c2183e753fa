import Derived.Test.YtoiejpkfpjingaaHA1
import Derived.Test.YtoiejpkfpjingaaKAT
import Derived.WalkKit
import Derived.BigCall
import Derived.Deep.RegionHeld3
import Derived.Deep.RegionHeldLaw
import Derived.Deep.AppendLies
import Derived.Deep.OwnRows
import Derived.OneCell
import Derived.Laws.Rows
import Derived.Test.YtoiejpkfpjingaaASimK
import Derived.Maps.RangeRun
set_option linter.all false
set_option maxRecDepth 100000
open Prod renaming fst→A0
open Go.Result renaming andThen→A1
open Go.MapKept renaming run_getObj_map→A2, run_setObj_map→A5, stamped_push→D1, stamped_modify→D2, stamped_iff→F3
open List renaming getElem?_map→A3, map_cons→A4, getElem?_concat_length→B6, getElem?_append_left→B7, getElem?_eq_getElem→C2, length_eraseIdx→C5, getElem?_eraseIdx→C6, getElem?_set→C7, append_assoc→C9, mem_cons→D0, length_append→D4, mem_of_getElem?→D5, length_map→D6, eq_nil_of_length_eq_zero→D9, nodup_cons→E8, nodup_append→E9, getD_eq_getElem?_getD→F0, exists_mem_of_ne_nil→F4
open Option renaming map_eq_some_iff→A6
open Array renaming getElem?_push→A7, getElem?_modify→A8, length_toList→B5, getElem?_eq_getElem→B9, getElem?_toList→C0
open Nat renaming le_refl→A9, add_mul→B0, le_trans→C4, lt_of_lt_of_le→C8, eq_zero_or_pos→D7, le_of_eq→D8, zero_add→E0
open Go.World renaming setCell→D3
open Go.Region renaming wanted→E7
namespace Go.AM
open Go.RowKit Go.Proofs
theorem glob0 (M:Mem):Glob M:=fun g hg=>by cases hg
theorem Cons.below {M:Mem} {w w':World} (h:Cons M w) (hB:Below w.heap.size w w'):Cons M w':=Hl h hB
theorem Cons.of_blocks {M:Mem} {w w':World} (h:Cons M w) (hb:∀ b o u,M b o=some u→b<w.heap.size→w'.heap[b]? = w.heap[b]?):Cons M w':=fun b o u hu=>by
 have h1:=h b o u hu;rw[Qm (hb b o u hu (Zh h1))];exact h1
theorem Cons.alloc {M:Mem} {w:World} (h:Cons M w) (o:Obj):Cons M (w.alloc o):=h.of_blocks fun b _ _ _ hb=>heap_alloc_old w o hb
theorem Cons.setCell {M:Mem} {w:World} (h:Cons M w) {a:Addr} (ha:∀ o,M a.block o=none) (v:Value):Cons M (w.setCell a v) :=
 h.of_blocks fun b o u hu hb=>Below.heap_setCell w a v b fun e=>by rw[e,ha]at hu;cases hu
theorem qdM (l:List Int):flat (cL l)=cL l:=Vt l .i64
theorem qcZ {M:Mem} {c:List Int} {g off cap:Nat} (hcap:c.length≤cap) (hM:∀ j (hj:j<c.length),M g (off+j)=some (.int .i64 c[j])):R M (.lst 3 1 none (cL c)) (.slice (some ⟨g,off,none⟩) c.length cap):=by
 have hl:(cL c).length=c.length:=by simp[cL]
 have hf:∀ (j:Nat) x,(flat (cL c))[j]? = some x→∃ h:j<c.length,x=.int .i64 c[j]:=by
  intro j x hx;rw[qdM]at hx;have hj:=(List.getElem?_eq_some_iff.1 hx).1;rw[hl]at hj;refine⟨hj,?_⟩
  simpa[cL,hj] using hx.symm
 rw[← hl];refine .lst (fun j=>.int .i64 (c.getD j 0)) (by rw[hl];exact hcap) (fun x hx=>?_) (fun x hx=>?_) (fun j x hx=>?_) (fun j x hx=>?_)
 ·obtain⟨z,_,rfl⟩:=List.mem_map.1 hx;rfl
 ·obtain⟨z,_,rfl⟩:=List.mem_map.1 hx;rfl
 ·obtain⟨hj,rfl⟩:=hf j x hx;rw[hM j hj,F0,C2 hj];rfl
 ·obtain⟨hj,rfl⟩:=hf j x hx;rw[F0,C2 hj];exact .int _ _
abbrev intsV (l:List Int):List Value:=l.map (Value.int .i64)
theorem qel {f:Nat} {args:List AV} {r:AV} (h:Run Try.prog (.call f args r)):CallOk Try.prog f args r:=ZJ mixedP h
theorem qaJ {w w':World} (h:Below w.heap.size w w'):w.grownBy w' none:=⟨h.os,h.tape,h.output,h.size,fun k hk _=>h.block k hk⟩
end Go.AM
namespace Go.AM
open Go.RowKit Go.Proofs
open Go.ChangeMaps (setBlock)
variable {K V:Type} {F:K→AV} {G:V→AV} {eq:K→K→Bool}
def MapAt (M:Mem) (w:World) (g:Nat) (F:K→AV) (G:V→AV) (l:List (K×V)):Prop :=
 ∃ es clock,w.heap[g]? = some (.map es clock)∧EntOk M es clock (l.map fun p=>F p.1) (l.map fun p=>G p.2)
theorem MapAt.mono {M M':Mem} {w:World} {g:Nat} {l:List (K×V)} (h:MapAt M w g F G l) (hs:Sub M M'):MapAt M' w g F G l:=by
 obtain⟨es,clock,h1,h2⟩:=h;exact⟨es,clock,h1,h2.mono hs⟩
theorem MapAt.of {M:Mem} {w w':World} {g:Nat} {l:List (K×V)} (h:MapAt M w g F G l) (hb:w'.heap[g]? = w.heap[g]?):MapAt M w' g F G l:=by
 obtain⟨es,clock,h1,h2⟩:=h;exact⟨es,clock,hb.trans h1,h2⟩
theorem MapAt.lt {M:Mem} {w:World} {g:Nat} {l:List (K×V)} (h:MapAt M w g F G l):g<w.heap.size:=by
 obtain⟨es,clock,h1,_⟩:=h;exact (Array.getElem?_eq_some_iff.1 h1).1
theorem MapAt.empty {M:Mem} {w:World} {g:Nat} (h:w.heap[g]? = some (.map #[] 0)):MapAt M w g F G []:=⟨#[],0,h,(F3 _ _).2 ⟨by simp,by simp,by simp⟩,Nat.zero_le _,rfl,rfl,fun j k e hk=>by simp at hk,fun j k e hk=>by simp at hk⟩
theorem Try.lookup_own {M:Mem} {w:World} {t kt e:TypeId} {g:Nat} {l:List (K×V)} (h:MapAt M w g F G l) (ht:Qc Try.prog t=some (kt,e)) (hf:∀ x,keyFits Try.prog kt (F x)=true) (he:∀ x y,akeq (F x) (F y)=eq x y) {z:V} (hz:zeroA1 Try.prog e=some (G z)) {k:K} {kv:Value} (hkv:(F k).keyV=some kv) :
  ∃ v,(Instr.lookup t (.map (some g)) kv false).run Try.prog w=.ok v w∧R M (G (mget eq z k l)) v:=by
 obtain⟨es,clock,hb,E⟩:=h;have ht':=Jz ht;obtain⟨hck,hst,hfd⟩:=Qh (w:=w) (hf k) hkv (Zy hf l) E;obtain⟨h2,h3,h4,h5,h6,h7⟩:=E
 rcases hfd with ⟨k1,k2,k3⟩ | ⟨j,e0,k1,k2,k3,k4⟩
 ·rcases ZR (G:=G) he z k l with ⟨j,g1,g2⟩ | ⟨g1,g2⟩
  ·rw[k1]at g1;cases g1
  ·obtain⟨v,z1,z2⟩:=YJ (M:=M) (O:=⟨fun _ _=>none,fun _=>0,fun _=>0⟩) (w:=w) hz;rw[g2];refine⟨v,?_,z2⟩;simp[Instr.lookup,run_underlying ht',A2 hb,hck,k2,z1,A1]
 ·rcases ZR (G:=G) he z k l with ⟨i,g1,g2⟩ | ⟨g1,g2⟩
  ·rw[k1]at g1;cases g1;refine⟨e0.val,?_,h7 j _ e0 g2 (by simpa using k3)⟩;simp[Instr.lookup,run_underlying ht',A2 hb,hck,k2,A1]
  ·rw[k1]at g1;cases g1
theorem Try.update_own {M:Mem} {es:Array MapEntry} {clock:Nat} {t kt e:TypeId} {l:List (K×V)} (E:EntOk M es clock (l.map fun p=>F p.1) (l.map fun p=>G p.2)) (ht:Qc Try.prog t=some (kt,e)) (hf:∀ x,keyFits Try.prog kt (F x)=true) (he:∀ x y,akeq (F x) (F y)=eq x y) {k:K} {v:V} {kv vv:Value} (hkv:(F k).keyV=some kv) (hvv:R M (G v) vv) (hl:l.length<1000000000) :
  ∃ es' clock',EntOk M es' clock' ((mset eq k v l).map fun p=>F p.1) ((mset eq k v l).map fun p=>G p.2)∧∀ (w:World) (g:Nat),w.heap[g]? = some (.map es clock)→(Instr.mapUpdate t (.map (some g)) kv vv).run Try.prog w=.ok () (setBlock w g (.map es' clock')):=by
 have ht':=Jz ht
 have fnd:=fun w=>Qh (P:=Try.prog) (w:=w) (hf k) hkv (Zy hf l) E
 obtain⟨E1,E2,E3,E4,E5,E6⟩:=E;have w0:World:=(default:World);obtain⟨_,_,hfd⟩:=fnd w0
 rcases hfd with ⟨f1,_,f3⟩ | ⟨j,e0,f1,_,f3,f4⟩
 ·rcases ZQ (G:=G) he k v l with ⟨i,g1,_⟩ | ⟨g1,g2,g3⟩
  ·rw[f1]at g1;cases g1
  ·rw[g2,g3];refine⟨es.push ⟨kv,vv,clock⟩,clock+1,⟨D1 E1 f3,by simp[maxLen];simp at E3;omega,by simp at E3 ⊢;exact E3,by simp at E4 ⊢;exact E4,fun j k' e' hk' he'=>?_,fun j v' e' hv' he'=>?_⟩,fun w g hb=>?_⟩
   ·rw[A7]at he';split at he'
    ·rename_i hj;cases he';rw[hj,← E3]at hk';simp only[B6,Option.some.injEq]at hk';subst hk';exact hkv
    ·rename_i hj
     have hjl:j<(l.map fun p=>F p.1).length:=by
      have:=(Array.getElem?_eq_some_iff.1 he').1;omega
     rw[B7 hjl]at hk';exact E5 j k' e' hk' he'
   ·rw[A7]at he';split at he'
    ·rename_i hj;cases he';rw[hj,← E4]at hv';simp only[B6,Option.some.injEq]at hv';subst hv';exact hvv
    ·rename_i hj
     have hjl:j<(l.map fun p=>G p.2).length:=by
      have:=(Array.getElem?_eq_some_iff.1 he').1;omega
     rw[B7 hjl]at hv';exact E6 j v' e' hv' he'
   ·obtain⟨hck,hst,hfd⟩:=fnd w
    rcases hfd with ⟨_,f2,_⟩ | ⟨j,e0,q1,_⟩
    ·simp[Instr.mapUpdate,run_underlying ht',A2 hb,hck,f2,A5 _ hb,A1,setBlock]
    ·rw[f1]at q1;cases q1
 ·rcases ZQ (G:=G) he k v l with ⟨i,g1,g2,g3⟩ | ⟨g1,_⟩
  ·rw[f1]at g1;cases g1;rw[g2,g3]
   have hj:es[j]? = some e0:=by simpa using f3
   have hjs:j<es.size:=(Array.getElem?_eq_some_iff.1 hj).1
   have hkeyf:∀ e',es[j]? = some e'→({ e' with key:=kv,val:=vv }:MapEntry).key=e'.key:=fun e' he'=>by rw[hj]at he';cases he';exact f4.symm
   refine⟨es.modify j (fun e'=>{ e' with key:=kv,val:=vv }),clock,⟨D2 E1 _ _ (fun _ _=>rfl) (fun e' _ he'=>hkeyf e' he'),by simpa using E2,by simpa using E3,by simpa using E4,fun i k' e' hk' he'=>?_,fun i v' e' hv' he'=>?_⟩,fun w g hb=>?_⟩
   ·rw[A8]at he';split at he'
    ·rename_i hij;subst hij;rw[hj]at he';cases he';show k'.keyV=some kv;rw[← f4];exact E5 j k' e0 hk' hj
    ·exact E5 i k' e' hk' he'
   ·rw[A8]at he';split at he'
    ·rename_i hij;subst hij;rw[hj]at he';cases he';rw[List.getElem?_set_self (by omega)]at hv';cases hv';exact hvv
    ·rename_i hij;rw[List.getElem?_set_ne hij]at hv';exact E6 i v' e' hv' he'
   ·obtain⟨hck,hst,hfd⟩:=fnd w
    rcases hfd with ⟨q1,_⟩ | ⟨j',e',q1,f2,q3,q4⟩
    ·rw[f1]at q1;cases q1
    ·rw[f1]at q1;cases q1;simp[Instr.mapUpdate,run_underlying ht',A2 hb,hck,f2,hj,f4,hst,A5 _ hb,A1,setBlock]
  ·rw[f1]at g1;cases g1
theorem Jx {w:World} {g:Nat} {o o':Obj} (h:w.heap[g]? = some o):(setBlock w g o').heap[g]? = some o':=by
 have:=(Array.getElem?_eq_some_iff.1 h).1;unfold setBlock;simp[this]
theorem JF {w:World} {g k:Nat} {o':Obj} (h:k≠g):(setBlock w g o').heap[k]? = w.heap[k]?:=by
 unfold setBlock;simp[Array.getElem?_setIfInBounds,Ne.symm h]
theorem Qq {w:World} {g:Nat} {o':Obj}:(setBlock w g o').heap.size=w.heap.size:=by
 unfold setBlock;simp
def qea (M:Mem) (w:World) (r:AV) (e:Ending) (w':World):Prop:=∃ v M',e=.returned v∧Below w.heap.size w w'∧Sub M M'∧Cons M' w'∧(∀ b o,b<w.heap.size→M' b o=M b o)∧R M' r v∧OwnR M' w.heap.size w' r v
end Go.AM
namespace Go.AM
theorem UX (t:Int):∀ (l:List Int) (k:Nat),∃ r:Int,jW t Qk l k=some r∧(decide (r ≥ 0)=l.contains t)
 | [],k=>⟨-1,by rw[jW.eq_1];rfl,rfl⟩
 | x::l,k=>by
  obtain⟨r,h1,h2⟩:=UX t l (k+1);rw[jW.eq_2];by_cases h:t=x
  ·subst h;refine⟨(k:Int),by simp,?_⟩;simp
  ·refine⟨r,?_,?_⟩
   ·rw[beq_eq_false_iff_ne.2 h,cN,h1]
   ·rw[h2,List.contains_cons];simp[h]
theorem Ze {l:List Int} (hl:l.length≤100000) (t:Int):JN l t=some (l.contains t):=by
 unfold JN XJ;obtain⟨r,h1,h2⟩:=UX t l 0;have:lenOk l=true:=Nat.ble_eq_true_of_le (by omega);rw[this];simp only[chk,cond_true];rw[h1,← h2];rfl
end Go.AM
namespace Go.Proofs
open Go.RowKit Go.AM
theorem Try.infoInt:(Try.prog.info? 3).map (fun i=>(i.zero,i.size,i.bytes))=some (some (.int .i64 0),1,8):=by kernel_rfl
end Go.Proofs
namespace Go.Proofs
open Go.RowKit Go.AM
structure GP (base:Nat) (w:World) (bf:Nat) (vc:Value) (c:List Int) (w':World):Prop where
 os:w'.os=w.os
 tape:w'.tape=w.tape
 output:w'.output=w.output
 size:w.heap.size≤w'.heap.size
 block:∀ k,k<w.heap.size→k≠bf→some k≠vc.ownBlock→w'.heap[k]? = w.heap[k]?
 own:w'.ownsRow base 3 1 vc c.length (intsV c)
 box:∃ fv,w'.heap[bf]? = some (.cells #[fv] 24 (0,0))
theorem qdU {w:World} {base bf:Nat} {fv vc:Value} {c:List Int} (hb:w.heap[bf]? = some (.cells #[fv] 24 (0,0))) (ho:w.ownsRow base 3 1 vc c.length (intsV c)):some bf≠vc.ownBlock:=by
 rcases ho.2 with ⟨rfl,_⟩ | ⟨g,cap,cur,rfl,_,hg,_⟩
 ·intro e;cases e
 ·intro e;simp only[Value.ownBlock,Option.some.injEq]at e;subst e;rw[hb]at hg;simp at hg
section
variable {base:Nat} {w w1 w2:World} {bf:Nat} {vc:Value} {c:List Int}
theorem GP.refl {fv:Value} (ho:w.ownsRow base 3 1 vc c.length (intsV c)) (hb:w.heap[bf]? = some (.cells #[fv] 24 (0,0))):GP base w bf vc c w:=⟨rfl,rfl,rfl,A9 _,fun _ _ _ _=>rfl,ho,fv,hb⟩
theorem GP.below (h:GP base w bf vc c w1) (hB:Below w1.heap.size w1 w2):GP base w bf vc c w2:=by
 obtain⟨fv,hf⟩:=h.box;refine⟨hB.os.trans h.os,hB.tape.trans h.tape,hB.output.trans h.output,C4 h.size hB.size,fun k hk h1 h2=>?_,World.ownsRow.kept h.own (qaJ hB) ?_,fv,?_⟩
 ·have:=h.size;rw[hB.block k (by omega),h.block k hk h1 h2]
 ·cases vc.ownBlock with
  | none=>exact .inl rfl
  | some k=>exact .inr (by intro e;cases e)
 ·rw[hB.block bf (lt_of_block hf)];exact hf
theorem GP.alloc (h:GP base w bf vc c w1) (o:Obj):GP base w bf vc c (w1.alloc o):=h.below ((Below.refl _ _).alloc (A9 _) o)
theorem GP.drew (h:GP base w bf vc c w1):GP base w bf vc c w1.drew:=h.below ⟨rfl,rfl,rfl,A9 _,fun _ _=>rfl⟩
theorem GP.trans (h:GP base w bf vc c w1) (k:GP base w1 bf vc c w2):GP base w bf vc c w2 :=
 ⟨k.os.trans h.os,k.tape.trans h.tape,k.output.trans h.output,C4 h.size k.size,fun j hj h1 h2=>by
  have:=h.size
  rw[k.block j (by omega) h1 h2,h.block j hj h1 h2],k.own,k.box⟩
theorem GP.cons {M:Mem} (h:GP base w bf vc c w1) (hC:Cons M w) (hf:∀ o,M bf o=none) (hv:∀ g,vc.ownBlock=some g→∀ o,M g o=none):Cons M w1 :=
 hC.of_blocks fun b o u hu hb=>h.block b hb (fun e=>by rw[e,hf]at hu;cases hu) (fun e=>by rw[hv b e.symm]at hu;cases hu)
end
def growV (bf be bl bg:Nat):Value:=.func (.func 52) #[] #[.pointer (some ⟨bf,0,none⟩),.pointer (some ⟨be,0,none⟩),.pointer (some ⟨bl,0,none⟩),.pointer (some ⟨bg,0,none⟩)]
structure GE (M:Mem) (bf be bl bg:Nat) (E:Int→Int→Bool) (l:List Int):Prop where
 e:∃ mv,M be 0=some mv∧isTup mv=false∧∀ w,Cons M w→∀ a b,wfI .i64 a=true→wfI .i64 b=true→(Instr.lookup 67 mv (.agg #[.int .i64 a,.int .i64 b]) false).run Try.prog w=.ok (.bool (E a b)) w
 lv:∃ lv,M bl 0=some lv∧isTup lv=false∧R M (.lst 3 1 none (cL l)) lv
 g:M bg 0=some (growV bf be bl bg)
 f:∀ o,M bf o=none
 wf:∀ x,x∈l→wfI .i64 x=true
 len:l.length≤1000
end Go.Proofs
namespace Go.Proofs
open Go.RowKit Go.AM
end Go.Proofs
namespace Go.Proofs
open Go.RowKit Go.AM
theorem GP.store {base:Nat} {w w1:World} {bf:Nat} {vc:Value} {c:List Int} (h:GP base w bf vc c w1) (u:Value):GP base w bf vc c (w1.setCell ⟨bf,0,none⟩ u):=by
 obtain⟨fv,hf⟩:=h.box;refine⟨h.os,h.tape,h.output,by simpa[D3] using h.size,fun k hk h1 h2=>?_,ownsRow_setCell_other h.own (fun e=>qdU hf h.own e.symm) u,u,one_setCell hf⟩;rw[Below.heap_setCell _ _ _ _ h1,h.block k hk h1 h2]
end Go.Proofs
namespace Go.Proofs
open Go.RowKit Go.AM
open Go.ChangeMaps (setBlock)
theorem YY (l m:List Int):intsV (l++m)=intsV l++intsV m:=by simp[intsV]
abbrev kE (bl:List (Int×List Int)):List AV:=bl.map fun p=>AV.int .i64 p.1
abbrev tE (bl:List (Int×List Int)):List AV:=bl.map fun _=>AV.top
structure ByRel (w:World) (base gm:Nat) (bl:List (Int×List Int)) (es:Array MapEntry) (clock:Nat):Prop where
 at':w.heap[gm]? = some (.map es clock)
 ent:EntOk (fun _ _=>none) es clock (kE bl) (tE bl)
 row:∀ (j:Nat) p e,bl[j]? = some p→es[j]? = some e→p.2≠[]∧w.ownsRow base 3 1 e.val p.2.length (intsV p.2)
 apart:∀ (i j:Nat) e f g,es[i]? = some e→es[j]? = some f→e.val.ownBlock=some g→f.val.ownBlock=some g→i=j
 lt:gm<base
theorem ByRel.below {w w':World} {base gm:Nat} {bl:List (Int×List Int)} {es:Array MapEntry} {clock:Nat} (h:ByRel w base gm bl es clock) (hB:∀ k,k<w.heap.size→(k=gm∨base≤k)→w'.heap[k]? = w.heap[k]?):ByRel w' base gm bl es clock:=by
 obtain⟨h1,h2,h3,h4,h5⟩:=h;refine⟨(hB gm (lt_of_block h1) (.inl rfl)).trans h1,h2,fun j p e hp he=>⟨(h3 j p e hp he).1,?_⟩,h4,h5⟩;obtain⟨q1,q2⟩:=(h3 j p e hp he).2;refine⟨q1,?_⟩
 rcases q2 with hn | ⟨g,cap,cur,hv,hb,hgg,rest⟩
 ·exact .inl hn
 ·exact .inr ⟨g,cap,cur,hv,hb,by rw[hB g (lt_of_block hgg) (.inr hb)];exact hgg,rest⟩
theorem fits3 (x:Int):keyFits Try.prog 3 (AV.int .i64 x)=true:=by kernel_rfl
theorem YX (x y:Int):akeq (AV.int .i64 x) (AV.int .i64 y)=keq1 x y:=by simp[akeq,keq1,kbeq]
theorem Hh (k:Int):∀ bl:List (Int×List Int),(∃ j l,findA (AV.int .i64 k) (kE bl)=some j∧bl[j]? = some (k,l)∧mget keq1 [] k bl=l∧∀ m,mset keq1 k m bl=bl.set j (k,m))∨(findA (AV.int .i64 k) (kE bl)=none∧mget keq1 [] k bl=[]∧∀ m,mset keq1 k m bl=bl++[(k,m)])
 | []=>.inr ⟨rfl,rfl,fun m=>rfl⟩
 | p::r=>by
  have ih:=Hh k r;simp only[kE,A4,findA,mget,mset,YX]at ih ⊢
  cases hq:keq1 p.1 k with
  | true =>
   have:p.1=k:=by simpa[keq1] using hq
   subst this;exact .inl ⟨0,p.2,rfl,rfl,rfl,fun m=>rfl⟩
  | false =>
   simp only[cN]
   rcases ih with ⟨j,l,h1,h2,h3,h4⟩ | ⟨h1,h2,h3⟩
   ·rw[h1];exact .inl ⟨j+1,l,rfl,by simpa using h2,h3,fun m=>by rw[h4];rfl⟩
   ·rw[h1];exact .inr ⟨rfl,h2,fun m=>by rw[h3];rfl⟩
theorem ByRel.step {w:World} {base gm:Nat} {bl:List (Int×List Int)} {es:Array MapEntry} {clock:Nat} (h:ByRel w base gm bl es clock) {k:Int} (hwf:wfI .i64 k=true) (hlen:bl.length<1000000000) :
  ∃ v24,(∀ w',w'.heap[gm]? = some (.map es clock)→(Instr.lookup 87 (.map (some gm)) (.int .i64 k) false).run Try.prog w'=.ok v24 w')∧w.ownsRow base 3 1 v24 (mget keq1 [] k bl).length (intsV (mget keq1 [] k bl)) ∧
   ∀ (x:Int) (vv:Value) (g:Nat) (w2:World),w.grownBy w2 v24.ownBlock→w2.ownsRow base 3 1 vv ((mget keq1 [] k bl).length+1) (intsV (mget keq1 [] k bl)++[.int .i64 x])→vv.ownBlock=some g→(v24.ownBlock=some g∨w.heap.size≤g) →
    ∃ es' clock',(Instr.mapUpdate 87 (.map (some gm)) (.int .i64 k) vv).run Try.prog w2=.ok () (setBlock w2 gm (.map es' clock'))∧ByRel (setBlock w2 gm (.map es' clock')) base gm (mset keq1 k (mget keq1 [] k bl++[x]) bl) es' clock':=by
 obtain⟨h1,E,h3,h4,h5⟩:=h
 have ht:Qc Try.prog 87=some (3,24):=by kernel_rfl
 have ht':=Jz ht
 have hkv:(AV.int .i64 k).keyV=some (.int .i64 k):=by simp only[AV.keyV,hwf]
 have hall:(kE bl).all (keyFits Try.prog 3)=true:=by
  rw[List.all_map,List.all_eq_true]
  exact fun p _=>fits3 p.1
 have fnd:=fun w=>Qh (P:=Try.prog) (w:=w) (fits3 k) hkv hall E
 obtain⟨E1,E2,E3,E4,E5,E6⟩:=E
 have hsz:es.size=bl.length:=by simpa[kE] using E3.symm
 have hzero:∀ w,(zeroValue 24).run Try.prog w=.ok (.slice none 0 0) w:=Try.zeroValue24
 have kept:∀ {w2:World} {row:Option Nat},w.grownBy w2 row→∀ (j:Nat) p e,bl[j]? = some p→es[j]? = some e→(e.val.ownBlock=none∨e.val.ownBlock≠row)→∀ es' clock',(setBlock w2 gm (.map es' clock')).ownsRow base 3 1 e.val p.2.length (intsV p.2):=by
  intro w2 row hg j p e hp he hne es' clock';have h6:=World.ownsRow.kept (h3 j p e hp he).2 hg hne;obtain⟨q1,q2⟩:=h6;refine⟨q1,?_⟩
  rcases q2 with hn | ⟨g,cap,cur,hv,hb,hgg,rest⟩
  ·exact .inl hn
  ·exact .inr ⟨g,cap,cur,hv,hb,by rw[JF (by omega)];exact hgg,rest⟩
 have keptN:∀ {w2:World} {vv:Value} {n:Nat} {xs:List Value},w2.ownsRow base 3 1 vv n xs→∀ es' clock',(setBlock w2 gm (.map es' clock')).ownsRow base 3 1 vv n xs:=by
  intro w2 vv n xs h6 es' clock';obtain⟨q1,q2⟩:=h6;refine⟨q1,?_⟩
  rcases q2 with hn | ⟨g,cap,cur,hv,hb,hgg,rest⟩
  ·exact .inl hn
  ·exact .inr ⟨g,cap,cur,hv,hb,by rw[JF (by omega)];exact hgg,rest⟩
 have hlt:∀ (j:Nat) e g,es[j]? = some e→e.val.ownBlock=some g→g<w.heap.size∧gm≠g:=by
  intro j e g he hg
  have hj:j<bl.length:=by rw[← hsz];exact (Array.getElem?_eq_some_iff.1 he).1
  have:=(h3 j _ e (C2 hj) he).2.lt g hg;omega
 rcases Hh k bl with ⟨j,l,a1,a2,a3,a4⟩ | ⟨a1,a2,a3⟩
 ·
  obtain⟨e0,he0⟩:∃ e0,es[j]? = some e0:=by
   have:j<es.size:=by rw[hsz];exact (List.getElem?_eq_some_iff.1 a2).1
   exact⟨_,B9 this⟩
  have hf:∀ w',(Instr.findKey 3 (.int .i64 k) es.toList).run Try.prog w'=.ok (some (j,e0.val)) w'∧e0.key=.int .i64 k:=fun w'=>by
   obtain⟨_,_,hfd⟩:=fnd w'
   rcases hfd with ⟨k1,_,_⟩ | ⟨j',e',k1,k2,k3,k4⟩
   ·rw[a1]at k1;cases k1
   ·rw[a1]at k1;cases k1
    have:es[j]? = some e':=by simpa using k3
    rw[this]at he0;cases he0;exact⟨k2,k4⟩
  have hrow:=h3 j _ e0 a2 he0;simp only[a3,a4];refine⟨e0.val,fun w' hb=>?_,hrow.2,fun x vv g w2 hg ho hvg hat=>⟨es.modify j (fun e'=>{ e' with key:=.int .i64 k,val:=vv }),clock,?_,⟨Jx ((hg.block gm (lt_of_block h1) (fun e=>(hlt j e0 gm he0 e.symm).2 rfl)).trans h1),⟨D2 E1 _ _ (fun _ _=>rfl) (fun e' _ he'=>by rw[he0]at he';cases he';exact ((hf w).2).symm),by simpa using E2,by simp[kE,hsz],by simp[tE,hsz],fun i k' e' hk' he'=>?_,fun i v' e' hv' he'=>?_⟩,fun i p e' hp he'=>?_,fun i i' e f gg he hf' g1 g2=>?_,h5⟩⟩⟩
  ·obtain⟨hck,_,_⟩:=fnd w';have hj:es[j]? = some e0:=he0;simp[Instr.lookup,run_underlying ht',A2 hb,hck,(hf w').1,hj,A1]
  ·have hb2:w2.heap[gm]? = some (.map es clock):=(hg.block gm (lt_of_block h1) (fun e=>(hlt j e0 gm he0 e.symm).2 rfl)).trans h1;obtain⟨hck,hst,_⟩:=fnd w2;have f4:=(hf w2).2;simp[Instr.mapUpdate,run_underlying ht',A2 hb2,hck,(hf w2).1,he0,f4,hst,A5 _ hb2,A1,setBlock]
  ·rw[A8]at he';simp only[kE,A3,A6]at hk';obtain⟨p,hp,rfl⟩:=hk';rw[C7]at hp;split at he'
   ·rename_i hij;subst hij;rw[he0]at he';cases he';rw[if_pos rfl]at hp;split at hp
    ·cases hp;exact hkv
    ·cases hp
   ·rename_i hij;rw[if_neg hij]at hp;exact E5 i _ e' (by simp[kE,hp]) he'
  ·simp only[tE,A3,A6]at hv';obtain⟨_,_,rfl⟩:=hv';exact .top _
  ·rw[A8]at he';rw[C7]at hp;split at he'
   ·rename_i hij;subst hij;rw[he0]at he';cases he';rw[if_pos rfl]at hp;split at hp
    ·cases hp;refine⟨by simp,?_⟩;rw[YY,D4];exact keptN ho _ _
    ·cases hp
   ·rename_i hij;rw[if_neg hij]at hp;refine⟨(h3 i p e' hp he').1,kept hg i p e' hp he' ?_ _ _⟩
    cases hob:e'.val.ownBlock with
    | none=>exact .inl rfl
    | some b=>exact .inr fun e=>hij (h4 j i e0 e' b he0 he' e.symm hob)
  ·
   rw[A8]at he hf';split at he <;> split at hf'
   ·rename_i q1 q2;omega
   ·rename_i q1 q2;subst q1;rw[he0]at he;cases he;have g1':vv.ownBlock=some gg:=g1;rw[hvg]at g1';cases g1'
    rcases hat with h6 | h6
    ·exact absurd (h4 j i' e0 f _ he0 hf' h6 g2) q2
    ·have:=(hlt i' f _ hf' g2).1;omega
   ·rename_i q1 q2;subst q2;rw[he0]at hf';cases hf';have g2':vv.ownBlock=some gg:=g2;rw[hvg]at g2';cases g2'
    rcases hat with h6 | h6
    ·exact absurd (h4 j i e0 e _ he0 he h6 g1) q1
    ·have:=(hlt i e _ he g1).1;omega
   ·exact h4 i i' e f gg he hf' g1 g2
 ·
  have hf:∀ w',(Instr.findKey 3 (.int .i64 k) es.toList).run Try.prog w'=.ok none w'∧(∀ e∈es.toList,e.key≠.int .i64 k):=fun w'=>by
   obtain⟨_,_,hfd⟩:=fnd w'
   rcases hfd with ⟨k1,k2,k3⟩ | ⟨j',e',k1,k2,k3,k4⟩
   ·exact⟨k2,k3⟩
   ·rw[a1]at k1;cases k1
  simp only[a2,a3];refine⟨.slice none 0 0,fun w' hb=>?_,World.ownsRow_nil _ _ _ _,fun x vv g w2 hg ho hvg hat=>⟨es.push ⟨.int .i64 k,vv,clock⟩,clock+1,?_,⟨Jx ((hg.block gm (lt_of_block h1) (fun e=>by cases e)).trans h1),⟨D1 E1 (hf w).2,by simp[maxLen];omega,by simp[kE,hsz],by simp[tE,hsz],fun i k' e' hk' he'=>?_,fun i v' e' hv' he'=>?_⟩,fun i p e' hp he'=>?_,fun i i' e f gg he hf' g1 g2=>?_,h5⟩⟩⟩
  ·obtain⟨hck,_,_⟩:=fnd w';simp[Instr.lookup,run_underlying ht',A2 hb,hck,(hf w').1,hzero,A1]
  ·have hb2:w2.heap[gm]? = some (.map es clock):=(hg.block gm (lt_of_block h1) (fun e=>by cases e)).trans h1;obtain⟨hck,hst,_⟩:=fnd w2;simp[Instr.mapUpdate,run_underlying ht',A2 hb2,hck,(hf w2).1,A5 _ hb2,A1,setBlock]
  ·rw[A7]at he';simp only[kE,A3,A6]at hk';obtain⟨p,hp,rfl⟩:=hk';split at he'
   ·rename_i hi;cases he';rw[hi,hsz,B6]at hp;cases hp;exact hkv
   ·have hi:=(Array.getElem?_eq_some_iff.1 he').1;rw[B7 (by omega)]at hp;exact E5 i _ e' (by simp[kE,hp]) he'
  ·simp only[tE,A3,A6]at hv';obtain⟨_,_,rfl⟩:=hv';exact .top _
  ·rw[A7]at he';split at he'
   ·rename_i hi;cases he';rw[hi,hsz,B6]at hp;cases hp;refine⟨by simp,?_⟩;have:=keptN ho (es.push ⟨.int .i64 k,vv,clock⟩) (clock+1)
    simpa[intsV] using this
   ·have hi:=(Array.getElem?_eq_some_iff.1 he').1;rw[B7 (by omega)]at hp;exact⟨(h3 i p e' hp he').1,kept hg i p e' hp he' (by cases hob:e'.val.ownBlock with | none=>exact .inl rfl | some b=>exact .inr fun e=>by cases e) _ _⟩
  ·rw[A7]at he hf'
   have hnew:∀ (i:Nat) e',es[i]? = some e'→e'.val.ownBlock=some g→False:=fun i e' he' hg'=>by
    have:=(hlt i e' _ he' hg').1
    rcases hat with h6 | h6
    ·cases h6
    ·omega
   split at he <;> split at hf'
   ·omega
   ·cases he;have g1':vv.ownBlock=some gg:=g1;rw[hvg]at g1';cases g1';exact (hnew i' f hf' g2).elim
   ·cases hf';have g2':vv.ownBlock=some gg:=g2;rw[hvg]at g2';cases g2';exact (hnew i e he g1).elim
   ·exact h4 i i' e f gg he hf' g1 g2
def mtail (M:Mem) (B:Nat) (w:World):Mem:=fun b o=>if b<B then M b o else mc w b o
theorem Ds {M:Mem} {B b o:Nat} {w:World} (h:b<B):mtail M B w b o=M b o:=by unfold mtail;rw[if_pos h]
theorem Dt {M:Mem} {B b o:Nat} {w:World} (h:B≤b):mtail M B w b o=mc w b o:=by unfold mtail;rw[if_neg (by omega)]
theorem qcu {M:Mem} {B:Nat} {w0 w:World} (hC:Cons M w0) (hB:Below B w0 w):Cons (mtail M B w) w:=fun b o u hu=>by
 unfold mtail at hu;split at hu
 ·rename_i h;have h1:=hC _ _ _ hu;rw[Qm (hB.block b h)];exact h1
 ·exact hu
theorem qdC {M:Mem} {B:Nat} {w0 w:World} (hC:Cons M w0) (hB:Below B w0 w) (hb:w0.heap.size≤B):Sub M (mtail M B w):=fun b o u hu=>by
 rw[Ds (by have:=Zh (hC _ _ _ hu);omega)];exact hu
theorem qeu {w:World} {b o:Nat} {t:TypeId} {fz:Nat×Nat} {cs:Array Value} {u:Value} (h:w.heap[b]? = some (.cells cs t fz)) (hu:cs[o]? = some u) (ht:isTup u=false):mc w b o=some u:=by
 unfold mc;rw[h];exact Jj hu ht
theorem qdH {M:Mem} {e k:Nat} {xs:List AV} {v:Value} (h:R M (.lst e k none xs) v):∃ a cap,v=.slice a xs.length cap∧∀ i x,xs[i]? = some x→∃ b off,a=some ⟨b,off,none⟩∧∀ j c,x.cells[j]? = some c→∃ u,M b (off+(i * k+j))=some u∧R M c u:=by
 cases h with
 | lstn=>exact⟨none,0,rfl,fun i x hx=>by simp at hx⟩
 | lste _ _ _ ad cap=>exact⟨some ad,cap,rfl,fun i x hx=>by simp at hx⟩
 | lst us h1 h2 h5 h3 h4 =>
  rename_i b off cap;refine⟨some ⟨b,off,none⟩,cap,rfl,fun i x hx=>⟨b,off,rfl,fun j c hc=>?_⟩⟩;have hk:=h2 x (D5 hx)
  have hj:j<k:=by rw[← hk];exact (List.getElem?_eq_some_iff.1 hc).1
  have hf:=(Xf h2 hx j hj).trans hc;exact⟨us (i * k+j),h3 _ _ hf,h4 _ _ hf⟩
theorem qep {M:Mem} {l:List hsOp} {v:Value} (h:R M (l44 none l) v):∃ a cap,v=.slice a l.length cap∧∀ i x,l[i]? = some x→∃ b off,a=some ⟨b,off,none⟩∧M b (off+i * 3)=some (.int .i64 x.qb)∧M b (off+i * 3+1)=some (.int .i64 x.qh)∧M b (off+i * 3+2)=some (.int .i64 x.qi):=by
 obtain⟨a,cap,rfl,hc⟩:=qdH h;refine⟨a,cap,by rw[D6],fun i x hx=>?_⟩;obtain⟨b,off,rfl,hcell⟩:=hc i (je x) (by simp[hx]);obtain⟨u0,h0,r0⟩:=hcell 0 _ rfl;obtain⟨u1,h1,r1⟩:=hcell 1 _ rfl;obtain⟨u2,h2,r2⟩:=hcell 2 _ rfl;cases r0;cases r1;cases r2;exact⟨b,off,rfl,h0,h1,h2⟩
theorem YQ {w:World} {b j:Nat} {cs:Array Value} {t:TypeId} (u:Value) (h:w.heap[b]? = some (.cells cs t (0,0))):(w.setCell ⟨b,j,none⟩ u).heap[b]? = some (.cells (cs.setIfInBounds j u) t (0,0)):=by
 have hlt:=lt_of_block h
 have h':w.heap[b]=.cells cs t (0,0):=by simpa[B9 hlt] using h
 show (w.heap.modify b _)[b]? = _;rw[B9 (by simpa using hlt),Array.getElem_modify_self,h'];rfl
theorem Xv {w:World} {b j k:Nat} {u:Value} (h:k≠b):(w.setCell ⟨b,j,none⟩ u).heap[k]? = w.heap[k]?:=Below.heap_setCell w ⟨b,j,none⟩ u k h
theorem YP {w:World} {a:Addr} {u:Value}:(w.setCell a u).heap.size=w.heap.size:=by simp[D3]
end Go.Proofs
namespace Go.AM
structure LS where
 sh:Nat→Int→Bool
 ex:Nat→Int
 done:List hsOp
 ab:List Int
 wt:Int→List (hsOp×Int)
def LS.zero:LS:=⟨fun _ _=>false,fun _=>0,[],[],fun _=>[]⟩
def hindP (s:LS) (o:hsOp) (x:Int):Prop:=(s.ex o.qi.toNat=x∧x≠0∧x≠o.qb)∨(o.qh=1∧x≠o.qb∧s.sh o.qi.toNat x=true)
def takeL (s:LS) (o:hsOp):LS :=
 if o.qh=1 then { s with ex:=fun j=>if j=o.qi.toNat then o.qb else s.ex j }
 else { s with sh:=fun j y=>if j=o.qi.toNat∧y=o.qb then true else s.sh j y }
def relL (s:LS) (t:Int):LS:={ s with sh:=fun j y=>if y=t then false else s.sh j y,ex:=fun j=>if s.ex j=t then 0 else s.ex j }
def putW (s:LS) (t:Int) (l:List (hsOp×Int)):LS:={ s with wt:=fun x=>if x=t then l else s.wt x }
def doL (s:LS) (t:Int) (o:hsOp) (rest:List (hsOp×Int)):LS :=
 putW { (if o.qh≤1 then takeL s o else relL s t) with done:=s.done++[o] } t rest
def abortL (s:LS) (t:Int):LS:=relL (putW { s with done:=s.done++[⟨t,3,0⟩],ab:=s.ab++[t] } t []) t
def Stuck (s:LS) (o:hsOp):Prop:=o.qh≤1∧∃ x,hindP s o x
def EdgeL (s:LS) (x y:Int):Prop:=∃ p rest,s.wt x=p::rest∧hindP s p.1 y
inductive ReachL (s:LS):Int→Int→Prop where
 | one {x y}:EdgeL s x y→ReachL s x y
 | more {x y z}:ReachL s x y→EdgeL s y z→ReachL s x z
open Classical in
noncomputable def goOnL:Nat→LS→Int→Bool→Option (LS×Bool)
 | 0,_,_,_=>none
 | n+1,s,t,rel=>match s.wt t with
  | []=>some (s,rel)
  | p::rest=>if Stuck s p.1 then (if ReachL s t t then some (abortL s t,true) else some (s,rel)) else goOnL n (doL s t p.1 rest) t (rel || decide (1<p.1.qh))
def CanL (s:LS) (t:Int):Prop:=∃ p rest,s.wt t=p::rest∧¬ Stuck s p.1
def atL (s:LS) (t:Int):Int:=match s.wt t with
 | []=>0
 | p::_=>p.2
def BestL (s:LS) (b:Int):Prop:=(b=0∧∀ t,¬ CanL s t)∨(b≠0∧CanL s b∧∀ t,CanL s t→atL s b≤atL s t)
open Classical in
noncomputable def bestL (s:LS):Int:=if h:∃ b,BestL s b then h.choose else 0
noncomputable def retryL (m:Nat):Nat→LS→Option LS
 | 0,_=>none
 | n+1,s=>if bestL s=0 then some s else (goOnL m s (bestL s) false).bind fun r=>retryL m n r.1
open Classical in
noncomputable def stepL (m:Nat) (s:LS) (o:hsOp) (i:Int):Option LS :=
 if o.qb∈s.ab then some s else
 if s.wt o.qb≠[] then some (putW s o.qb (s.wt o.qb++[(o,i)])) else
 (goOnL m (putW s o.qb [(o,i)]) o.qb false).bind fun r=>if r.2=true then retryL m m r.1 else some r.1
noncomputable def runL (m:Nat):LS→Int→List hsOp→Option LS
 | s,_,[]=>some s
 | s,i,o::l=>(stepL m s o i).bind fun s'=>runL m s' (i+1) l
def OkOp (o:hsOp):Prop:=1≤o.qb∧o.qb≤6∧0≤o.qh∧o.qh≤3∧0≤o.qi∧o.qi≤5
def wtot (s:LS):Nat:=(s.wt 1).length+(s.wt 2).length+(s.wt 3).length+(s.wt 4).length+(s.wt 5).length+(s.wt 6).length
structure OkS (N:Nat) (s:LS):Prop where
 tot:s.done.length+wtot s≤N
 abl:s.ab.length≤s.done.length
 sh:∀ i x,s.sh i x=true→1≤x∧x≤6
 ex:∀ i,0≤s.ex i∧s.ex i≤6
 wtk:∀ t,s.wt t≠[]→1≤t∧t≤6
 wto:∀ t p,p∈s.wt t→OkOp p.1∧p.1.qb=t∧0≤p.2∧p.2<1000000
 one:∀ t u p q,p∈s.wt t→q∈s.wt u→p.2=q.2→t=u
theorem Vz {s:LS} {t:Int} (h1:1≤t) (h2:t≤6):∃ k,wtot s=(s.wt t).length+k∧∀ l,wtot (putW s t l)=l.length+k:=by
 have:t=1∨t=2∨t=3∨t=4∨t=5∨t=6:=by omega
 rcases this with rfl | rfl | rfl | rfl | rfl | rfl
 ·exact⟨(s.wt 2).length+(s.wt 3).length+(s.wt 4).length+(s.wt 5).length+(s.wt 6).length,by unfold wtot;omega,fun l=>by simp[wtot,putW];omega⟩
 ·exact⟨(s.wt 1).length+(s.wt 3).length+(s.wt 4).length+(s.wt 5).length+(s.wt 6).length,by unfold wtot;omega,fun l=>by simp[wtot,putW];omega⟩
 ·exact⟨(s.wt 2).length+(s.wt 1).length+(s.wt 4).length+(s.wt 5).length+(s.wt 6).length,by unfold wtot;omega,fun l=>by simp[wtot,putW];omega⟩
 ·exact⟨(s.wt 2).length+(s.wt 3).length+(s.wt 1).length+(s.wt 5).length+(s.wt 6).length,by unfold wtot;omega,fun l=>by simp[wtot,putW];omega⟩
 ·exact⟨(s.wt 2).length+(s.wt 3).length+(s.wt 4).length+(s.wt 1).length+(s.wt 6).length,by unfold wtot;omega,fun l=>by simp[wtot,putW];omega⟩
 ·exact⟨(s.wt 2).length+(s.wt 3).length+(s.wt 4).length+(s.wt 5).length+(s.wt 1).length,by unfold wtot;omega,fun l=>by simp[wtot,putW];omega⟩
theorem OkS.wlen {N:Nat} {s:LS} (h:OkS N s) (t:Int):(s.wt t).length≤N:=by
 by_cases hn:s.wt t=[]
 ·simp[hn]
 ·obtain⟨h1,h2⟩:=h.wtk t hn;obtain⟨k,e,_⟩:=Vz (s:=s) h1 h2;have:=h.tot;omega
theorem OkS.hind {N:Nat} {s:LS} (h:OkS N s) {o:hsOp} {x:Int} (hx:hindP s o x):1≤x∧x≤6:=by
 rcases hx with ⟨h1,h2,_⟩ | ⟨_,_,h3⟩
 ·have:=h.ex o.qi.toNat;omega
 ·exact h.sh _ _ h3
theorem OkS.doL {N:Nat} {s:LS} (h:OkS N s) {t:Int} {p:hsOp×Int} {rest:List (hsOp×Int)} (hw:s.wt t=p::rest):OkS N (doL s t p.1 rest):=by
 have hk:=h.wtk t (by rw[hw];simp);have hp:=h.wto t p (by rw[hw];exact .head _);obtain⟨k,e1,e2⟩:=Vz (s:=s) hk.1 hk.2;obtain⟨⟨o1,o2,o3,o4,o5,o6⟩,ot,oa,ob⟩:=hp
 have hsub:∀ x q,q∈(Go.AM.doL s t p.1 rest).wt x→q∈s.wt x:=by
  intro x q hq
  have hq2:q∈if x=t then rest else s.wt x:=by
   unfold Go.AM.doL at hq;split at hq
   ·unfold takeL at hq;split at hq <;> exact hq
   ·exact hq
  clear hq;split at hq2
  ·rename_i hx;rw[hx,hw];exact .tail _ hq2
  ·exact hq2
 have ht2:wtot (Go.AM.doL s t p.1 rest)=rest.length+k:=by
  rw[← e2 rest];unfold Go.AM.doL wtot putW;split
  ·unfold takeL;split <;> rfl
  ·rfl
 have hd:(Go.AM.doL s t p.1 rest).done=s.done++[p.1]:=rfl
 have hab:(Go.AM.doL s t p.1 rest).ab=s.ab:=by
  unfold Go.AM.doL putW;split
  ·unfold takeL;split <;> rfl
  ·rfl
 refine⟨?_,?_,?_,?_,?_,?_,?_⟩
 ·rw[ht2,hd];have:=h.tot;rw[e1,hw]at this;simp at this ⊢;omega
 ·rw[hab,hd];have:=h.abl;simp;omega
 ·intro i x hx;unfold Go.AM.doL at hx;split at hx
  ·unfold takeL at hx;split at hx
   ·exact h.sh i x hx
   ·have hx:(if i=p.1.qi.toNat∧x=p.1.qb then true else s.sh i x)=true:=hx;split at hx
    ·rename_i e;omega
    ·exact h.sh i x hx
  ·have hx:(if x=t then false else s.sh i x)=true:=hx;split at hx
   ·cases hx
   ·exact h.sh i x hx
 ·intro i;have h0:=h.ex i;unfold Go.AM.doL;split
  ·unfold takeL;split
   ·show 0≤(if i=p.1.qi.toNat then p.1.qb else s.ex i)∧(if i=p.1.qi.toNat then p.1.qb else s.ex i)≤6;split <;> omega
   ·exact h0
  ·show 0≤(if s.ex i=t then 0 else s.ex i)∧(if s.ex i=t then 0 else s.ex i)≤6;split <;> omega
 ·intro x hx;obtain⟨q,hq⟩:=F4 _ hx;exact h.wtk x (List.ne_nil_of_mem (hsub x q hq))
 ·intro x q hq;exact h.wto x q (hsub x q hq)
 ·intro x u q r hq hr he;exact h.one x u q r (hsub x q hq) (hsub u r hr) he
theorem OkS.abortL {N:Nat} {s:LS} (h:OkS N s) {t:Int} {p:hsOp×Int} {rest:List (hsOp×Int)} (hw:s.wt t=p::rest):OkS N (abortL s t):=by
 have hk:=h.wtk t (by rw[hw];simp);obtain⟨k,e1,e2⟩:=Vz (s:=s) hk.1 hk.2
 have hsub:∀ x q,q∈(Go.AM.abortL s t).wt x→q∈s.wt x:=by
  intro x q hq
  have hq:q∈if x=t then [] else s.wt x:=hq
  split at hq
  ·cases hq
  ·exact hq
 have ht2:wtot (Go.AM.abortL s t)=0+k:=by
  rw[← show ([]:List (hsOp×Int)).length=0 from rfl,← e2 []];rfl
 have hd:(Go.AM.abortL s t).done=s.done++[⟨t,3,0⟩]:=rfl;have hab:(Go.AM.abortL s t).ab=s.ab++[t]:=rfl;refine⟨?_,?_,?_,?_,?_,?_,?_⟩
 ·rw[ht2,hd];have:=h.tot;rw[e1,hw]at this;simp at this ⊢;omega
 ·rw[hab,hd];have:=h.abl;simp;omega
 ·intro i x hx;have hx:(if x=t then false else s.sh i x)=true:=hx;split at hx
  ·cases hx
  ·exact h.sh i x hx
 ·intro i;have h0:=h.ex i;show 0≤(if s.ex i=t then 0 else s.ex i)∧(if s.ex i=t then 0 else s.ex i)≤6;split <;> omega
 ·intro x hx;obtain⟨q,hq⟩:=F4 _ hx;exact h.wtk x (List.ne_nil_of_mem (hsub x q hq))
 ·intro x q hq;exact h.wto x q (hsub x q hq)
 ·intro x u q r hq hr he;exact h.one x u q r (hsub x q hq) (hsub u r hr) he
theorem OkS.goOn {N:Nat}:∀ (n:Nat) (s:LS) (t:Int) (rel:Bool) (r:LS×Bool),OkS N s→goOnL n s t rel=some r→OkS N r.1
 | 0,_,_,_,_,_,e=>by cases e
 | n+1,s,t,rel,r,h,e=>by
  unfold goOnL at e
  cases hw:s.wt t with
  | nil=>rw[hw]at e;cases e;exact h
  | cons p rest =>
   rw[hw]at e;simp only at e;split at e
   ·split at e
    ·cases e;exact h.abortL hw
    ·cases e;exact h
   ·exact OkS.goOn n _ _ _ _ (h.doL hw) e
theorem BestL.unique {N:Nat} {s:LS} (h:OkS N s) {a b:Int} (ha:BestL s a) (hb:BestL s b):a=b:=by
 rcases ha with ⟨rfl,h1⟩ | ⟨h0,⟨p,r,e1,e2⟩,h1⟩
 ·rcases hb with ⟨rfl,_⟩ | ⟨_,hc,_⟩
  ·rfl
  ·exact absurd hc (h1 b)
 ·rcases hb with ⟨rfl,h2⟩ | ⟨_,⟨q,u,e3,e4⟩,h2⟩
  ·exact absurd ⟨p,r,e1,e2⟩ (h2 a)
  ·have q1:=h1 b ⟨q,u,e3,e4⟩;have q2:=h2 a ⟨p,r,e1,e2⟩
   have w1:atL s a=p.2:=by unfold atL;rw[e1]
   have w2:atL s b=q.2:=by unfold atL;rw[e3]
   refine h.one a b p q (by rw[e1];exact .head _) (by rw[e3];exact .head _) (by omega)
theorem qeP {N:Nat} {s:LS} (h:OkS N s) {b:Int} (hb:BestL s b):bestL s=b:=by
 unfold bestL;rw[dif_pos ⟨b,hb⟩];exact BestL.unique h (Exists.choose_spec (p:=fun b=>BestL s b) ⟨b,hb⟩) hb
end Go.AM
namespace Go.Proofs
open Go.RowKit Go.AM
open Go.ChangeMaps (setBlock)
def RowT (w:World) (L:Nat→Nat) (role:Nat) (e:TypeId) (size:Nat) (v:Value) (n:Nat) (xs:List Value):Prop :=
  xs.length=n * size ∧
  ((v=.slice none 0 0∧n=0) ∨
   ∃ g off cap cur,v=.slice (some ⟨g,off,none⟩) n cap∧L g=role∧w.heap[g]? = some (.cells cur e (0,0))∧n≤cap∧cap≤maxLen∧off+cap * size≤cur.size∧(cur.toList.drop off).take (n * size)=xs)
structure Mvs (L L':Nat→Nat) (w w':World):Prop where
  os:w'.os=w.os
  tape:w'.tape=w.tape
  output:w'.output=w.output
  size:w.heap.size≤w'.heap.size
  keep:∀ k,k<w.heap.size→L k=0→w'.heap[k]? = w.heap[k]?
  grow:∀ k,L' k≠0→L k≠0∨w.heap.size≤k
theorem Mvs.refl (L:Nat→Nat) (w:World):Mvs L L w w:=⟨rfl,rfl,rfl,A9 _,fun _ _ _=>rfl,fun _ h=>.inl h⟩
theorem Mvs.trans {L L' L'':Nat→Nat} {w w' w'':World} (h:Mvs L L' w w') (h':Mvs L' L'' w' w''):Mvs L L'' w w'':=by
  refine⟨h'.os.trans h.os,h'.tape.trans h.tape,h'.output.trans h.output,C4 h.size h'.size,fun k hk h0=>?_,fun k hk=>?_⟩
  · have:L' k=0:=by
      rcases D7 (L' k) with e | e
      · exact e
      · rcases h.grow k (by omega) with e' | e'
        · exact absurd h0 e'
        · omega
    rw[h'.keep k (C8 hk h.size) this,h.keep k hk h0]
  · rcases h'.grow k hk with e | e
    · exact h.grow k e
    · exact .inr (C4 h.size e)
theorem Mvs.drew {L L':Nat→Nat} {w w':World} (h:Mvs L L' w w'):Mvs L L' w w'.drew:=⟨h.os,h.tape,h.output,h.size,h.keep,h.grow⟩
theorem Mvs.of_below {L:Nat→Nat} {w w':World} (h:Below w.heap.size w w'):Mvs L L w w':=⟨h.os,h.tape,h.output,h.size,fun k hk _=>h.block k hk,fun _ e=>.inl e⟩
theorem Mvs.alloc {L L':Nat→Nat} {w w':World} (h:Mvs L L' w w') (o:Obj):Mvs L L' w (w'.alloc o):=⟨h.os,h.tape,h.output,by rw[Nat.le_iff_lt_or_eq];left;simp;have:=h.size;omega,fun k hk h0=>by rw[heap_alloc_old _ _ (C8 hk h.size)];exact h.keep k hk h0,h.grow⟩
theorem Mvs.below {L L':Nat→Nat} {w w':World} {B:Nat} (h:Mvs L L' w w') (hB:B≤w.heap.size) (hL:∀ k,L k≠0→B≤k):Below B w w':=⟨h.os,h.tape,h.output,h.size,fun k hk=>h.keep k (by omega) (by rcases D7 (L k) with e | e;exact e;have:=hL k (by omega);omega)⟩
structure Grw (role:Nat) (L L':Nat→Nat) (w w':World):Prop where
  mv:Mvs L L' w w'
  same:∀ k,k<w.heap.size→L' k=L k
  oth:∀ k,k<w.heap.size→L k≠role→w'.heap[k]? = w.heap[k]?
  new:∀ k,w.heap.size≤k→L' k≠0→L' k=role∧k<w'.heap.size
theorem Grw.hi {role:Nat} {L L':Nat→Nat} {w w':World} (h:Grw role L L' w w'):∀ k,w'.heap.size≤k→L' k=0:=fun k hk=>by
  rcases D7 (L' k) with e | e
  · exact e
  · have:=(h.new k (C4 h.mv.size hk) (by omega)).2
    omega
theorem Grw.setCell {role:Nat} {L:Nat→Nat} {w:World} {b o:Nat} (v:Value) (hL:L b=role) (h0:role≠0) (hi:∀ k,w.heap.size≤k→L k=0):Grw role L L w (w.setCell ⟨b,o,none⟩ v):=by
  have hb:∀ k,L k≠role→(w.setCell ⟨b,o,none⟩ v).heap[k]? = w.heap[k]?:=fun k hk=>Below.heap_setCell _ _ _ _ (fun e=>hk (by rw[e];exact hL))
  exact⟨⟨rfl,rfl,rfl,D8 (by simp[D3]),fun k _ hk=>hb k (by omega),fun k hk=>.inl hk⟩,fun k _=>rfl,fun k _ hk=>hb k hk,fun k h1 h2=>absurd (hi k h1) h2⟩
theorem Grw.setBlock {role:Nat} {L:Nat→Nat} {w:World} {b:Nat} (o:Obj) (hL:L b=role) (h0:role≠0) (hi:∀ k,w.heap.size≤k→L k=0):Grw role L L w (setBlock w b o):=by
  have hb:∀ k,L k≠role→(Go.ChangeMaps.setBlock w b o).heap[k]? = w.heap[k]?:=fun k hk=>JF (fun e=>hk (by rw[e];exact hL))
  exact⟨⟨rfl,rfl,rfl,D8 Qq.symm,fun k _ hk=>hb k (by omega),fun k hk=>.inl hk⟩,fun k _=>rfl,fun k _ hk=>hb k hk,fun k h1 h2=>absurd (hi k h1) h2⟩
theorem Grw.trans {role:Nat} {L L' L'':Nat→Nat} {w w' w'':World} (h:Grw role L L' w w') (h':Grw role L' L'' w' w''):Grw role L L'' w w'':=by
  refine⟨h.mv.trans h'.mv,fun k hk=>?_,fun k hk hr=>?_,fun k hk h0=>?_⟩
  · rw[h'.same k (C8 hk h.mv.size),h.same k hk]
  · rw[h'.oth k (C8 hk h.mv.size) (by rw[h.same k hk];exact hr),h.oth k hk hr]
  · by_cases hk2:w'.heap.size≤k
    · exact h'.new k hk2 h0
    · have e:=h'.same k (by omega)
      rw[e]at h0 ⊢;exact⟨(h.new k hk h0).1,by have:=h'.mv.size;omega⟩
theorem Grw.alloc {role:Nat} {L:Nat→Nat} {w:World} (o:Obj) (hi:∀ k,w.heap.size≤k→L k=0):Grw role L (fun k=>if k=w.heap.size then role else L k) w (w.alloc o):=by
  refine⟨⟨rfl,rfl,rfl,by simp,fun k hk _=>heap_alloc_old _ _ hk,fun k hk=>?_⟩,fun k hk=>by rw[if_neg (by omega)],fun k hk _=>heap_alloc_old _ _ hk,fun k hk h0=>?_⟩
  · by_cases e1:k=w.heap.size
    · exact .inr (by omega)
    · rw[if_neg e1]at hk;exact .inl hk
  · by_cases e1:k=w.heap.size
    · rw[if_pos e1];exact⟨rfl,by simp;omega⟩
    · rw[if_neg e1,hi k hk]at h0;exact absurd rfl h0
section
variable {w w':World} {L L':Nat→Nat} {role:Nat} {e:TypeId} {size:Nat} {v:Value} {n:Nat} {xs:List Value}
theorem RowT.nil (w:World) (L:Nat→Nat) (role:Nat) (e:TypeId) (size:Nat):RowT w L role e size (.slice none 0 0) 0 []:=⟨by simp,.inl ⟨rfl,rfl⟩⟩
theorem RowT.kept (h:RowT w L role e size v n xs) (hb:∀ k,k<w.heap.size→L k=role→w'.heap[k]? = w.heap[k]?) (hL:∀ k,k<w.heap.size→L k=role→L' k=role):RowT w' L' role e size v n xs:=by
  obtain⟨q1,q2⟩:=h;refine⟨q1,?_⟩
  rcases q2 with hn | ⟨g,off,cap,cur,hv,hr,hg,rest⟩
  · exact .inl hn
  · have:=(Array.getElem?_eq_some_iff.1 hg).1
    exact .inr ⟨g,off,cap,cur,hv,hL g this hr,by rw[hb g this hr];exact hg,rest⟩
theorem RowT.grw {r:Nat} (h:RowT w L role e size v n xs) (hg:Grw r L L' w w') (hr:role≠r):RowT w' L' role e size v n xs :=
  h.kept (fun k hk h1=>hg.oth k hk (by omega)) (fun k hk h1=>by rw[hg.same k hk];exact h1)
theorem RowT.lt (h:RowT w L role e size v n xs):∀ k,v.ownBlock=some k→L k=role∧k<w.heap.size:=by
  intro k hk
  rcases h.2 with ⟨rfl,_⟩ | ⟨g,off,cap,cur,rfl,hr,hg,_⟩
  · cases hk
  · cases hk;exact⟨hr,(Array.getElem?_eq_some_iff.1 hg).1⟩
theorem RowT.form (h:RowT w L role e size v n xs):∃ a cap,v=.slice a n cap:=by
  rcases h.2 with ⟨rfl,rfl⟩ | ⟨g,off,cap,cur,rfl,_⟩
  · exact⟨none,0,rfl⟩
  · exact⟨_,cap,rfl⟩
theorem RowT.formp (h:RowT w L role e size v n xs) (hn:0<n):∃ g off cap,v=.slice (some ⟨g,off,none⟩) n cap∧L g=role∧g<w.heap.size∧n≤cap:=by
  rcases h.2 with ⟨rfl,rfl⟩ | ⟨g,off,cap,cur,rfl,hr,hg,hc,_⟩
  · omega
  · exact⟨g,off,cap,rfl,hr,(Array.getElem?_eq_some_iff.1 hg).1,hc⟩
theorem RowT.cell {g off cap:Nat} (h:RowT w L role e size (.slice (some ⟨g,off,none⟩) n cap) n xs) {j:Nat} {u:Value} (hu:xs[j]? = some u):w.cell? ⟨g,off+j,none⟩=some u:=by
  rcases h.2 with ⟨h0,_⟩ | ⟨g',off',cap',cur,h0,hr,hg,hc,hm,hs,ht⟩
  · cases h0
  · cases h0
    rw[← ht,List.getElem?_take]at hu;split at hu
    · rw[List.getElem?_drop,C0]at hu
      simp[World.cell?,hg,hu]
    · cases hu
theorem RowT.tail {g off cap:Nat} (h:RowT w L role e size (.slice (some ⟨g,off,none⟩) (n+1) cap) (n+1) xs) :
    (cap=1∧n=0∧RowT w L role e size (.slice (some ⟨g,off,none⟩) n 0) n (xs.drop size))∨(cap≠1∧RowT w L role e size (.slice (some ⟨g,off+size,none⟩) n (cap - 1)) n (xs.drop size)):=by
  rcases h.2 with ⟨h0,_⟩ | ⟨g',off',cap',cur,h0,hr,hg,hc,hm,hs,ht⟩
  · cases h0
  · cases h0
    have hlen:(xs.drop size).length=n * size:=by rw[List.length_drop,h.1,B0];omega
    obtain⟨c,rfl⟩:∃ c,cap=c+1:=⟨cap - 1,by omega⟩;rw[B0]at hs;by_cases hc1:c=0
    · left
      subst hc1
      have hn:n=0:=by omega
      subst hn;refine⟨rfl,rfl,hlen,.inr ⟨g,off,0,cur,rfl,hr,hg,A9 _,by omega,by omega,?_⟩⟩;rw[Nat.zero_mul]at hlen ⊢;rw[D9 hlen];simp
    · right
      refine⟨by omega,hlen,.inr ⟨g,off+size,c+1 - 1,cur,rfl,hr,hg,by omega,by omega,?_,?_⟩⟩
      · rw[Nat.add_sub_cancel];omega
      · rw[← ht,List.drop_take,List.drop_drop]
        congr 1
        rw[B0];omega
end
theorem Uq {P:Program} (w:World) (t ty e:TypeId) (i:TypeInfo) (ht:P.underlying t=some (.slice e)) (hi:P.info? e=some i)
    (g off sLen sCap:Nat) (cur:Array Value) (hg:w.heap[g]? = some (.cells cur e (0,0)))
    (a:Addr) (m c:Nat) (news:List Value) (hl:news.length=m * i.size) (hnews:∀ j u,news[j]? = some u→w.cell? (a.add j)=some u) (h1:∀ u∈news,u.oneCell'=true)
    (hroom:sLen+m≤sCap) (hfit:off+sLen * i.size+news.length≤cur.size) :
    (Builtin.append_ #[t,t] ty #[.slice (some ⟨g,off,none⟩) sLen sCap,.slice (some a) m c]).run P w =
      .ok (.slice (some ⟨g,off,none⟩) (sLen+m) sCap) (w.setRow g (cur.toList.take (off+sLen * i.size)++news++cur.toList.drop (off+sLen * i.size+news.length)).toArray):=by
  have hf:=run_firstCells_some (P:=P) w i.size m a m c news hl hnews;have hst:=run_storeCells_at P g (off+sLen * i.size) e news 0 cur w hg (by simpa using hfit) h1;simp only[Nat.add_zero]at hst;simp[Builtin.append_,run_underlying ht,sizeOf,typeInfo,hi,Builtin.lenOf,hroom,hf,Addr.add_lit,hst]
theorem Zj {P:Program} (w:World) (L:Nat→Nat) (role:Nat) (hrole:∀ k,w.heap.size≤k→L k=0) (hr0:role≠0) (t ty e:TypeId) (i:TypeInfo) (z:Value) (size bytes:Nat) (ht:P.underlying t=some (.slice e)) (hi:P.info? e=some i) (hz:i.zero=some z)
    (hsize:i.size=size) (hby:i.bytes=bytes) (hzs:z.cells.size=size) (hsz:0<size)
    (v:Value) (n:Nat) (xs:List Value) (hown:RowT w L role e size v n xs)
    (a:Addr) (c:Nat) (news:List Value) (hl:news.length=size) (hnews:∀ j u,news[j]? = some u→w.cell? (a.add j)=some u) (h1:∀ u∈news,u.oneCell'=true)
    (h63:n+1≤maxLen) (hbytes:(n+1) * bytes≤140737488355328) :
    ∃ g off cap w' L',(Builtin.append_ #[t,t] ty #[v,.slice (some a) 1 c]).run P w=.ok (.slice (some ⟨g,off,none⟩) (n+1) cap) w'∧RowT w' L' role e size (.slice (some ⟨g,off,none⟩) (n+1) cap) (n+1) (xs++news)∧Grw role L L' w w':=by
  subst hsize;subst hby
  have hsmall:n+1≤9223372036854775807:=by simp only[maxLen]at h63;omega
  have hlen:(xs++news).length=(n+1) * i.size:=by rw[D4,hown.1,hl,B0];omega
  have hl1:news.length=1 * i.size:=by omega
  have grown:∀ (old:Nat),old<n+1→(∀ b:Value,True) →
      RowT (w.drew.alloc (.cells (xs.toArray++news.toArray++Builtin.zeroCells z.cells (grownCap w (n+1) old e - (n+1))) e)) (fun k=>if k=w.heap.size then role else L k) role e i.size
        (.slice (some ⟨w.heap.size,0,none⟩) (n+1) (grownCap w (n+1) old e)) (n+1) (xs++news) ∧
      Grw role L (fun k=>if k=w.heap.size then role else L k) w (w.drew.alloc (.cells (xs.toArray++news.toArray++Builtin.zeroCells z.cells (grownCap w (n+1) old e - (n+1))) e)):=by
    intro old ho _;have hge:=grownCap_ge w (n+1) old e;have hcm:grownCap w (n+1) old e≤maxLen:=grownCap_le_maxLen w (n+1) old e h63;refine⟨⟨hlen,.inr ⟨w.heap.size,0,_,_,rfl,by simp,heap_alloc_new w.drew _,hge,hcm,D8 ?_,?_⟩⟩,?_⟩
    · simp only[Array.size_append,List.size_toArray,size_zeroCells,hzs,hown.1,hl]
      rw[show n * i.size+i.size=(n+1) * i.size by rw[B0];omega,← B0,E0]
      congr 1
      omega
    · simp only[Array.toList_append,C9,List.drop_zero]
      rw[← C9,← hlen];exact List.take_left
    · have h1:Grw role L (fun k=>if k=w.drew.heap.size then role else L k) w.drew (w.drew.alloc (.cells (xs.toArray++news.toArray++Builtin.zeroCells z.cells (grownCap w (n+1) old e - (n+1))) e)):=Grw.alloc _ hrole
      exact⟨⟨h1.mv.os,h1.mv.tape,h1.mv.output,h1.mv.size,h1.mv.keep,h1.mv.grow⟩,h1.same,h1.oth,h1.new⟩
  rcases hown.2 with ⟨rfl,rfl⟩ | ⟨g,off,cap,cur,rfl,hbg,hg,hnc,hcm,hcs,htake⟩
  · have hx:xs=[]:=D9 (by simpa using hown.1)
    subst hx;have hr:=run_append_nil (P:=P) w t ty e i z ht hi hz a 1 c news hl1 hnews (by omega) (by omega) (by have hb:=hbytes;simp only[E0]at hb;omega);have hgr:=grown 0 (by omega) (fun _=>trivial);simp only[E0,List.nil_append,Array.empty_append]at hgr ⊢;exact⟨_,_,_,_,_,hr,hgr⟩
  · by_cases hroom:n+1≤cap
    · have hfit:off+n * i.size+news.length≤cur.size:=by
        rw[hl];have:=Nat.mul_le_mul_right i.size hroom;rw[B0]at this;omega
      have hr:=Uq (P:=P) w t ty e i ht hi g off n cap cur hg a 1 c news hl1 hnews h1 hroom hfit;refine⟨_,_,_,_,L,hr,⟨hlen,.inr ⟨g,off,cap,_,rfl,hbg,setRow_heap w g cur _ e _ hg,hroom,hcm,?_,?_⟩⟩,⟨⟨rfl,rfl,rfl,by simp,fun k hk h0=>setRow_other w g k _ (fun e=>?_),fun k hk=>.inl hk⟩,fun k _=>rfl,fun k hk hne=>setRow_other w g k _ (fun e=>hne (by rw[e];exact hbg)),fun k hk h0=>absurd (hrole k hk) h0⟩⟩
      · simp only[List.size_toArray,D4,List.length_take,List.length_drop,B5]
        omega
      · have h2:(cur.toList.take (off+n * i.size)).drop off=xs:=by rw[List.drop_take,← htake];congr 1;omega
        have h3:off≤(cur.toList.take (off+n * i.size)).length:=by rw[List.length_take,B5];omega
        have hc1:off+n * i.size≤cur.toList.length:=by rw[B5];omega
        show (((cur.toList.take (off+n * i.size)++news++cur.toList.drop (off+n * i.size+news.length))).drop off).take ((n+1) * i.size)=xs++news;rw[C9,List.drop_append_of_le_length h3,h2,← C9,← hlen];exact List.take_left
      · rw[e,hbg]at h0;exact hr0 h0
    · have holds:∀ j u,xs[j]? = some u→w.cell? ((⟨g,off,none⟩:Addr).add j)=some u:=fun j u hu=>by
        rw[Addr.add_mid];exact hown.cell hu
      have hr:=run_append_grow (P:=P) w t ty e i z ht hi hz ⟨g,off,none⟩ n cap xs hown.1 holds a 1 c news hl1 hnews (by omega) (by omega) (growslice_fits (by omega) hbytes);have hgr:=grown cap (by omega) (fun _=>trivial);exact⟨_,_,_,_,_,hr,hgr⟩
theorem Yw {P:Program} {ops:Array Oper} {o:Oper} {a:Act} {w:World} {K:Act→World→Prop} {Q:Exit→Act→World→Prop} {E:Prop} (hgd:o.guard=none) (s x:Operand) (t:TypeId)
    (ho:o.op=.call { callee:=.builtin .append,args:=#[s,x],argTypes:=#[t,t] }) {L:Nat→Nat} {role:Nat} (hrole:∀ k,w.heap.size≤k→L k=0) (hr0:role≠0) (e:TypeId) (z:Value) (size bytes:Nat) (ht:P.underlying t=some (.slice e))
    (hinfo:(P.info? e).map (fun i=>(i.zero,i.size,i.bytes))=some (some z,size,bytes)) (hzs:z.cells.size=size) (hsz:0<size)
    {v:Value} {n:Nat} {xs:List Value} (hs:a.eval s=v) (hown:RowT w L role e size v n xs)
    {ad:Addr} {c:Nat} {news:List Value} (hx:a.eval x=.slice (some ad) 1 c) (hl:news.length=size) (hnews:∀ j u,news[j]? = some u→w.cell? (ad.add j)=some u) (h1:∀ u∈news,u.oneCell'=true)
    (h63:n+1≤maxLen) (hbytes:(n+1) * bytes≤140737488355328)
    (h:∀ g off cap w' L',RowT w' L' role e size (.slice (some ⟨g,off,none⟩) (n+1) cap) (n+1) (xs++news)→Grw role L L' w w'→K (a.put o.dst (.slice (some ⟨g,off,none⟩) (n+1) cap)) w') :
    if E7 o (yielded ops a.tmps)=true then Oper.wp P o a w K Q else E:=by
  have hw:E7 o (yielded ops a.tmps)=true:=by simp[E7,hgd]
  rw[if_pos hw];obtain⟨i,hi,hz,hsize,hby⟩:=info_parts hinfo;obtain⟨g,off,cap,w',L',hr,h2,h3⟩:=Zj (P:=P) w L role hrole hr0 t o.type e i z size bytes ht hi hz hsize hby hzs hsz v n xs hown ad c news hl hnews h1 h63 hbytes;unfold Oper.wp execOp;simp only[ho,resolve,invoke,builtin,Sem.run_bind,Sem.run_pure,Result.andThen_ok,List.map_toArray,A4,List.map_nil,hs,hx,hr];exact h g off cap w' L' h2 h3
theorem QQ {P:Program} {ops:Array Oper} {rest:List Oper} {o:Oper} {a:Act} {w:World} {Q:Exit→Act→World→Prop} (hgd:o.guard=none) (s x:Operand) (t:TypeId)
    (ho:o.op=.call { callee:=.builtin .append,args:=#[s,x],argTypes:=#[t,t] }) {L:Nat→Nat} {role:Nat} (hrole:∀ k,w.heap.size≤k→L k=0) (hr0:role≠0) (e:TypeId) (z:Value) (size bytes:Nat) (ht:P.underlying t=some (.slice e))
    (hinfo:(P.info? e).map (fun i=>(i.zero,i.size,i.bytes))=some (some z,size,bytes)) (hzs:z.cells.size=size) (hsz:0<size)
    {v:Value} {n:Nat} {xs:List Value} (hs:a.eval s=v) (hown:RowT w L role e size v n xs)
    {ad:Addr} {c:Nat} {news:List Value} (hx:a.eval x=.slice (some ad) 1 c) (hl:news.length=size) (hnews:∀ j u,news[j]? = some u→w.cell? (ad.add j)=some u) (h1:∀ u∈news,u.oneCell'=true)
    (h63:n+1≤maxLen) (hbytes:(n+1) * bytes≤140737488355328)
    (h:∀ g off cap w' L',RowT w' L' role e size (.slice (some ⟨g,off,none⟩) (n+1) cap) (n+1) (xs++news)→Grw role L L' w w'→wpList P ops Q rest (a.put o.dst (.slice (some ⟨g,off,none⟩) (n+1) cap)) w'):wpList P ops Q (o::rest) a w:=by
  obtain⟨i,hi,hz,hsize,hby⟩:=info_parts hinfo;obtain⟨g,off,cap,w',L',hr,h2,h3⟩:=Zj (P:=P) w L role hrole hr0 t o.type e i z size bytes ht hi hz hsize hby hzs hsz v n xs hown ad c news hl hnews h1 h63 hbytes
  refine wpList_plain hgd fun K hK=>?_
  unfold Oper.wp execOp;simp only[ho,resolve,invoke,builtin,Sem.run_bind,Sem.run_pure,Result.andThen_ok,List.map_toArray,A4,List.map_nil,hs,hx,hr];exact hK _ _ (h g off cap w' L' h2 h3)
end Go.Proofs
namespace Go.Proofs
open Go.RowKit Go.AM
open Go.ChangeMaps (setBlock)
def IterZ (w:World) (gi bm:Nat) (es:Array MapEntry) (clock:Nat) (rem:List Int):Prop :=
 ∃ seen c0,w.heap[gi]? = some (.mapIter (some bm) clock seen c0)∧clock≤c0∧rem.length=(leftOf es seen).size∧∀ (j:Nat) f e,rem[j]? = some f→(leftOf es seen)[j]? = some e→e.key=.int .i64 f
theorem IterZ.of {w w':World} {gi bm:Nat} {es:Array MapEntry} {clock:Nat} {rem:List Int} (h:IterZ w gi bm es clock rem) (hb:w'.heap[gi]? = w.heap[gi]?):IterZ w' gi bm es clock rem:=by
 obtain⟨seen,c0,h1,h2⟩:=h;exact⟨seen,c0,hb.trans h1,h2⟩
theorem IterZ.lt {w:World} {gi bm:Nat} {es:Array MapEntry} {clock:Nat} {rem:List Int} (h:IterZ w gi bm es clock rem):gi<w.heap.size:=by
 obtain⟨seen,c0,h1,h2⟩:=h;exact lt_of_block h1
theorem IterZ.start {w:World} {gi bm:Nat} {es:Array MapEntry} {clock:Nat} {fs:List Int} (h:w.heap[gi]? = some (.mapIter (some bm) clock #[] clock)) (hl:fs.length=es.size) (hk:∀ (j:Nat) f e,fs[j]? = some f→es[j]? = some e→e.key=.int .i64 f):IterZ w gi bm es clock fs:=by
 have:leftOf es #[]=es:=by
  unfold leftOf;rw[Array.filter_eq_self];simp
 refine⟨#[],clock,h,A9 _,by rw[this];exact hl,fun j f e hf he=>?_⟩;rw[this]at he;exact hk j f e hf he
theorem IterZ.next {w:World} {gi bm:Nat} {es:Array MapEntry} {clock:Nat} {rem:List Int} (h:IterZ w gi bm es clock rem) (hb:w.heap[bm]? = some (.map es clock)) (hs:MapKept.Stamped es clock) :
  (rem=[]∧∀ ty,(Instr.next (.pointer (some ⟨gi,0,none⟩)) false ty).run Try.prog w=.ok (.tuple #[.bool false]) w) ∨
  ∃ (j:Nat) (f:Int) (e:MapEntry) (w1:World),rem[j]? = some f∧e∈es.toList∧e.key=.int .i64 f∧(∀ ty,(Instr.next (.pointer (some ⟨gi,0,none⟩)) false ty).run Try.prog w=.ok (.tuple #[.bool true,.int .i64 f,e.val]) w1)∧w.grownBy w1 (some gi)∧w1.heap.size=w.heap.size∧IterZ w1 gi bm es clock (rem.eraseIdx j) ∧
   ∀ w2,w2.heap[gi]? = w1.heap[gi]?→w2.heap[bm]? = some (.map es clock)→(Instr.entry (.pointer (some ⟨gi,0,none⟩))).run Try.prog w2=.ok (.tuple #[.int .i64 f,e.val]) w2:=by
 obtain⟨seen,c0,h1,h2,h3,h4⟩:=h;obtain⟨hb1,hb2,hb3⟩:=hs
 rcases qaY (P:=Try.prog) 0 h1 hb hb1 h2 with ⟨r1,r2⟩ | ⟨j,hj,w1,hw1,r2⟩
 ·exact .inl ⟨D9 (by omega),fun _=>r2⟩
 ·right
  have hjr:j<rem.length:=by omega
  have hk:=h4 j _ _ (C2 hjr) (B9 hj)
  have hg1:w1.heap[gi]? = some (.mapIter (some bm) clock seen c0):=by
   rcases hw1 with rfl | rfl
   ·exact h1
   ·exact h1
  have hl:=UP hb2 hj
  have hsz:(leftOf es (seen.push (leftOf es seen)[j].born)).size=(leftOf es seen).size - 1:=by
   rw[← B5,hl,C5,if_pos (by simpa using hj),B5]
  have hm:(leftOf es seen)[j]∈leftOf es seen:=Array.getElem_mem hj;unfold leftOf at hm;have hm2:=(Array.mem_filter.1 hm).1;rw[hk]at r2;refine⟨j,rem[j],(leftOf es seen)[j],_,C2 hjr,Array.mem_toList_iff.2 hm2,hk,fun _=>r2,?_,?_,⟨_,clock,Go.AM.Jx hg1,A9 _,?_,?_⟩,fun w2 e1 e2=>?_⟩
  ·rcases hw1 with rfl | rfl
   ·exact Qx hg1
   ·obtain⟨t1,t2,t3,t4,t5⟩:=Qx (o':=.mapIter (some bm) clock (seen.push (leftOf es seen)[j].born) clock) hg1;exact⟨t1,t2,t3,t4,t5⟩
  ·rcases hw1 with rfl | rfl <;> simp[setBlock]
  ·rw[C5,if_pos hjr,hsz,h3]
  ·intro i f e hf he;rw[← C0,hl,C6]at he;rw[C6]at hf;split at he
   ·rename_i hij;rw[if_pos hij]at hf;exact h4 i f e hf (by rw[← C0];exact he)
   ·rename_i hij;rw[if_neg hij]at hf;exact h4 (i+1) f e hf (by rw[← C0];exact he)
  ·rw[← hk];exact run_entry_at w2 gi bm clock seen es clock _ (by rw[e1];exact Go.AM.Jx hg1) e2 (Array.mem_toList_iff.2 hm2) hb2
theorem qbw {w:World} {gi:Nat} (h:w.heap[gi]? = some (.mapIter none 0 #[] 0)) (ty:TypeId):(Instr.next (.pointer (some ⟨gi,0,none⟩)) false ty).run Try.prog w=.ok (.tuple #[.bool false]) w:=by
 simp[Instr.next,getObj,Sem.run,h,A1]
theorem YD {α:Type} [BEq α] [LawfulBEq α]:∀ (l u:List α),l.Nodup→(∀ x,x∈l→x∈u)→l.length≤u.length
 | [],_,_,_=>Nat.zero_le _
 | x::l,u,hn,hs=>by
  rw[E8]at hn;have hx:=hs x (.head _)
  have:=YD l (u.erase x) hn.2 fun y hy=>(List.mem_erase_of_ne (fun (e:y=x)=>hn.1 (by rw[← e];exact hy))).2 (hs y (.tail _ hy))
  rw[List.length_erase_of_mem hx]at this;have h0:0<u.length:=List.length_pos_of_mem hx;simp;omega
theorem Nq {x:Int} (h1:1≤x) (h2:x≤6):x∈[(1:Int),2,3,4,5,6]:=by
 have:x=1∨x=2∨x=3∨x=4∨x=5∨x=6:=by omega
 simpa using this
theorem qab {x:Int} (h1:0≤x) (h2:x≤6):wfI .i64 x=true:=by
 have:x=0∨x=1∨x=2∨x=3∨x=4∨x=5∨x=6:=by omega
 rcases this with rfl | rfl | rfl | rfl | rfl | rfl | rfl <;> rfl
def ShB (w:World) (L:Nat→Nat) (role:Nat) (m:Option Nat) (f:Int→Bool):Prop :=
 (m=none∧∀ x,f x=false)∨∃ g l,m=some g∧L g=role∧MapAt (fun _ _=>none) w g (AV.int .i64) AV.bool l∧(l.map A0).Nodup∧∀ x,f x=true↔x∈l.map A0
theorem ShB.grw {w w':World} {L L':Nat→Nat} {role r:Nat} {m:Option Nat} {f:Int→Bool} (h:ShB w L role m f) (hg:Grw r L L' w w') (hr:role≠r):ShB w' L' role m f:=by
 rcases h with h | ⟨g,l,h1,h2,h3,h4⟩
 ·exact .inl h
 ·exact .inr ⟨g,l,h1,by rw[hg.same g h3.lt];exact h2,h3.of (hg.oth g h3.lt (by omega)),h4⟩
theorem XR {V:Type} (k:Int) (v:V):∀ l:List (Int×V),(mset keq1 k v l).map A0=if k∈l.map A0 then l.map A0 else l.map A0++[k]
 | []=>rfl
 | p::r=>by
  unfold mset
  cases hq:keq1 p.1 k with
  | true =>
   have:p.1=k:=by simpa[keq1] using hq
   subst this;simp
  | false =>
   have:¬ p.1=k:=by simpa[keq1] using hq
   simp only[cN,A4,XR k v r,D0];by_cases h:k∈r.map A0
   ·rw[if_pos h,if_pos (.inr h)]
   ·rw[if_neg h,if_neg (by rintro (e | e);exact this e.symm;exact h e)];rfl
theorem ShB.add {w:World} {L:Nat→Nat} {role g:Nat} {f:Int→Bool} (h:ShB w L role (some g) f) (hf:∀ x,f x=true→1≤x∧x≤6) {t:Int} (h1:1≤t) (h6:t≤6) :
  L g=role∧∃ o',(∀ w',w'.heap=w.heap→(Instr.mapUpdate 83 (.map (some g)) (.int .i64 t) (.bool true)).run Try.prog w'=.ok () (setBlock w' g o'))∧∀ w',w'.heap=w.heap→ShB (setBlock w' g o') L role (some g) (fun y=>if y=t then true else f y):=by
 rcases h with ⟨h0,_⟩ | ⟨g',l,h0,h2,⟨es,clock,hb,hE⟩,h4,h5⟩
 ·cases h0
 ·cases h0
  have hk:(AV.int .i64 t).keyV=some (.int .i64 t):=by simp only[AV.keyV,qab (by omega) h6]
  have hlen:l.length<1000000000:=by
   have:=YD (l.map A0) [(1:Int),2,3,4,5,6] h4 fun x hx=>by
    have:=hf x ((h5 x).2 hx);exact Nq this.1 this.2
   simp at this;omega
  obtain⟨es',clock',hE',hU⟩:=Try.update_own (t:=83) (kt:=3) (e:=4) (eq:=keq1) (G:=AV.bool) hE (by kernel_rfl) fits3 YX (k:=t) (v:=true) hk (.bool true) hlen;refine⟨h2,_,fun w' hw=>hU w' g (by rw[hw];exact hb),fun w' hw=>.inr ⟨g,mset keq1 t true l,rfl,h2,⟨es',clock',Go.AM.Jx (by rw[hw];exact hb),hE'⟩,?_,fun x=>?_⟩⟩
  ·rw[XR];split
   ·exact h4
   ·rename_i hn;rw[E9];exact⟨h4,by simp,fun a ha b hb e=>hn (by simp at hb;rw[← hb,← e];exact ha)⟩
  ·rw[XR];show (if x=t then true else f x)=true↔_;by_cases hx:x=t
   ·rw[hx,if_pos rfl];by_cases hn:t∈l.map A0
    ·rw[if_pos hn];exact⟨fun _=>hn,fun _=>rfl⟩
    ·rw[if_neg hn];exact⟨fun _=>List.mem_append_right _ (.head _),fun _=>rfl⟩
   ·rw[if_neg hx,h5 x];split
    ·rfl
    ·simp[hx]
theorem ShB.del {w:World} {L:Nat→Nat} {role:Nat} {m:Option Nat} {f:Int→Bool} (h:ShB w L role m f) {t:Int} (h1:1≤t) (h6:t≤6) :
  ∃ w1,(∀ ty,(Builtin.delete_ #[83,3] ty #[.map m,.int .i64 t]).run Try.prog w=.ok (.tuple #[]) w1)∧ShB w1 L role m (fun y=>if y=t then false else f y)∧(role≠0→(∀ k,w.heap.size≤k→L k=0)→Grw role L L w w1):=by
 have ht:Try.prog.underlying 83=some (.map 3 4):=Try.underlying83
 have hk:(AV.int .i64 t).keyV=some (.int .i64 t):=by simp only[AV.keyV,qab (by omega) h6]
 rcases h with ⟨h0,h2⟩ | ⟨g,l,h0,h2,⟨es,clock,hb,hE⟩,h4,h5⟩
 ·subst h0;refine⟨w,fun ty=>?_,.inl ⟨rfl,fun x=>?_⟩,fun _ hi=>⟨Mvs.refl _ _,fun _ _=>rfl,fun _ _ _=>rfl,fun k h1 h2=>absurd (hi k h1) h2⟩⟩
  ·obtain⟨hck,_,_⟩:=Qh (P:=Try.prog) (w:=w) (fits3 t) hk (show ([]:List AV).all (keyFits Try.prog 3)=true from rfl) (M:=fun _ _=>none) (es:=#[]) (clock:=0) (vs:=[]) ⟨(F3 _ _).2 ⟨by simp,by simp,by simp⟩,Nat.zero_le _,rfl,rfl,fun j k e hk=>by simp at hk,fun j k e hk=>by simp at hk⟩;simp[Builtin.delete_,run_underlying ht,hck,A1]
  ·show (if x=t then false else f x)=false;split
   ·rfl
   ·exact h2 x
 ·subst h0;obtain⟨hck,hst,hfd⟩:=Qh (P:=Try.prog) (w:=w) (fits3 t) hk (Zy fits3 l) hE;obtain⟨e2,e3,e4,e5,e6,e7⟩:=hE
  have hkeys:∀ j,findA (AV.int .i64 t) (l.map fun p=>AV.int .i64 p.1)=some j→(l.map A0)[j]? = some t:=by
   clear e4 e5 e6 e7 hfd h4 h5 e2 e3
   induction l with
   | nil=>intro j h;cases h
   | cons p r ih =>
    intro j h;simp only[A4,findA,YX]at h
    cases hq:keq1 p.1 t with
    | true =>
     rw[hq]at h;simp only[cond_true,Option.some.injEq]at h;subst h
     simpa[keq1] using hq
    | false =>
     rw[hq]at h;simp only[cN]at h
     cases hr:findA (AV.int .i64 t) (r.map fun p=>AV.int .i64 p.1) with
     | none=>rw[hr]at h;simp at h
     | some i =>
      rw[hr]at h;simp only[Option.map_some,Option.some.injEq]at h;subst h
      simpa using ih i hr
  have hkn:findA (AV.int .i64 t) (l.map fun p=>AV.int .i64 p.1)=none→t ∉ l.map A0:=by
   clear e4 e5 e6 e7 hfd h4 h5 e2 e3 hkeys
   induction l with
   | nil=>intro h hm;simp at hm
   | cons p r ih =>
    intro h;simp only[A4,findA,YX]at h
    cases hq:keq1 p.1 t with
    | true=>rw[hq]at h;simp at h
    | false =>
     rw[hq]at h;simp only[cN]at h
     have hp:¬ p.1=t:=by simpa[keq1] using hq
     rw[A4,D0]
     cases hr:findA (AV.int .i64 t) (r.map fun p=>AV.int .i64 p.1) with
     | some i=>rw[hr]at h;simp at h
     | none =>
      rintro (e | e)
      ·exact hp e.symm
      ·exact ih hr e
  rcases hfd with ⟨k1,k2,k3⟩ | ⟨j,e0,k1,k2,k3,k4⟩
  ·refine⟨setBlock w g (.map es clock),fun ty=>?_,.inr ⟨g,l,rfl,h2,⟨es,clock,Go.AM.Jx hb,e2,e3,e4,e5,e6,e7⟩,h4,fun x=>?_⟩,fun h0 hi=>Grw.setBlock _ h2 h0 hi⟩
   ·simp[Builtin.delete_,run_underlying ht,A2 hb,hck,k2,A5 _ hb,A1,setBlock]
   ·show (if x=t then false else f x)=true↔_;by_cases hx:x=t
    ·rw[hx,if_pos rfl];exact⟨fun h=>(by cases h),fun h=>absurd h (hkn k1)⟩
    ·rw[if_neg hx];exact h5 x
  ·have hjl:j<es.toList.length:=(List.getElem?_eq_some_iff.1 k3).1
   have hjs:j<es.size:=by simpa using hjl
   have hsub:(es.eraseIdxIfInBounds j).toList=es.toList.eraseIdx j:=by
    unfold Array.eraseIdxIfInBounds;rw[dif_pos hjs];simp
   have hsz:(es.eraseIdxIfInBounds j).size=es.size - 1:=by
    rw[← B5,hsub,C5,if_pos hjl,B5]
   have hfj:=hkeys j k1
   have hmapE:∀ {α β:Type} (F:α→β) (l:List α) (j:Nat),(l.map F).eraseIdx j=(l.eraseIdx j).map F:=fun {α β} F l=>by
    induction l with
    | nil=>intro j;simp
    | cons a l ih=>intro j;cases j with
     | zero=>rfl
     | succ j=>simp[ih j]
   have hget:∀ {α:Type} (F:Int×Bool→α) (i:Nat),((l.eraseIdx j).map F)[i]? = if i<j then (l.map F)[i]? else (l.map F)[i+1]?:=fun F i=>by
    rw[← hmapE,C6]
   have hjl2:j<(l.map A0).length:=(List.getElem?_eq_some_iff.1 hfj).1;refine⟨setBlock w g (.map (es.eraseIdxIfInBounds j) clock),fun ty=>?_,.inr ⟨g,l.eraseIdx j,rfl,h2,⟨_,_,Go.AM.Jx hb,MapKept.stamped_erase e2 j,by omega,?_,?_,fun i k e hk he=>?_,fun i v e hv he=>?_⟩,?_,fun x=>?_⟩,fun h0 hi=>Grw.setBlock _ h2 h0 hi⟩
   ·simp[Builtin.delete_,run_underlying ht,A2 hb,hck,k2,A5 _ hb,A1,setBlock]
   ·rw[hsz,D6,C5,if_pos (by simp at e4;omega)];simp at e4;omega
   ·rw[hsz,D6,C5,if_pos (by simp at e4;omega)];simp at e4;omega
   ·rw[hget]at hk;rw[← C0,hsub,C6]at he;split at he
    ·rename_i hij;rw[if_pos hij]at hk;exact e6 i k e hk (by simpa using he)
    ·rename_i hij;rw[if_neg hij]at hk;exact e6 (i+1) k e hk (by simpa using he)
   ·rw[hget]at hv;rw[← C0,hsub,C6]at he;split at he
    ·rename_i hij;rw[if_pos hij]at hv;exact e7 i v e hv (by simpa using he)
    ·rename_i hij;rw[if_neg hij]at hv;exact e7 (i+1) v e hv (by simpa using he)
   ·rw[← hmapE];exact (List.eraseIdx_sublist _ _).nodup h4
   ·show (if x=t then false else f x)=true↔_
    obtain⟨X1,X2,hX,hY⟩:∃ A B,l.map A0=A++t::B∧(l.map A0).eraseIdx j=A++B:=by
     refine⟨(l.map A0).take j,(l.map A0).drop (j+1),?_,List.eraseIdx_eq_take_drop_succ _ _⟩;obtain⟨h7,h8⟩:=List.getElem?_eq_some_iff.1 hfj;have h9:=List.getElem_cons_drop h7;rw[h8]at h9;rw[h9,List.take_append_drop]
    have hnd:=h4;rw[hX,E9]at hnd;obtain⟨n1,n2,n3⟩:=hnd;rw[E8]at n2;rw[← hmapE,hY];by_cases hx:x=t
    ·rw[hx,if_pos rfl];constructor
     ·intro h;cases h
     ·intro h
      rcases List.mem_append.1 h with h | h
      ·exact absurd rfl (n3 _ h _ (.head _))
      ·exact absurd h n2.1
    ·rw[if_neg hx,h5 x,hX,List.mem_append,List.mem_append,D0];constructor
     ·rintro (h | h | h)
      ·exact .inl h
      ·exact absurd h hx
      ·exact .inr h
     ·rintro (h | h)
      ·exact .inl h
      ·exact .inr (.inr h)
end Go.Proofs
namespace Go.Proofs
open Go.RowKit Go.AM
open Go.ChangeMaps (setBlock)
def opsC (l:List hsOp):List Value:=l.flatMap fun o=>[.int .i64 o.qb,.int .i64 o.qh,.int .i64 o.qi]
def heldC (l:List (hsOp×Int)):List Value:=l.flatMap fun p=>[.int .i64 p.1.qb,.int .i64 p.1.qh,.int .i64 p.1.qi,.int .i64 p.2]
theorem qbv (l m:List hsOp):opsC (l++m)=opsC l++opsC m:=by simp[opsC]
theorem qax (l m:List (hsOp×Int)):heldC (l++m)=heldC l++heldC m:=by simp[heldC]
abbrev kH (bl:List (Int×List (hsOp×Int))):List AV:=bl.map fun p=>AV.int .i64 p.1
abbrev tH (bl:List (Int×List (hsOp×Int))):List AV:=bl.map fun _=>AV.top
structure WtB (w:World) (L:Nat→Nat) (gw:Nat) (es:Array MapEntry) (ck:Nat) (bl:List (Int×List (hsOp×Int))):Prop where
 at':w.heap[gw]? = some (.map es ck)
 ent:EntOk (fun _ _=>none) es ck (kH bl) (tH bl)
 nd:(bl.map A0).Nodup
 rng:∀ p,p∈bl→1≤p.1∧p.1≤6
 row:∀ (j:Nat) p e,bl[j]? = some p→es[j]? = some e→RowT w L (20+p.1.toNat) 104 4 e.val p.2.length (heldC p.2)
theorem WtB.lt {w:World} {L:Nat→Nat} {gw:Nat} {es:Array MapEntry} {ck:Nat} {bl:List (Int×List (hsOp×Int))} (h:WtB w L gw es ck bl):gw<w.heap.size:=lt_of_block h.at'
theorem WtB.grw {w w':World} {L L':Nat→Nat} {gw r:Nat} {es:Array MapEntry} {ck:Nat} {bl:List (Int×List (hsOp×Int))} (h:WtB w L gw es ck bl) (hg:Grw r L L' w w') (hL:L gw=2) (h2:r≠2) (hr:r<20):WtB w' L' gw es ck bl :=
 ⟨(hg.oth gw h.lt (by omega)).trans h.at',h.ent,h.nd,h.rng,fun j p e hp he=>(h.row j p e hp he).grw hg (by omega)⟩
theorem Yp (k:Int):∀ bl:List (Int×List (hsOp×Int)),(∃ j l,findA (AV.int .i64 k) (kH bl)=some j∧bl[j]? = some (k,l)∧mget keq1 [] k bl=l∧∀ m,mset keq1 k m bl=bl.set j (k,m))∨(findA (AV.int .i64 k) (kH bl)=none∧mget keq1 [] k bl=[]∧k ∉ bl.map A0∧∀ m,mset keq1 k m bl=bl++[(k,m)])
 | []=>.inr ⟨rfl,rfl,by simp,fun m=>rfl⟩
 | p::r=>by
  have ih:=Yp k r;simp only[kH,A4,findA,mget,mset,YX]at ih ⊢
  cases hq:keq1 p.1 k with
  | true =>
   have:p.1=k:=by simpa[keq1] using hq
   subst this;exact .inl ⟨0,p.2,rfl,rfl,rfl,fun m=>rfl⟩
  | false =>
   have hne:¬ p.1=k:=by simpa[keq1] using hq
   simp only[cN]
   rcases ih with ⟨j,l,h1,h2,h3,h4⟩ | ⟨h1,h2,h3,h4⟩
   ·rw[h1];exact .inl ⟨j+1,l,rfl,by simpa using h2,h3,fun m=>by rw[h4];rfl⟩
   ·rw[h1];refine .inr ⟨rfl,h2,?_,fun m=>by rw[h4];rfl⟩;rw[D0]
    rintro (e | e)
    ·exact hne e.symm
    ·exact h3 e
theorem Ns (k t:Int) (l:List (hsOp×Int)):∀ bl:List (Int×List (hsOp×Int)),mget keq1 [] t (mset keq1 k l bl)=if t=k then l else mget keq1 [] t bl
 | []=>by
  simp only[mset,mget,keq1];by_cases h:t=k
  ·subst h;simp
  ·have:(k == t)=false:=by simp;omega
   simp[this,h]
 | p::r=>by
  have ih:=Ns k t l r;simp only[mset]
  cases hq:keq1 p.1 k with
  | true =>
   have hpk:p.1=k:=by simpa[keq1] using hq
   simp only[cond_true,mget,keq1,hpk];by_cases h:t=k
   ·subst h;simp
   ·have h2:(k == t)=false:=by simp;omega
    rw[h2];simp[h]
  | false =>
   have hpk:¬ p.1=k:=by simpa[keq1] using hq
   simp only[cN,mget];rw[ih];by_cases h:t=k
   ·subst h;rw[hq];simp
   ·simp[h]
theorem NQ {V:Type} (z:V):∀ (bl:List (Int×V)) (p:Int×V),(bl.map A0).Nodup→p∈bl→mget keq1 z p.1 bl=p.2
 | q::r,p,hn,hp=>by
  rw[A4,E8]at hn;unfold mget
  rcases List.mem_cons.1 hp with rfl | hp
  ·simp[keq1]
  ·have:keq1 q.1 p.1=false:=by
    simp only[keq1,beq_eq_false_iff_ne]
    exact fun e=>hn.1 (by rw[e];exact List.mem_map.2 ⟨p,hp,rfl⟩)
   rw[this];exact NQ z r p hn.2 hp
theorem WtB.len {w:World} {L:Nat→Nat} {gw:Nat} {es:Array MapEntry} {ck:Nat} {bl:List (Int×List (hsOp×Int))} (h:WtB w L gw es ck bl):bl.length≤6:=by
 have:=YD (bl.map A0) [(1:Int),2,3,4,5,6] h.nd fun x hx=>by
  obtain⟨p,hp,rfl⟩:=List.mem_map.1 hx;exact Nq (h.rng p hp).1 (h.rng p hp).2
 simpa using this
theorem DW (bl:List (Int×List (hsOp×Int))):(kH bl).all (keyFits Try.prog 3)=true:=by rw[List.all_map,List.all_eq_true];exact fun p _=>fits3 p.1
theorem NU {k:Int} (h1:0≤k) (h6:k≤6):(AV.int .i64 k).keyV=some (.int .i64 k):=by simp only[AV.keyV,qab h1 h6]
theorem WtB.lookup {w:World} {L:Nat→Nat} {gw:Nat} {es:Array MapEntry} {ck:Nat} {bl:List (Int×List (hsOp×Int))} (h:WtB w L gw es ck bl) {k:Int} (h1:0≤k) (h6:k≤6) :
  ∃ v,(∀ w',w'.heap[gw]? = some (.map es ck)→(Instr.lookup 96 (.map (some gw)) (.int .i64 k) false).run Try.prog w'=.ok v w')∧RowT w L (20+k.toNat) 104 4 v (mget keq1 [] k bl).length (heldC (mget keq1 [] k bl)):=by
 have ht:Qc Try.prog 96=some (3,102):=by kernel_rfl
 have ht':=Jz ht
 have fnd:=fun w'=>Qh (P:=Try.prog) (w:=w') (fits3 k) (NU h1 h6) (DW bl) h.ent
 have hzero:∀ w,(zeroValue 102).run Try.prog w=.ok (.slice none 0 0) w:=Try.zeroValue102
 rcases Yp k bl with ⟨j,l,a1,a2,a3,a4⟩ | ⟨a1,a2,_,a3⟩
 ·have hsz:es.size=bl.length:=by have:=h.ent.2.2.1;simpa[kH] using this.symm
  obtain⟨e0,he0⟩:∃ e0,es[j]? = some e0:=by
   have:j<es.size:=by rw[hsz];exact (List.getElem?_eq_some_iff.1 a2).1
   exact⟨_,B9 this⟩
  have hf:∀ w',(Instr.findKey 3 (.int .i64 k) es.toList).run Try.prog w'=.ok (some (j,e0.val)) w':=fun w'=>by
   obtain⟨_,_,hfd⟩:=fnd w'
   rcases hfd with ⟨k1,_,_⟩ | ⟨j',e',k1,k2,k3,k4⟩
   ·rw[a1]at k1;cases k1
   ·rw[a1]at k1;cases k1
    have:es[j]? = some e':=by simpa using k3
    rw[this]at he0;cases he0;exact k2
  rw[a3];refine⟨e0.val,fun w' hb=>?_,h.row j _ e0 a2 he0⟩;obtain⟨hck,_,_⟩:=fnd w';simp[Instr.lookup,run_underlying ht',A2 hb,hck,hf w',he0,A1]
 ·have hf:∀ w',(Instr.findKey 3 (.int .i64 k) es.toList).run Try.prog w'=.ok none w':=fun w'=>by
   obtain⟨_,_,hfd⟩:=fnd w'
   rcases hfd with ⟨k1,k2,k3⟩ | ⟨j',e',k1,k2,k3,k4⟩
   ·exact k2
   ·rw[a1]at k1;cases k1
  rw[a2];refine⟨.slice none 0 0,fun w' hb=>?_,RowT.nil _ _ _ _ _⟩;obtain⟨hck,_,_⟩:=fnd w';simp[Instr.lookup,run_underlying ht',A2 hb,hck,hf w',hzero,A1]
theorem WtB.put {w w2:World} {L L2:Nat→Nat} {gw:Nat} {es:Array MapEntry} {ck:Nat} {bl:List (Int×List (hsOp×Int))} (h:WtB w L gw es ck bl) (hL:L gw=2) {k:Int} (h1:1≤k) (h6:k≤6) (hg:Grw (20+k.toNat) L L2 w w2) {vv:Value} {xs:List (hsOp×Int)} (hv:RowT w2 L2 (20+k.toNat) 104 4 vv xs.length (heldC xs)) :
  ∃ es' ck',(∀ w',w'.heap=w2.heap→(Instr.mapUpdate 96 (.map (some gw)) (.int .i64 k) vv).run Try.prog w'=.ok () (setBlock w' gw (.map es' ck')))∧∀ w',w'.heap=w2.heap→WtB (setBlock w' gw (.map es' ck')) L2 gw es' ck' (mset keq1 k xs bl):=by
 have ht:Qc Try.prog 96=some (3,102):=by kernel_rfl
 have ht':=Jz ht
 have hkv:(AV.int .i64 k).keyV=some (.int .i64 k):=by simp only[AV.keyV,qab (by omega) h6]
 have fnd:=fun w'=>Qh (P:=Try.prog) (w:=w') (fits3 k) hkv (DW bl) h.ent
 have hlen:=h.len;obtain⟨q1,E,q3,q4,q5⟩:=h;obtain⟨E1,E2,E3,E4,E5,E6⟩:=E
 have hsz:es.size=bl.length:=by simpa[kH] using E3.symm
 have hgl:gw<w.heap.size:=lt_of_block q1;have hb2:w2.heap[gw]? = some (.map es ck):=(hg.oth gw hgl (by omega)).trans q1;have hL2:L2 gw=2:=(hg.same gw hgl).trans hL
 have kept:∀ (j:Nat) p e,bl[j]? = some p→es[j]? = some e→p.1≠k→∀ w',w'.heap=w2.heap→∀ o,RowT (setBlock w' gw o) L2 (20+p.1.toNat) 104 4 e.val p.2.length (heldC p.2):=by
  intro j p e hp he hne w' hw o;have hr:=q4 p (D5 hp);have h7:=(q5 j p e hp he).grw hg (by omega);exact h7.kept (fun i _ hi=>by rw[JF (fun e=>by rw[e,hL2]at hi;omega),hw]) (fun _ _ hi=>hi)
 have keptN:∀ w',w'.heap=w2.heap→∀ o,RowT (setBlock w' gw o) L2 (20+k.toNat) 104 4 vv xs.length (heldC xs):=fun w' hw o =>
  hv.kept (fun i _ hi=>by rw[JF (fun e=>by rw[e,hL2]at hi;omega),hw]) (fun _ _ hi=>hi)
 have hnd2:((mset keq1 k xs bl).map A0).Nodup:=by
  rw[XR];split
  ·exact q3
  ·rename_i hn;rw[E9];exact⟨q3,by simp,fun a ha b hb e=>hn (by simp at hb;rw[← hb,← e];exact ha)⟩
 have hrng2:∀ p,p∈mset keq1 k xs bl→1≤p.1∧p.1≤6:=by
  intro p hp;have hm:p.1∈(mset keq1 k xs bl).map A0:=List.mem_map.2 ⟨p,hp,rfl⟩;rw[XR]at hm
  have:p.1∈bl.map A0∨p.1=k:=by
   split at hm
   ·exact .inl hm
   ·rcases List.mem_append.1 hm with h | h
    ·exact .inl h
    ·exact .inr (by simpa using h)
  rcases this with h | h
  ·obtain⟨q,hq,e⟩:=List.mem_map.1 h;rw[← e];exact q4 q hq
  ·rw[h];exact⟨h1,h6⟩
 rcases Yp k bl with ⟨j,l,a1,a2,a3,a4⟩ | ⟨a1,a2,a0,a3⟩
 ·
  obtain⟨e0,he0⟩:∃ e0,es[j]? = some e0:=by
   have:j<es.size:=by rw[hsz];exact (List.getElem?_eq_some_iff.1 a2).1
   exact⟨_,B9 this⟩
  have hf:∀ w',(Instr.findKey 3 (.int .i64 k) es.toList).run Try.prog w'=.ok (some (j,e0.val)) w'∧e0.key=.int .i64 k:=fun w'=>by
   obtain⟨_,_,hfd⟩:=fnd w'
   rcases hfd with ⟨k1,_,_⟩ | ⟨j',e',k1,k2,k3,k4⟩
   ·rw[a1]at k1;cases k1
   ·rw[a1]at k1;cases k1
    have:es[j]? = some e':=by simpa using k3
    rw[this]at he0;cases he0;exact⟨k2,k4⟩
  refine⟨es.modify j (fun e'=>{ e' with key:=.int .i64 k,val:=vv }),ck,fun w' hw=>?_,fun w' hw=>?_⟩
  ·have hb3:w'.heap[gw]? = some (.map es ck):=by rw[hw];exact hb2
   obtain⟨hck,hst,_⟩:=fnd w';have f4:=(hf w').2;simp[Instr.mapUpdate,run_underlying ht',A2 hb3,hck,(hf w').1,he0,f4,hst,A5 _ hb3,A1,setBlock]
  ·refine⟨Go.AM.Jx (by rw[hw];exact hb2),⟨D2 E1 _ _ (fun _ _=>rfl) (fun e' _ he'=>by rw[he0]at he';cases he';exact ((hf w).2).symm),by simpa using E2,?_,?_,fun i k' e' hk' he'=>?_,fun i v' e' hv' he'=>?_⟩,hnd2,hrng2,fun i p e' hp he'=>?_⟩
   ·rw[a4];simp[kH,hsz]
   ·rw[a4];simp[tH,hsz]
   ·rw[a4]at hk';rw[A8]at he';simp only[kH,A3,A6]at hk';obtain⟨p,hp,rfl⟩:=hk';rw[C7]at hp;split at he'
    ·rename_i hij;subst hij;rw[he0]at he';cases he';rw[if_pos rfl]at hp;split at hp
     ·cases hp;exact hkv
     ·cases hp
    ·rename_i hij;rw[if_neg hij]at hp;exact E5 i _ e' (by simp[kH,hp]) he'
   ·simp only[tH,A3,A6]at hv';obtain⟨_,_,rfl⟩:=hv';exact .top _
   ·rw[a4]at hp;rw[A8]at he';rw[C7]at hp;split at he'
    ·rename_i hij;subst hij;rw[he0]at he';cases he';rw[if_pos rfl]at hp;split at hp
     ·cases hp;exact keptN w' hw _
     ·cases hp
    ·rename_i hij;rw[if_neg hij]at hp;refine kept i p e' hp he' (fun e=>?_) w' hw _
     have h8:(bl.map A0)[i]? = some k:=by rw[A3,hp];simp[e]
     have h9:(bl.map A0)[j]? = some k:=by rw[A3,a2];rfl
     exact hij ((List.getElem?_inj (List.getElem?_eq_some_iff.1 h9).1 q3).1 (h9.trans h8.symm))
 ·
  have hf:∀ w',(Instr.findKey 3 (.int .i64 k) es.toList).run Try.prog w'=.ok none w'∧(∀ e∈es.toList,e.key≠.int .i64 k):=fun w'=>by
   obtain⟨_,_,hfd⟩:=fnd w'
   rcases hfd with ⟨k1,k2,k3⟩ | ⟨j',e',k1,k2,k3,k4⟩
   ·exact⟨k2,k3⟩
   ·rw[a1]at k1;cases k1
  refine⟨es.push ⟨.int .i64 k,vv,ck⟩,ck+1,fun w' hw=>?_,fun w' hw=>?_⟩
  ·have hb3:w'.heap[gw]? = some (.map es ck):=by rw[hw];exact hb2
   obtain⟨hck,_,_⟩:=fnd w';simp[Instr.mapUpdate,run_underlying ht',A2 hb3,hck,(hf w').1,A5 _ hb3,A1,setBlock]
  ·refine⟨Go.AM.Jx (by rw[hw];exact hb2),⟨D1 E1 (hf w).2,by simp[maxLen];omega,?_,?_,fun i k' e' hk' he'=>?_,fun i v' e' hv' he'=>?_⟩,hnd2,hrng2,fun i p e' hp he'=>?_⟩
   ·rw[a3];simp[kH,hsz]
   ·rw[a3];simp[tH,hsz]
   ·rw[a3]at hk';rw[A7]at he';simp only[kH,A3,A6]at hk';obtain⟨p,hp,rfl⟩:=hk';split at he'
    ·rename_i hi;cases he';rw[hi,hsz,B6]at hp;cases hp;exact hkv
    ·have hi:=(Array.getElem?_eq_some_iff.1 he').1;rw[B7 (by omega)]at hp;exact E5 i _ e' (by simp[kH,hp]) he'
   ·simp only[tH,A3,A6]at hv';obtain⟨_,_,rfl⟩:=hv';exact .top _
   ·rw[a3]at hp;rw[A7]at he';split at he'
    ·rename_i hi;cases he';rw[hi,hsz,B6]at hp;cases hp;exact keptN w' hw _
    ·have hi:=(Array.getElem?_eq_some_iff.1 he').1;rw[B7 (by omega)]at hp;exact kept i p e' hp he' (fun e=>a0 (List.mem_map.2 ⟨p,D5 hp,e⟩)) w' hw _
end Go.Proofs
