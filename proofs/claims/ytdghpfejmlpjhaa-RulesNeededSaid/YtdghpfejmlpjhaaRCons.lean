/- s -/
import Derived.Test.YtdghpfejmlpjhaaRIns2
set_option maxRecDepth 100000
set_option linter.unusedVariables false
set_option linter.unusedSimpArgs false
namespace Go.Proofs
open Go.RowKit Go.AM
open Go.ChangeMaps (setBlock)
def headsP (out:List (rufact×Bool)) (head:qj) (d:List (List Int)):List rufact:=d.filterMap fun v=>(qQ v head).bind fun f=>if mget qp false f out then none else some f
def okD (head:qj) (L0:List rufact) (d:List (List Int)):Prop:=L0.length+d.length≤1000000000∧∀ v,v∈d→∃ f,qQ v head=some f∧wfF f=true
theorem Uk (out:List (rufact×Bool)) (head:qj) (d:List (List Int)):(headsP out head d).length≤d.length:=List.length_filterMap_le _ _
structure FS (M0:Mem) (wR:World) (bfr:Nat) (out:List (rufact×Bool)) (head:qj) (L0:List rufact) (d:List (List Int)) (M:Mem) (w:World):Prop where
 cons:Cons M w
 sub:Sub M0 M
 os:w.os=wR.os
 tape:w.tape=wR.tape
 output:w.output=wR.output
 size:wR.heap.size≤w.heap.size
 block:∀ k,k<wR.heap.size→k≠bfr→w.heap[k]? = wR.heap[k]?
 none':∀ o,M bfr o=none
 row:∃ vc,w.heap[bfr]? = some (.cells #[vc] 150 (0,0))∧w.ownsRow wR.heap.size 127 3 vc (L0++headsP out head d).length (factsC (L0++headsP out head d))∧∀ g,vc.ownBlock=some g→∀ o,M g o=none
theorem qeb {w w':World} {base:Nat} {vc:Value} {n:Nat} {xs:List Value} (h:w.ownsRow base 127 3 vc n xs) (hb:∀ k,k<w.heap.size→vc.ownBlock=some k→w'.heap[k]? = w.heap[k]?):w'.ownsRow base 127 3 vc n xs:=by
 obtain⟨q1,q2⟩:=h;refine⟨q1,?_⟩
 rcases q2 with hn | ⟨g,cap,cur,rfl,hb',hgg,rest⟩
 ·exact .inl hn
 ·exact .inr ⟨g,cap,cur,rfl,hb',by rw[hb g (lt_of_block hgg) rfl];exact hgg,rest⟩
theorem FS.grow {M0:Mem} {wR:World} {bfr:Nat} {out:List (rufact×Bool)} {head:qj} {L0:List rufact} {d:List (List Int)} {M M':Mem} {w w':World} (h:FS M0 wR bfr out head L0 d M w) (hbf:bfr<wR.heap.size) (hB:Below w.heap.size w w') (hs:Sub M M') (ho:∀ b o,b<w.heap.size→M' b o=M b o) (hC:Cons M' w'):FS M0 wR bfr out head L0 d M' w':=by
 obtain⟨h1,h2,h3,h4,h5,h6,h7,h8,vc,h9,h10,h11⟩:=h;refine⟨hC,Sub.trans h2 hs,hB.os.trans h3,hB.tape.trans h4,hB.output.trans h5,Nat.le_trans h6 hB.size,fun k hk hne=>(hB.block k (by omega)).trans (h7 k hk hne),fun o=>by rw[ho _ _ (by omega)];exact h8 o,vc,(hB.block bfr (by omega)).trans h9,qeb h10 fun k hk _=>hB.block k hk,fun g hg o=>?_⟩;rw[ho _ _ (h10.lt g hg).2];exact h11 g hg o
theorem Hg (w:World) (base:Nat) (v:Value) (l:List rufact) (x:rufact) (hown:w.ownsRow base 127 3 v l.length (factsC l)) {B:Nat} {fz:Nat×Nat} (hx:w.heap[B]? = some (.cells #[.int .i64 x.ql,.int .i64 x.f_a,.int .i64 x.f_b] 127 fz)) (hlen:l.length≤1000000000) (hb:base≤w.heap.size) (ty:TypeId) (c0:Nat) :
  ∃ g cap w',(Builtin.append_ #[150,150] ty #[v,.slice (some ⟨B,0,none⟩) 1 c0]).run Try.prog w=.ok (.slice (some ⟨g,0,none⟩) (l.length+1) cap) w'∧w'.ownsRow base 127 3 (.slice (some ⟨g,0,none⟩) (l.length+1) cap) (l.length+1) (factsC (l++[x]))∧w.grownBy w' v.ownBlock∧(v.ownBlock=some g∨g=w.heap.size)∧g<w'.heap.size:=by
 obtain⟨i0,hi,hz0,hz1,hz2⟩:=info_parts Try.info127;have h:=run_append_lies (P:=Try.prog) w 150 ty base 127 i0 (.agg #[.int .i64 0,.int .i64 0,.int .i64 0]) 3 24 Try.underlying150 hi hz0 hz1 hz2 rfl (by omega) v l.length (factsC l) hown ⟨B,0,none⟩ 1 c0 [.int .i64 x.ql,.int .i64 x.f_a,.int .i64 x.f_b] rfl (World.news_of_block hx) (by simp[Value.oneCell']) (by omega) (by unfold maxLen;omega) (by omega) hb _ rfl;rw[VX];exact h
theorem VZ {ops:Array Oper} {rest:List Oper} {o:Oper} {a:Act} {w:World} {Q:Exit→Act→World→Prop} (hgd:o.guard=none) (s x:Operand) (ho:o.op=.call { callee:=.builtin .append,args:=#[s,x],argTypes:=#[150,150] }) {base:Nat} {v:Value} {l:List rufact} {f:rufact} {B c0:Nat} {fz:Nat×Nat}
  (hs:a.eval s=v) (hx:a.eval x=.slice (some ⟨B,0,none⟩) 1 c0) (hown:w.ownsRow base 127 3 v l.length (factsC l)) (hb:w.heap[B]? = some (.cells #[.int .i64 f.ql,.int .i64 f.f_a,.int .i64 f.f_b] 127 fz)) (hlen:l.length≤1000000000) (hbase:base≤w.heap.size)
  (h:∀ g cap w',w'.ownsRow base 127 3 (.slice (some ⟨g,0,none⟩) (l.length+1) cap) (l.length+1) (factsC (l++[f]))→w.grownBy w' v.ownBlock→(v.ownBlock=some g∨g=w.heap.size)→g<w'.heap.size→wpList Try.prog ops Q rest (a.put o.dst (.slice (some ⟨g,0,none⟩) (l.length+1) cap)) w'):wpList Try.prog ops Q (o::rest) a w:=by
 obtain⟨g,cap,w',hr,h2,h3,h4,h5⟩:=Hg w base v l f hown hb hlen hbase o.type c0
 refine wpList_plain hgd fun K hK=>?_
 unfold Oper.wp execOp;simp only[ho,resolve,invoke,builtin,Sem.run_bind,Sem.run_pure,Result.andThen_ok,List.map_toArray,List.map_cons,List.map_nil,hs,hx,hr];exact hK _ _ (h g cap w' h2 h3 h4 h5)
theorem Try.enter117:∀ args w,(callFunc 117 args).run Try.prog w=.ok (.enter 117 args) w:=fun args w=>by
 have h := Try.func117;have h1 : Try.f117.name ≠ "runtime.NumGoroutine" := of_decide_eq_true (by kernel_rfl)
 have h2:Try.f117.body≠none:=fun e=>absurd (show Try.f117.body.isNone=false by kernel_rfl) (by rw[e];decide)
 simp[callFunc,h,h1,h2]
set_option maxHeartbeats 4000000 in
theorem Try.back117 (M0:Mem) (wR:World) (br bo bfr:Nat) (out:List (rufact×Bool)) (rel:Int) (args:List Int) (L0:List rufact) (hbf:bfr<wR.heap.size) (hv:Value) (h0:M0 br 0=some (.int .i64 rel)) (h1:M0 br 1=some hv) (hr:R M0 (l3 none args) hv) (mo:Option Nat) (h2:M0 bo 0=some (.map mo)) (ho:R M0 (mpE qh AV.bool out) (.map mo))
  (d:List (List Int)) (M:Mem) (w:World) (v:List Int) (hv8:v.length=8) (hD:okD ⟨rel,args⟩ L0 (d++[v])) (hS:FS M0 wR bfr out ⟨rel,args⟩ L0 d M w) :
  Calls Try.prog 117 #[valsV v,.pointer (some ⟨br,0,none⟩),.pointer (some ⟨bo,0,none⟩),.pointer (some ⟨bfr,0,none⟩)] w fun e w'=>e=retU∧FS M0 wR bfr out ⟨rel,args⟩ L0 (d++[v]) M w':=by
 have mixed:=mixedP;have t3:=Try.underlying3;have a3:=Try.isAgg3;have z3:=Try.sizeOf3;have v3:=Try.zeroValue3;have u3:=run_underlying Try.underlying3;have t4:=Try.underlying4;have a4:=Try.isAgg4;have z4:=Try.sizeOf4;have v4:=Try.zeroValue4;have u4:=run_underlying Try.underlying4;have t39:=Try.underlying39;have a39:=Try.isAgg39;have z39:=Try.sizeOf39;have v39:=Try.zeroValue39;have u39:=run_underlying Try.underlying39;have t50:=Try.underlying50;have a50:=Try.isAgg50;have z50:=Try.sizeOf50;have v50:=Try.zeroValue50;have u50:=run_underlying Try.underlying50;have t54:=Try.underlying54;have a54:=Try.isAgg54;have z54:=Try.sizeOf54;have v54:=Try.zeroValue54;have u54:=run_underlying Try.underlying54;have t105:=Try.underlying105;have a105:=Try.isAgg105;have z105:=Try.sizeOf105;have v105:=Try.zeroValue105;have u105:=run_underlying Try.underlying105;have t127:=Try.underlying127;have a127:=Try.isAgg127;have z127:=Try.sizeOf127;have v127:=Try.zeroValue127;have u127:=run_underlying Try.underlying127;have t150:=Try.underlying150;have a150:=Try.isAgg150;have z150:=Try.sizeOf150;have v150:=Try.zeroValue150;have u150:=run_underlying Try.underlying150;have t178:=Try.underlying178;have a178:=Try.isAgg178;have z178:=Try.sizeOf178;have v178:=Try.zeroValue178;have u178:=run_underlying Try.underlying178;obtain⟨x0,x1,x2,x3,x4,x5,x6,x7,rfl⟩:=eight hv8;obtain⟨f,hf,hwf⟩:=hD.2 _ (List.mem_append_right _ (List.mem_singleton.2 rfl))
 have hlen:(L0++headsP out ⟨rel,args⟩ d).length≤1000000000:=by
  have h1:=hD.1;have h2:=Uk out ⟨rel,args⟩ d;rw[List.length_append]at h1 ⊢;omega
 have hC:=hS.cons;have hsub:=hS.sub;obtain⟨aa,ac,rfl⟩:=Yt hr;rw[List.length_map]at hr h1
 have c0:∀ o,(w.alloc o).cell? ⟨br,0,none⟩=some (.int .i64 rel):=fun o=>Ju ((hC.alloc o) _ _ _ (hsub _ _ _ h0)) rfl
 have c1:∀ o,(w.alloc o).cell? ⟨br,1,none⟩=some (.slice aa args.length ac):=fun o=>Ju ((hC.alloc o) _ _ _ (hsub _ _ _ h1)) rfl
 have c118:=qcW (XX [x0,x1,x2,x3,x4,x5,x6,x7] ⟨rel,args⟩ f hf) M (w.alloc (.cells #[.int .i64 x0,.int .i64 x1,.int .i64 x2,.int .i64 x3,.int .i64 x4,.int .i64 x5,.int .i64 x6,.int .i64 x7] 178)) [valsV [x0,x1,x2,x3,x4,x5,x6,x7],.agg #[.int .i64 rel,.slice aa args.length ac]] (glob0 M) (hC.alloc _) rfl (fun j a b ha hb=>by
  match j,ha,hb with
  | 0,ha,hb=>cases ha;cases hb;exact qcJ _ _
  | 1,ha,hb=>cases ha;cases hb;exact qdL (hr.mono hsub))
 go_enter Try.func117,Try.ntmps117
 go_wp2_with fail
 refine Calls.mono c118 ?_
 rintro e w5 ⟨fv,M5,rfl,hB5,s5,C5,o5,r5,_⟩
 obtain rfl:fv=.agg #[.int .i64 f.ql,.int .i64 f.f_a,.int .i64 f.f_b]:=qcl r5;have B5:Below w.heap.size w w5:=((Below.refl _ _).alloc (Nat.le_refl _) _).trans (hB5.mono (by simp));obtain⟨w6,ew6⟩:∃ w6,w6=w5.alloc (.cells #[.int .i64 f.ql,.int .i64 f.f_a,.int .i64 f.f_b] 127):=⟨_,rfl⟩
 have B6:Below w.heap.size w w6:=by rw[ew6];exact B5.alloc B5.size _
 have S6:=hS.grow hbf B6 (Sub.refl M) (fun _ _ _=>rfl) (hC.below B6)
 have n5:w6.heap[w5.heap.size]? = some (.cells #[.int .i64 f.ql,.int .i64 f.f_a,.int .i64 f.f_b] 127 (0,0)):=by rw[ew6];exact heap_alloc_new _ _
 have z6:w6.heap.size=w5.heap.size+1:=by rw[ew6];simp
 have k1:w6.cell? ⟨bo,0,none⟩=some (.map mo):=jh S6.cons (hsub _ _ _ h2) rfl
 have f0:w6.cell? ⟨w5.heap.size,0,none⟩=some (.int .i64 f.ql):=by simp[World.cell?,n5]
 have f1:w6.cell? ⟨w5.heap.size,1,none⟩=some (.int .i64 f.f_a):=by simp[World.cell?,n5]
 have f2:w6.cell? ⟨w5.heap.size,2,none⟩=some (.int .i64 f.f_b):=by simp[World.cell?,n5]
 have hlk:=qfy (ho.mono hsub) hwf w6 S6.cons
 have hheads:headsP out ⟨rel,args⟩ (d++[[x0,x1,x2,x3,x4,x5,x6,x7]])=headsP out ⟨rel,args⟩ d++(if mget qp false f out then [] else [f]):=by
  unfold headsP;rw[List.filterMap_append]
  congr 1
  simp only[List.filterMap_cons,hf,Option.bind_some,List.filterMap_nil];cases mget qp false f out <;> rfl
 have HW:=(show Hid (w6=_) from ew6);obtain⟨bq,ebq⟩:∃ bq,bq=mget qp false f out:=⟨_,rfl⟩;rw[← ebq]at hheads hlk;rw[ew6]at k1 f0 f1 f2 hlk;clear ew6 c118 ebq
 cases bq with
 | true =>
  have HH:=(show Hid _ from hheads);have H6:=(show Hid _ from S6);clear hheads S6 hS hC hsub c0 c1 hD n5 B5 B6 hB5 z6 s5 C5 o5 r5 hf hwf
  go_wp2
  refine bodyPost_end (results_none rfl _ _ _) rfl ?_;refine⟨rfl,?_⟩;rw[← HW.out];obtain⟨g1,g2,g3,g4,g5,g6,g7,g8,g9⟩:=H6.out;refine⟨g1,g2,g3,g4,g5,g6,g7,g8,?_⟩;rw[HH.out]
  simpa using g9
 | false =>
  obtain⟨vc,p1,p2,p3⟩:=S6.row;obtain⟨LL,eLL⟩:∃ LL,LL=L0++headsP out ⟨rel,args⟩ d:=⟨_,rfl⟩;rw[← eLL]at p2 hlen;have HL:=(show Hid _ from eLL);clear eLL;have hbl:bfr<w6.heap.size:=lt_of_block p1;have k2:w6.cell? ⟨bfr,0,none⟩=some vc:=cell_of_one p1;obtain⟨w7,ew7⟩:∃ w7,w7=w6.alloc (.cells #[.int .i64 f.ql,.int .i64 f.f_a,.int .i64 f.f_b] 127):=⟨_,rfl⟩
  have n7:w7.heap[w6.heap.size]? = some (.cells #[.int .i64 f.ql,.int .i64 f.f_a,.int .i64 f.f_b] 127 (0,0)):=by rw[ew7];exact heap_alloc_new _ _
  have z7:w7.heap.size=w6.heap.size+1:=by rw[ew7];simp
  have p27:w7.ownsRow wR.heap.size 127 3 vc LL.length (factsC LL):=by rw[ew7];exact p2.alloc _
  have hbase:wR.heap.size≤w7.heap.size:=by have:=S6.size;omega
  rw[HW.out]at k2;rw[HW.out]at ew7;rw[z6]at n7;have HW7:=(show Hid (w7=_) from ew7);rw[ew7]at n7 p27 hbase
  have hB8:∀ w':World,w7.grownBy w' vc.ownBlock→w'.heap[bfr]? = some (.cells #[vc] 150 (0,0)):=fun w' hg=>by
   rw[hg.block bfr (by omega) (fun e=>by have:=(p2.lt bfr e.symm).1;omega),HW7.out,heap_alloc_old _ _ (by rw[← HW.out];exact hbl),← HW.out];exact p1
  have HB:=(show Hid _ from hB8);have H6:=(show Hid _ from S6);have H1:=(show Hid _ from p1);have H2:=(show Hid _ from p2);have H3:=(show Hid _ from p3);have Z6:=(show Hid _ from z6);have Z7:=(show Hid _ from z7);have HH:=(show Hid _ from hheads);clear hB8 ew7 S6 p1 p2 p3 z6 z7 hheads hbl hS hC hsub c0 c1 hD n5 B5 B6 hB5 s5 C5 o5 r5 hf hwf
  go_wp2_with (first | (at_builtin;refine VZ rfl (.tmp 14) (.tmp 16) (by rfl) (by rfl) (by rfl) p27 n7 hlen hbase ?_;intro g1 c1 w8 ho8 hg8 ha8 hl8;rw[← HW7.out]at hg8 ha8;have nb8:=HB.out _ hg8;have d1:=free_of_one nb8;have d2:=cell_of_one nb8))
  refine bodyPost_end (results_none rfl _ _ _) rfl ?_;refine⟨rfl,?_⟩;obtain⟨y1,y2,y3,y4,y5,y6,y7,y8,_⟩:=H6.out;have z7:=Z7.out;have z6:=Z6.out
  have b7:∀ k,k<w6.heap.size→w7.heap[k]? = w6.heap[k]?:=fun k hk=>by rw[HW7.out,← HW.out];exact heap_alloc_old _ _ hk
  have b8:∀ k,k<w6.heap.size→k≠bfr→some k≠vc.ownBlock→(w8.setCell ⟨bfr,0,none⟩ (.slice (some ⟨g1,0,none⟩) (LL.length+1) c1)).heap[k]? = w6.heap[k]?:=fun k hk h1 h2=>by
   rw[Below.heap_setCell _ _ _ _ h1,hg8.block k (by omega) h2,b7 k hk]
  have hs8:=hg8.size
  have hnew:∀ o,M g1 o=none:=fun o=>by
   rcases ha8 with h | h
   ·exact H3.out g1 h o
   ·cases hm:M g1 o with
    | none=>rfl
    | some u=>have:=ZL (y1 _ _ _ hm);omega
  refine⟨y1.of_blocks fun b o u hu hb=>b8 b hb (fun e=>by rw[e,y8]at hu;cases hu) (fun e=>by rw[H3.out b e.symm]at hu;cases hu),y2,?_,?_,?_,?_,fun k hk hne=>?_,y8,_,one_setCell nb8,?_,fun g hg o=>?_⟩
  ·show w8.os=_;rw[hg8.os,HW7.out,← HW.out];exact y3
  ·show w8.tape=_;rw[hg8.tape,HW7.out,← HW.out];exact y4
  ·show w8.output=_;rw[hg8.output,HW7.out,← HW.out];exact y5
  ·rw[QL];omega
  ·rw[b8 k (by omega) hne (fun e=>by have:=(World.ownsRow.lt H2.out k e.symm).1;omega)];exact y7 k hk hne
  ·rw[HH.out]
   have e1:L0++(headsP out ⟨rel,args⟩ d++(if false=true then [] else [f]))=LL++[f]:=by rw[HL.out];simp
   rw[e1,List.length_append]
   refine qeb ho8 fun k hk hkb=>Below.heap_setCell _ _ _ _ fun e=>?_
   have h9:=(ho8.lt k hkb).1;have e:k=bfr:=e;omega
  ·cases hg;exact hnew o
theorem FS.cb {M0:Mem} {wR:World} {br bo bfr:Nat} {out:List (rufact×Bool)} {rel:Int} {args:List Int} {L0:List rufact} (hbf:bfr<wR.heap.size) {hv:Value} (h0:M0 br 0=some (.int .i64 rel)) (h1:M0 br 1=some hv) (hr:R M0 (l3 none args) hv) {mo:Option Nat} (h2:M0 bo 0=some (.map mo)) (ho:R M0 (mpE qh AV.bool out) (.map mo)) :
  CB (okD ⟨rel,args⟩ L0) 117 #[.pointer (some ⟨br,0,none⟩),.pointer (some ⟨bo,0,none⟩),.pointer (some ⟨bfr,0,none⟩)] M0 (FS M0 wR bfr out ⟨rel,args⟩ L0):=by
 refine⟨fun h=>⟨?_,fun v hv=>h.2 v (List.mem_append_left _ hv)⟩,Try.enter117,fun h=>⟨h.cons,h.sub⟩,fun h hB hs ho hC=>h.grow hbf hB hs ho hC,fun h h1 h2=>?_,fun v hv8 hD hS=>Try.back117 M0 wR br bo bfr out rel args L0 hbf hv h0 h1 hr mo h2 ho _ _ _ v hv8 hD hS⟩
 ·have:=h.1;rw[List.length_append]at this;omega
 ·obtain⟨y1,y2,y3,y4,y5,y6,y7,y8,vc,y9,y10,y11⟩:=h;rename_i M M' _
  have none_of:∀ {b o:Nat},M b o=none→M' b o=none:=fun {b o} hm=>by
   cases hq:M' b o with
   | none=>rfl
   | some u=>have:=h2 b o u hq;rw[hm]at this;cases this
  exact⟨fun b o u hu=>y1 b o u (h2 b o u hu),h1,y3,y4,y5,y6,y7,fun o=>none_of (y8 o),vc,y9,y10,fun g hg o=>none_of (y11 g hg o)⟩
end Go.Proofs
