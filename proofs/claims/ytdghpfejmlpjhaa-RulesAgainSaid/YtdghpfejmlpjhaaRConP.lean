/- s -/
import Derived.Test.YtdghpfejmlpjhaaRIns2
set_option maxRecDepth 100000
set_option linter.unusedVariables false
set_option linter.unusedSimpArgs false
namespace Go.Proofs
open Go.RowKit Go.AM
open Go.ChangeMaps (setBlock)
def headsP (out:List (rufact×Bool)) (head:qi) (d:List (List Int)):List rufact:=d.filterMap fun v=>(qM v head).bind fun f=>if mget qo false f out then none else some f
def okD (head:qi) (L0:List rufact) (d:List (List Int)):Prop:=L0.length+d.length≤1000000000∧∀ v,v∈d→∃ f,qM v head=some f∧wfF f=true
theorem headsP_len (out:List (rufact×Bool)) (head:qi) (d:List (List Int)):(headsP out head d).length≤d.length:=List.length_filterMap_le _ _
structure FS (M0:Mem) (wR:World) (bfr:Nat) (out:List (rufact×Bool)) (head:qi) (L0:List rufact) (d:List (List Int)) (M:Mem) (w:World):Prop where
 cons:Cons M w
 sub:Sub M0 M
 os:w.os=wR.os
 tape:w.tape=wR.tape
 output:w.output=wR.output
 size:wR.heap.size≤w.heap.size
 block:∀ k,k<wR.heap.size→k≠bfr→w.heap[k]? = wR.heap[k]?
 none':∀ o,M bfr o=none
 row:∃ vc,w.heap[bfr]? = some (.cells #[vc] 150 (0,0))∧w.ownsRow wR.heap.size 127 3 vc (L0++headsP out head d).length (factsC (L0++headsP out head d))∧∀ g,vc.ownBlock=some g→∀ o,M g o=none
theorem owns_of {w w':World} {base:Nat} {vc:Value} {n:Nat} {xs:List Value} (h:w.ownsRow base 127 3 vc n xs) (hb:∀ k,k<w.heap.size→vc.ownBlock=some k→w'.heap[k]? = w.heap[k]?):w'.ownsRow base 127 3 vc n xs:=by
 obtain⟨q1,q2⟩:=h;refine⟨q1,?_⟩
 rcases q2 with hn | ⟨g,cap,cur,rfl,hb',hgg,rest⟩
 ·exact .inl hn
 ·exact .inr ⟨g,cap,cur,rfl,hb',by rw[hb g (lt_of_block hgg) rfl];exact hgg,rest⟩
theorem FS.grow {M0:Mem} {wR:World} {bfr:Nat} {out:List (rufact×Bool)} {head:qi} {L0:List rufact} {d:List (List Int)} {M M':Mem} {w w':World} (h:FS M0 wR bfr out head L0 d M w) (hbf:bfr<wR.heap.size) (hB:Below w.heap.size w w') (hs:Sub M M') (ho:∀ b o,b<w.heap.size→M' b o=M b o) (hC:Cons M' w'):FS M0 wR bfr out head L0 d M' w':=by
 obtain⟨h1,h2,h3,h4,h5,h6,h7,h8,vc,h9,h10,h11⟩:=h;refine⟨hC,Sub.trans h2 hs,hB.os.trans h3,hB.tape.trans h4,hB.output.trans h5,Nat.le_trans h6 hB.size,fun k hk hne=>(hB.block k (by omega)).trans (h7 k hk hne),fun o=>by rw[ho _ _ (by omega)];exact h8 o,vc,(hB.block bfr (by omega)).trans h9,owns_of h10 fun k hk _=>hB.block k hk,fun g hg o=>?_⟩;rw[ho _ _ (h10.lt g hg).2];exact h11 g hg o
theorem run_append_fact (w:World) (base:Nat) (v:Value) (l:List rufact) (x:rufact) (hown:w.ownsRow base 127 3 v l.length (factsC l)) {B:Nat} {fz:Nat×Nat} (hx:w.heap[B]? = some (.cells #[.int .i64 x.qj,.int .i64 x.f_a,.int .i64 x.f_b] 127 fz)) (hlen:l.length≤1000000000) (hb:base≤w.heap.size) (ty:TypeId) (c0:Nat) :
  ∃ g cap w',(Builtin.append_ #[150,150] ty #[v,.slice (some ⟨B,0,none⟩) 1 c0]).run Try.prog w=.ok (.slice (some ⟨g,0,none⟩) (l.length+1) cap) w'∧w'.ownsRow base 127 3 (.slice (some ⟨g,0,none⟩) (l.length+1) cap) (l.length+1) (factsC (l++[x]))∧w.grownBy w' v.ownBlock∧(v.ownBlock=some g∨g=w.heap.size)∧g<w'.heap.size:=by
 obtain⟨i0,hi,hz0,hz1,hz2⟩:=info_parts Try.info127;have h:=run_append_lies (P:=Try.prog) w 150 ty base 127 i0 (.agg #[.int .i64 0,.int .i64 0,.int .i64 0]) 3 24 Try.underlying150 hi hz0 hz1 hz2 rfl (by omega) v l.length (factsC l) hown ⟨B,0,none⟩ 1 c0 [.int .i64 x.qj,.int .i64 x.f_a,.int .i64 x.f_b] rfl (World.news_of_block hx) (by simp[Value.oneCell']) (by omega) (by unfold maxLen;omega) (by omega) hb _ rfl;rw[factsC_append];exact h
theorem wpList_append_fact {ops:Array Oper} {rest:List Oper} {o:Oper} {a:Act} {w:World} {Q:Exit→Act→World→Prop} (hgd:o.guard=none) (s x:Operand) (ho:o.op=.call { callee:=.builtin .append,args:=#[s,x],argTypes:=#[150,150] }) {base:Nat} {v:Value} {l:List rufact} {f:rufact} {B c0:Nat} {fz:Nat×Nat}
  (hs:a.eval s=v) (hx:a.eval x=.slice (some ⟨B,0,none⟩) 1 c0) (hown:w.ownsRow base 127 3 v l.length (factsC l)) (hb:w.heap[B]? = some (.cells #[.int .i64 f.qj,.int .i64 f.f_a,.int .i64 f.f_b] 127 fz)) (hlen:l.length≤1000000000) (hbase:base≤w.heap.size)
  (h:∀ g cap w',w'.ownsRow base 127 3 (.slice (some ⟨g,0,none⟩) (l.length+1) cap) (l.length+1) (factsC (l++[f]))→w.grownBy w' v.ownBlock→(v.ownBlock=some g∨g=w.heap.size)→g<w'.heap.size→wpList Try.prog ops Q rest (a.put o.dst (.slice (some ⟨g,0,none⟩) (l.length+1) cap)) w'):wpList Try.prog ops Q (o::rest) a w:=by
 obtain⟨g,cap,w',hr,h2,h3,h4,h5⟩:=run_append_fact w base v l f hown hb hlen hbase o.type c0
 refine wpList_plain hgd fun K hK=>?_
 unfold Oper.wp execOp;simp only[ho,resolve,invoke,builtin,Sem.run_bind,Sem.run_pure,Result.andThen_ok,List.map_toArray,List.map_cons,List.map_nil,hs,hx,hr];exact hK _ _ (h g cap w' h2 h3 h4 h5)
theorem Try.enter117:∀ args w,(callFunc 117 args).run Try.prog w=.ok (.enter 117 args) w:=fun args w=>by
 have h := Try.func117;have h1 : Try.f117.name ≠ "runtime.NumGoroutine" := of_decide_eq_true (by kernel_rfl)
 have h2:Try.f117.body≠none:=fun e=>absurd (show Try.f117.body.isNone=false by kernel_rfl) (by rw[e];decide)
 simp[callFunc,h,h1,h2]
set_option maxHeartbeats 4000000 in
theorem Try.back117 (M0:Mem) (wR:World) (br bo bfr:Nat) (out:List (rufact×Bool)) (rel:Int) (args:List Int) (L0:List rufact) (hbf:bfr<wR.heap.size) (hv:Value) (h0:M0 br 0=some (.int .i64 rel)) (h1:M0 br 1=some hv) (hr:R M0 (l3 none args) hv) (mo:Option Nat) (h2:M0 bo 0=some (.map mo)) (ho:R M0 (mpE qg AV.bool out) (.map mo))
  (d:List (List Int)) (M:Mem) (w:World) (v:List Int) (hv8:v.length=8) (hD:okD ⟨rel,args⟩ L0 (d++[v])) (hS:FS M0 wR bfr out ⟨rel,args⟩ L0 d M w) :
  Calls Try.prog 117 #[valsV v,.pointer (some ⟨br,0,none⟩),.pointer (some ⟨bo,0,none⟩),.pointer (some ⟨bfr,0,none⟩)] w fun e w'=>e=retU∧FS M0 wR bfr out ⟨rel,args⟩ L0 (d++[v]) M w':=by
 have mixed:=mixedP;have t3:=Try.underlying3;have a3:=Try.isAgg3;have z3:=Try.sizeOf3;have v3:=Try.zeroValue3;have u3:=run_underlying Try.underlying3;have t4:=Try.underlying4;have a4:=Try.isAgg4;have z4:=Try.sizeOf4;have v4:=Try.zeroValue4;have u4:=run_underlying Try.underlying4;have t39:=Try.underlying39;have a39:=Try.isAgg39;have z39:=Try.sizeOf39;have v39:=Try.zeroValue39;have u39:=run_underlying Try.underlying39;have t50:=Try.underlying50;have a50:=Try.isAgg50;have z50:=Try.sizeOf50;have v50:=Try.zeroValue50;have u50:=run_underlying Try.underlying50;have t54:=Try.underlying54;have a54:=Try.isAgg54;have z54:=Try.sizeOf54;have v54:=Try.zeroValue54;have u54:=run_underlying Try.underlying54;have t105:=Try.underlying105;have a105:=Try.isAgg105;have z105:=Try.sizeOf105;have v105:=Try.zeroValue105;have u105:=run_underlying Try.underlying105;have t127:=Try.underlying127;have a127:=Try.isAgg127;have z127:=Try.sizeOf127;have v127:=Try.zeroValue127;have u127:=run_underlying Try.underlying127;have t150:=Try.underlying150;have a150:=Try.isAgg150;have z150:=Try.sizeOf150;have v150:=Try.zeroValue150;have u150:=run_underlying Try.underlying150;have t178:=Try.underlying178;have a178:=Try.isAgg178;have z178:=Try.sizeOf178;have v178:=Try.zeroValue178;have u178:=run_underlying Try.underlying178;obtain⟨x0,x1,x2,x3,x4,x5,x6,x7,rfl⟩:=eight hv8;obtain⟨f,hf,hwf⟩:=hD.2 _ (List.mem_append_right _ (List.mem_singleton.2 rfl))
 have hlen:(L0++headsP out ⟨rel,args⟩ d).length≤1000000000:=by
  have h1:=hD.1;have h2:=headsP_len out ⟨rel,args⟩ d;rw[List.length_append]at h1 ⊢;omega
 have hC:=hS.cons;have hsub:=hS.sub;obtain⟨aa,ac,rfl⟩:=Yr hr;rw[List.length_map]at hr h1
 have c0:∀ o,(w.alloc o).cell? ⟨br,0,none⟩=some (.int .i64 rel):=fun o=>Jk ((hC.alloc o) _ _ _ (hsub _ _ _ h0)) rfl
 have c1:∀ o,(w.alloc o).cell? ⟨br,1,none⟩=some (.slice aa args.length ac):=fun o=>Jk ((hC.alloc o) _ _ _ (hsub _ _ _ h1)) rfl
 have c118:=run_ok (XT [x0,x1,x2,x3,x4,x5,x6,x7] ⟨rel,args⟩ f hf) M (w.alloc (.cells #[.int .i64 x0,.int .i64 x1,.int .i64 x2,.int .i64 x3,.int .i64 x4,.int .i64 x5,.int .i64 x6,.int .i64 x7] 178)) [valsV [x0,x1,x2,x3,x4,x5,x6,x7],.agg #[.int .i64 rel,.slice aa args.length ac]] (glob0 M) (hC.alloc _) rfl (fun j a b ha hb=>by
  match j,ha,hb with
  | 0,ha,hb=>cases ha;cases hb;exact vals_R _ _
  | 1,ha,hb=>cases ha;cases hb;exact atom_R (hr.mono hsub))
 go_enter Try.func117,Try.ntmps117
 go_wp2_with fail
 refine Calls.mono c118 ?_
 rintro e w5 ⟨fv,M5,rfl,hB5,s5,C5,o5,r5,_⟩
 obtain rfl:fv=.agg #[.int .i64 f.qj,.int .i64 f.f_a,.int .i64 f.f_b]:=fact_inv r5;have B5:Below w.heap.size w w5:=((Below.refl _ _).alloc (Nat.le_refl _) _).trans (hB5.mono (by simp));obtain⟨w6,ew6⟩:∃ w6,w6=w5.alloc (.cells #[.int .i64 f.qj,.int .i64 f.f_a,.int .i64 f.f_b] 127):=⟨_,rfl⟩
 have B6:Below w.heap.size w w6:=by rw[ew6];exact B5.alloc B5.size _
 have S6:=hS.grow hbf B6 (Sub.refl M) (fun _ _ _=>rfl) (hC.below B6)
 have n5:w6.heap[w5.heap.size]? = some (.cells #[.int .i64 f.qj,.int .i64 f.f_a,.int .i64 f.f_b] 127 (0,0)):=by rw[ew6];exact heap_alloc_new _ _
 have z6:w6.heap.size=w5.heap.size+1:=by rw[ew6];simp
 have k1:w6.cell? ⟨bo,0,none⟩=some (.map mo):=qV S6.cons (hsub _ _ _ h2) rfl
 have f0:w6.cell? ⟨w5.heap.size,0,none⟩=some (.int .i64 f.qj):=by simp[World.cell?,n5]
 have f1:w6.cell? ⟨w5.heap.size,1,none⟩=some (.int .i64 f.f_a):=by simp[World.cell?,n5]
 have f2:w6.cell? ⟨w5.heap.size,2,none⟩=some (.int .i64 f.f_b):=by simp[World.cell?,n5]
 have hlk:=set_at (ho.mono hsub) hwf w6 S6.cons
 have hheads:headsP out ⟨rel,args⟩ (d++[[x0,x1,x2,x3,x4,x5,x6,x7]])=headsP out ⟨rel,args⟩ d++(if mget qo false f out then [] else [f]):=by
  unfold headsP;rw[List.filterMap_append]
  congr 1
  simp only[List.filterMap_cons,hf,Option.bind_some,List.filterMap_nil];cases mget qo false f out <;> rfl
 have HW:=(show Hid (w6=_) from ew6);obtain⟨bq,ebq⟩:∃ bq,bq=mget qo false f out:=⟨_,rfl⟩;rw[← ebq]at hheads hlk;rw[ew6]at k1 f0 f1 f2 hlk;clear ew6 c118 ebq
 cases bq with
 | true =>
  have HH:=(show Hid _ from hheads);have H6:=(show Hid _ from S6);clear hheads S6 hS hC hsub c0 c1 hD n5 B5 B6 hB5 z6 s5 C5 o5 r5 hf hwf
  go_wp2
  refine bodyPost_end (results_none rfl _ _ _) rfl ?_;refine⟨rfl,?_⟩;rw[← HW.out];obtain⟨g1,g2,g3,g4,g5,g6,g7,g8,g9⟩:=H6.out;refine⟨g1,g2,g3,g4,g5,g6,g7,g8,?_⟩;rw[HH.out]
  simpa using g9
 | false =>
  obtain⟨vc,p1,p2,p3⟩:=S6.row;obtain⟨LL,eLL⟩:∃ LL,LL=L0++headsP out ⟨rel,args⟩ d:=⟨_,rfl⟩;rw[← eLL]at p2 hlen;have HL:=(show Hid _ from eLL);clear eLL;have hbl:bfr<w6.heap.size:=lt_of_block p1;have k2:w6.cell? ⟨bfr,0,none⟩=some vc:=cell_of_one p1;obtain⟨w7,ew7⟩:∃ w7,w7=w6.alloc (.cells #[.int .i64 f.qj,.int .i64 f.f_a,.int .i64 f.f_b] 127):=⟨_,rfl⟩
  have n7:w7.heap[w6.heap.size]? = some (.cells #[.int .i64 f.qj,.int .i64 f.f_a,.int .i64 f.f_b] 127 (0,0)):=by rw[ew7];exact heap_alloc_new _ _
  have z7:w7.heap.size=w6.heap.size+1:=by rw[ew7];simp
  have p27:w7.ownsRow wR.heap.size 127 3 vc LL.length (factsC LL):=by rw[ew7];exact p2.alloc _
  have hbase:wR.heap.size≤w7.heap.size:=by have:=S6.size;omega
  rw[HW.out]at k2;rw[HW.out]at ew7;rw[z6]at n7;have HW7:=(show Hid (w7=_) from ew7);rw[ew7]at n7 p27 hbase
  have hB8:∀ w':World,w7.grownBy w' vc.ownBlock→w'.heap[bfr]? = some (.cells #[vc] 150 (0,0)):=fun w' hg=>by
   rw[hg.block bfr (by omega) (fun e=>by have:=(p2.lt bfr e.symm).1;omega),HW7.out,heap_alloc_old _ _ (by rw[← HW.out];exact hbl),← HW.out];exact p1
  have HB:=(show Hid _ from hB8);have H6:=(show Hid _ from S6);have H1:=(show Hid _ from p1);have H2:=(show Hid _ from p2);have H3:=(show Hid _ from p3);have Z6:=(show Hid _ from z6);have Z7:=(show Hid _ from z7);have HH:=(show Hid _ from hheads);clear hB8 ew7 S6 p1 p2 p3 z6 z7 hheads hbl hS hC hsub c0 c1 hD n5 B5 B6 hB5 s5 C5 o5 r5 hf hwf
  go_wp2_with (first | (at_builtin;refine wpList_append_fact rfl (.tmp 14) (.tmp 16) (by rfl) (by rfl) (by rfl) p27 n7 hlen hbase ?_;intro g1 c1 w8 ho8 hg8 ha8 hl8;rw[← HW7.out]at hg8 ha8;have nb8:=HB.out _ hg8;have d1:=free_of_one nb8;have d2:=cell_of_one nb8))
  refine bodyPost_end (results_none rfl _ _ _) rfl ?_;refine⟨rfl,?_⟩;obtain⟨y1,y2,y3,y4,y5,y6,y7,y8,_⟩:=H6.out;have z7:=Z7.out;have z6:=Z6.out
  have b7:∀ k,k<w6.heap.size→w7.heap[k]? = w6.heap[k]?:=fun k hk=>by rw[HW7.out,← HW.out];exact heap_alloc_old _ _ hk
  have b8:∀ k,k<w6.heap.size→k≠bfr→some k≠vc.ownBlock→(w8.setCell ⟨bfr,0,none⟩ (.slice (some ⟨g1,0,none⟩) (LL.length+1) c1)).heap[k]? = w6.heap[k]?:=fun k hk h1 h2=>by
   rw[Below.heap_setCell _ _ _ _ h1,hg8.block k (by omega) h2,b7 k hk]
  have hs8:=hg8.size
  have hnew:∀ o,M g1 o=none:=fun o=>by
   rcases ha8 with h | h
   ·exact H3.out g1 h o
   ·cases hm:M g1 o with
    | none=>rfl
    | some u=>have:=mc_lt (y1 _ _ _ hm);omega
  refine⟨y1.of_blocks fun b o u hu hb=>b8 b hb (fun e=>by rw[e,y8]at hu;cases hu) (fun e=>by rw[H3.out b e.symm]at hu;cases hu),y2,?_,?_,?_,?_,fun k hk hne=>?_,y8,_,one_setCell nb8,?_,fun g hg o=>?_⟩
  ·show w8.os=_;rw[hg8.os,HW7.out,← HW.out];exact y3
  ·show w8.tape=_;rw[hg8.tape,HW7.out,← HW.out];exact y4
  ·show w8.output=_;rw[hg8.output,HW7.out,← HW.out];exact y5
  ·rw[QE];omega
  ·rw[b8 k (by omega) hne (fun e=>by have:=(World.ownsRow.lt H2.out k e.symm).1;omega)];exact y7 k hk hne
  ·rw[HH.out]
   have e1:L0++(headsP out ⟨rel,args⟩ d++(if false=true then [] else [f]))=LL++[f]:=by rw[HL.out];simp
   rw[e1,List.length_append]
   refine owns_of ho8 fun k hk hkb=>Below.heap_setCell _ _ _ _ fun e=>?_
   have h9:=(ho8.lt k hkb).1;have e:k=bfr:=e;omega
  ·cases hg;exact hnew o
theorem FS.cb {M0:Mem} {wR:World} {br bo bfr:Nat} {out:List (rufact×Bool)} {rel:Int} {args:List Int} {L0:List rufact} (hbf:bfr<wR.heap.size) {hv:Value} (h0:M0 br 0=some (.int .i64 rel)) (h1:M0 br 1=some hv) (hr:R M0 (l3 none args) hv) {mo:Option Nat} (h2:M0 bo 0=some (.map mo)) (ho:R M0 (mpE qg AV.bool out) (.map mo)) :
  CB (okD ⟨rel,args⟩ L0) 117 #[.pointer (some ⟨br,0,none⟩),.pointer (some ⟨bo,0,none⟩),.pointer (some ⟨bfr,0,none⟩)] M0 (FS M0 wR bfr out ⟨rel,args⟩ L0):=by
 refine⟨fun h=>⟨?_,fun v hv=>h.2 v (List.mem_append_left _ hv)⟩,Try.enter117,fun h=>⟨h.cons,h.sub⟩,fun h hB hs ho hC=>h.grow hbf hB hs ho hC,fun h h1 h2=>?_,fun v hv8 hD hS=>Try.back117 M0 wR br bo bfr out rel args L0 hbf hv h0 h1 hr mo h2 ho _ _ _ v hv8 hD hS⟩
 ·have:=h.1;rw[List.length_append]at this;omega
 ·obtain⟨y1,y2,y3,y4,y5,y6,y7,y8,vc,y9,y10,y11⟩:=h;rename_i M M' _
  have none_of:∀ {b o:Nat},M b o=none→M' b o=none:=fun {b o} hm=>by
   cases hq:M' b o with
   | none=>rfl
   | some u=>have:=h2 b o u hq;rw[hm]at this;cases this
  exact⟨fun b o u hu=>y1 b o u (h2 b o u hu),h1,y3,y4,y5,y6,y7,fun o=>none_of (y8 o),vc,y9,y10,fun g hg o=>none_of (y11 g hg o)⟩
end Go.Proofs
namespace Go.AM
open Go.Proofs
theorem keq_spec {x y:rufact}:qo x y=true↔x=y:=by
 obtain⟨a,b,c⟩:=x;obtain⟨d,e,f⟩:=y
 simp[qo]
theorem keq_false {x y:rufact}:qo x y=false↔x≠y:=by
 rw[← Bool.not_eq_true,keq_spec]
def byRelL (out:List (rufact×Bool)):List (Int×List rufact):=out.foldl (fun bl p=>mset keq1 p.1.qj (mget keq1 [] p.1.qj bl++[p.1]) bl) []
def headOk (head:qi) (d:List (List Int)):Bool:=d.all fun v=>match qM v head with
 | some f=>wfF f
 | none=>false
def freshL (no out:List (rufact×Bool)):List ruRule→List rufact→Option (List rufact)
 | [],acc=>some acc
 | r::rs,acc=>chk (decide (r.qd.length≤1000)) ((tryP r.qd no (byRelL out) r.qd (List.replicate 8 0)).bind fun d=>chk (decide (acc.length+d.length≤900000000) && headOk r.qf d) (freshL no out rs (acc++headsP out r.qf d)))
def addF (out:List (rufact×Bool)) (fr:List rufact):List (rufact×Bool):=fr.foldl (fun o f=>mset qo f true o) out
def consR (l:List ruRule) (no:List (rufact×Bool)):Nat→List (rufact×Bool)→Option (List (rufact×Bool))
 | 0,_=>none
 | n+1,out=>chk (decide (out.length≤100000)) ((freshL no out l []).bind fun fr=>bif fr.isEmpty then some out else consR l no n (addF out fr))
def consP (fuel:Nat) (l:List ruRule) (gv no:List (rufact×Bool)):Option (List (rufact×Bool)) :=
 chk (gv.all (fun p=>wfF p.1) && decide (l.length≤100000∧gv.length≤100000)) (consR l no fuel (addF [] (gv.map Prod.fst)))
structure NT (out:List (rufact×Bool)):Prop where
 t:∀ p,p∈out→p.2=true
 n:(out.map Prod.fst).Nodup
theorem NT.mget {out:List (rufact×Bool)} (h:∀ p,p∈out→p.2=true) (f:rufact):mget qo false f out=true↔f∈out.map Prod.fst:=by
 induction out with
 | nil=>simp[Go.AM.mget]
 | cons p r ih =>
  have ih:=ih fun q hq=>h q (List.mem_cons_of_mem _ hq)
  simp only[Go.AM.mget]
  cases hq:qo p.1 f with
  | true =>
   have:=keq_spec.1 hq
   simp[this,h p (List.mem_cons_self ..)]
  | false =>
   have:=keq_false.1 hq;simp only[cond_false,ih,List.map_cons,List.mem_cons]
   constructor
   ·exact .inr
   ·rintro (h1 | h1)
    ·exact absurd h1.symm this
    ·exact h1
theorem NT.mset {out:List (rufact×Bool)} (h:NT out) (f:rufact):NT (mset qo f true out)∧(∀ g,g∈(mset qo f true out).map Prod.fst↔g=f∨g∈out.map Prod.fst)∧out.length≤(mset qo f true out).length∧(f ∉ out.map Prod.fst→(mset qo f true out).length=out.length+1):=by
 induction out with
 | nil=>exact⟨⟨by simp[Go.AM.mset],by simp[Go.AM.mset]⟩,by simp[Go.AM.mset],by simp,by simp[Go.AM.mset]⟩
 | cons p r ih =>
  obtain⟨h1,h2⟩:=h;rw[List.map_cons,List.nodup_cons]at h2;obtain⟨ih1,ih2,ih3,ih4⟩:=ih ⟨fun q hq=>h1 q (List.mem_cons_of_mem _ hq),h2.2⟩;simp only[Go.AM.mset]
  cases hq:qo p.1 f with
  | true =>
   have:=keq_spec.1 hq;subst this;simp only[cond_true];refine⟨⟨fun q hq=>?_,by simpa using h2⟩,fun g=>by simp,by simp,fun hn=>absurd (by simp) hn⟩
   rcases List.mem_cons.1 hq with rfl | hq
   ·rfl
   ·exact h1 q (List.mem_cons_of_mem _ hq)
  | false =>
   have hne:=keq_false.1 hq;simp only[cond_false];refine⟨⟨fun q hq=>?_,?_⟩,fun g=>?_,by simpa using ih3,fun hn=>?_⟩
   ·rcases List.mem_cons.1 hq with rfl | hq
    ·exact h1 _ (List.mem_cons_self ..)
    ·exact ih1.t q hq
   ·rw[List.map_cons,List.nodup_cons];refine⟨fun hm=>?_,ih1.n⟩
    rcases (ih2 _).1 hm with h | h
    ·exact hne h
    ·exact h2.1 h
   ·rw[List.map_cons,List.mem_cons,ih2,List.map_cons,List.mem_cons]
    constructor
    ·rintro (h | h | h)
     ·exact .inr (.inl h)
     ·exact .inl h
     ·exact .inr (.inr h)
    ·rintro (h | h | h)
     ·exact .inr (.inl h)
     ·exact .inl h
     ·exact .inr (.inr h)
   ·rw[List.length_cons,ih4 (fun h=>hn (by rw[List.map_cons];exact List.mem_cons_of_mem _ h)),List.length_cons]
theorem NT.add {fr:List rufact}:∀ {out:List (rufact×Bool)},NT out→NT (addF out fr)∧(∀ g,g∈(addF out fr).map Prod.fst↔g∈fr∨g∈out.map Prod.fst)∧out.length≤(addF out fr).length∧(∀ f,f∈fr→f ∉ out.map Prod.fst→out.length<(addF out fr).length):=by
 induction fr with
 | nil=>intro out h;exact⟨h,fun g=>by simp[addF],Nat.le_refl _,fun f hf=>by simp at hf⟩
 | cons f fr ih =>
  intro out h;obtain⟨m1,m2,m3,m4⟩:=h.mset f;obtain⟨a1,a2,a3,a4⟩:=ih m1;have e:addF out (f::fr)=addF (Go.AM.mset qo f true out) fr:=rfl;rw[e];refine⟨a1,fun g=>?_,Nat.le_trans m3 a3,fun g hg hn=>?_⟩
  ·rw[a2,m2,List.mem_cons]
   constructor
   ·rintro (h | h | h)
    ·exact .inl (.inr h)
    ·exact .inl (.inl h)
    ·exact .inr h
   ·rintro ((h | h) | h)
    ·exact .inr (.inl h)
    ·exact .inl h
    ·exact .inr (.inr h)
  ·rcases List.mem_cons.1 hg with rfl | hg
   ·have:=m4 hn;omega
   ·by_cases hgf:g=f
    ·subst hgf;have:=m4 hn;omega
    ·have:=a4 g hg (fun h=>by
      rcases (m2 g).1 h with h | h
      ·exact hgf h
      ·exact hn h)
     omega
theorem NT.nodup {out:List (rufact×Bool)} (h:NT out):out.Nodup:=List.Pairwise.of_map Prod.fst (fun a b h e=>h (by rw[e])) h.n
theorem NT.mem {out:List (rufact×Bool)} (h:NT out) (p:rufact×Bool):p∈out↔p.2=true∧p.1∈out.map Prod.fst:=by
 constructor
 ·intro hp;exact⟨h.t p hp,List.mem_map.2 ⟨p,hp,rfl⟩⟩
 ·rintro⟨h1,h2⟩
  obtain⟨q,hq,he⟩:=List.mem_map.1 h2;have:=h.t q hq;have:q=p:=Prod.ext he (by rw[h1,this]);rw[← this];exact hq
theorem NT.perm {a b:List (rufact×Bool)} (ha:NT a) (hb:NT b) (h:∀ g,g∈a.map Prod.fst↔g∈b.map Prod.fst):a.Perm b:=by
 classical
 refine (List.perm_ext_iff_of_nodup ha.nodup hb.nodup).2 fun p=>?_
 rw[ha.mem,hb.mem,h]
theorem NT.of_perm {a b:List (rufact×Bool)} (ha:NT a) (h:a.Perm b):NT b:=⟨fun p hp=>ha.t p (h.mem_iff.2 hp),(h.map Prod.fst).nodup_iff.1 ha.n⟩
theorem NT.empty:NT []:=⟨fun p hp=>by simp at hp,by simp⟩
theorem headsP_perm {out out':List (rufact×Bool)} (ha:NT out) (hp:out.Perm out') (head:qi) (d:List (List Int)):headsP out head d=headsP out' head d:=by
 have hb:=ha.of_perm hp;unfold headsP
 congr 1
 funext v
 congr 1
 funext f
 have:mget qo false f out=mget qo false f out':=by
  rw[Bool.eq_iff_iff,NT.mget ha.t,NT.mget hb.t,(hp.map Prod.fst).mem_iff]
 rw[this]
theorem headsP_perm2 {out:List (rufact×Bool)} {head:qi} {d d':List (List Int)} (hp:d.Perm d'):(headsP out head d).Perm (headsP out head d'):=hp.filterMap _
theorem byRelL_get (rel:Int):∀ (out:List (rufact×Bool)) (bl:List (Int×List rufact)),mget keq1 [] rel (out.foldl (fun bl p=>mset keq1 p.1.qj (mget keq1 [] p.1.qj bl++[p.1]) bl) bl)=mget keq1 [] rel bl++(out.map Prod.fst).filter fun f=>f.qj == rel
 | [],bl=>by simp
 | p::out,bl=>by
  rw[List.foldl_cons,byRelL_get rel out,mget_mset,List.map_cons,List.filter_cons]
  by_cases h:rel=p.1.qj
  ·subst h
   simp
  ·have:(p.1.qj == rel)=false:=by simp;omega
   simp[h,this]
theorem byRelL_eq (rel:Int) (out:List (rufact×Bool)):mget keq1 [] rel (byRelL out)=(out.map Prod.fst).filter fun f=>f.qj == rel:=by
 unfold byRelL;rw[byRelL_get]
 simp[mget]
theorem fitL_perm {k k':List Int→Option (List (List Int))} {a:qi} {v:List Int} (hk:∀ v o,k v=some o→∃ o',k' v=some o'∧o.Perm o'):∀ (gs:List rufact) (o:List (List Int)),fitL k a v gs=some o→∃ o',fitL k' a v gs=some o'∧o.Perm o':=by
 intro gs
 induction gs with
 | nil=>intro o h;cases h;exact⟨[],rfl,List.Perm.refl _⟩
 | cons g gs ih =>
  intro o h;unfold fitL at h;obtain⟨p,hp,h⟩:=qc h;obtain⟨l,hl,h⟩:=qc h;obtain⟨m,hm,h⟩:=qc h;cases h;obtain⟨m',hm',pm⟩:=ih m hm
  obtain⟨l',hl',pl⟩:∃ l',(bif p.2 then k' p.1 else some [])=some l'∧l.Perm l':=by
   cases hb:p.2 with
   | true =>
    rw[hb]at hl;exact hk _ _ hl
   | false =>
    rw[hb]at hl;cases hl;exact⟨[],rfl,List.Perm.refl _⟩
  refine⟨l'++m',?_,pl.append pm⟩;unfold fitL;rw[hp];show (bif p.2 then k' p.1 else some []).bind _=_;rw[hl'];show (fitL k' a v gs).bind _=_;rw[hm'];rfl
theorem fitL_swap {k:List Int→Option (List (List Int))} {a:qi} {v:List Int} {gs gs':List rufact} (h:gs.Perm gs'):∀ o,fitL k a v gs=some o→∃ o',fitL k a v gs'=some o'∧o.Perm o':=by
 induction h with
 | nil=>intro o h;exact⟨o,h,List.Perm.refl _⟩
 | cons g hp ih =>
  intro o h;unfold fitL at h;obtain⟨p,hp,h⟩:=qc h;obtain⟨l,hl,h⟩:=qc h;obtain⟨m,hm,h⟩:=qc h;cases h;obtain⟨m',hm',pm⟩:=ih m hm;refine⟨l++m',?_,pm.append_left l⟩;unfold fitL;rw[hp];show (bif p.2 then k p.1 else some []).bind _=_;rw[hl];show (fitL k a v _).bind _=_;rw[hm'];rfl
 | swap g1 g2 gs =>
  intro o h;unfold fitL at h;obtain⟨p,hp,h⟩:=qc h;obtain⟨l,hl,h⟩:=qc h;obtain⟨m,hm,h⟩:=qc h;cases h;unfold fitL at hm;obtain⟨p',hp',hm⟩:=qc hm;obtain⟨l',hl',hm⟩:=qc hm;obtain⟨m',hm',hm⟩:=qc hm;cases hm;refine⟨l'++(l++m'),?_,?_⟩
  ·unfold fitL;rw[hp'];show (bif p'.2 then k p'.1 else some []).bind _=_;rw[hl'];show (fitL k a v (g2::gs)).bind _=_;unfold fitL;rw[hp];show ((bif p.2 then k p.1 else some []).bind _).bind _=_;rw[hl];show ((fitL k a v gs).bind _).bind _=_;rw[hm'];rfl
  ·rw[← List.append_assoc,← List.append_assoc];exact List.perm_append_comm.append_right _
 | trans _ _ ih1 ih2 =>
  intro o h;obtain⟨o1,h1,p1⟩:=ih1 o h;obtain⟨o2,h2,p2⟩:=ih2 o1 h1;exact⟨o2,h2,p1.trans p2⟩
theorem tryP_perm {all:List ruLit} {no:List (rufact×Bool)} {bl bl':List (Int×List rufact)} (hp:∀ rel,(mget keq1 [] rel bl).Perm (mget keq1 [] rel bl')):∀ (body:List ruLit) (v:List Int) (o:List (List Int)),tryP all no bl body v=some o→∃ o',tryP all no bl' body v=some o'∧o.Perm o':=by
 intro body
 induction body with
 | nil=>intro v o h;exact⟨o,h,List.Perm.refl _⟩
 | cons x body ih =>
  intro v o h;unfold tryP at h ⊢
  cases hn:x.qn with
  | true =>
   rw[hn]at h;exact ih v o h
  | false =>
   rw[hn]at h;obtain⟨hc,h⟩:=qh (show chk (wfI .i64 x.qe.qb) (fitL (tryP all no bl body) x.qe v (mget keq1 [] x.qe.qb bl))=some o from h);obtain⟨o1,h1,p1⟩:=fitL_perm (k':=tryP all no bl' body) (fun v o h=>ih v o h) _ _ h;obtain⟨o2,h2,p2⟩:=fitL_swap (hp x.qe.qb) _ h1;refine⟨o2,?_,p1.trans p2⟩;show chk (wfI .i64 x.qe.qb) _=_;rw[hc];exact h2
theorem headOk_mem {head:qi} {d:List (List Int)} (h:headOk head d=true):∀ v,v∈d→∃ f,qM v head=some f∧wfF f=true:=by
 intro v hv;have:=List.all_eq_true.1 h v hv
 cases hg:qM v head with
 | none=>rw[hg]at this;cases this
 | some f=>rw[hg]at this;exact⟨f,rfl,this⟩
theorem headsP_wf {out:List (rufact×Bool)} {head:qi} {d:List (List Int)} (h:headOk head d=true):∀ f,f∈headsP out head d→wfF f=true∧mget qo false f out=false:=by
 intro f hf;unfold headsP at hf;obtain⟨v,hv,he⟩:=List.mem_filterMap.1 hf;obtain⟨g,h1,h2⟩:=headOk_mem h v hv;rw[h1]at he;simp only[Option.bind_some]at he
 split at he
 ·cases he
 ·rename_i hq;cases he;exact⟨h2,by simpa using hq⟩
end Go.AM
