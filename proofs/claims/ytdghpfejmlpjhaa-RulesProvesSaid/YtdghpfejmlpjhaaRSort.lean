import Derived.Test.YtdghpfejmlpjhaaRIns2
import Derived.Ground.SlsfProg
import Derived.Shelf.SlSortCmp.NoneTotal
import Derived.Test.YtdghpfejmlpjhaaProg
set_option linter.all false
set_option maxRecDepth 100000
open Prod renaming fst→A0
open Nat renaming le_refl→A1, zero_le→C7, lt_or_ge→D0
open Go.World renaming cell?→A2
open List renaming getElem_cons_succ→A3, getElem_toArray→A4, getElem_cons_zero→A5, setIfInBounds_toArray→A6, set_cons_zero→A7, set_cons_succ→A8, map_cons→A9, length_append→C0, drop_eq_getElem_cons→D1, length_map→D2, mem_cons_of_mem→D3, mem_cons→D4, replicate→D6, length_cons→D7, append_assoc→D8, getElem?_eq_getElem→E0, mem_append_right→E8, getElem?_concat_length→F6, getElem?_append_left→F7, eq_nil_of_length_eq_zero→G1, drop_eq_nil_of_le→G2
open Bool renaming and_eq_true→B1
open Go.IntKind renaming i64→D5
open Go.Result renaming andThen→D9
open Int renaming natCast_nonneg→E7
open Array renaming getElem?_push→E9, getElem?_modify→G0
open Go.MapKept renaming run_getObj_map→F8, run_setObj_map→F9
namespace Go.Proofs
open Go.RowKit Go.AM
open Go.ChangeMaps (setBlock)
variable {w w' wR:World} {B base bfr:Nat} {M0:Mem} {out:LB} {L0:LH} {fz:Nat×Nat}
def headsP (out:LB) (head:qo) (d:Li):LH:=d.filterMap fun v=>(qI v head).bind fun f=>if mget qh false f out then none else some f
def okD (head:qo) (L0:LH) (d:Li):Prop:=L0.length+d.length<=1000000000/\∀ v,v∈d->∃ f,qI v head=some f/\wfF f=true
theorem DG (out:LB) (head:qo) (d:Li):(headsP out head d).length<=d.length:=List.length_filterMap_le _ _
structure FS (M0:Mem) (wR:World) (bfr:Nat) (out:LB) (head:qo) (L0:LH) (d:Li) (M:Mem) (w:World):Prop where
 cons:Cons M w
 sub:Sub M0 M
 os:w.os=wR.os
 tape:w.tape=wR.tape
 output:w.output=wR.output
 size:wR.heap.size<=w.heap.size
 block:∀ k,k<wR.heap.size->k≠bfr->w.heap[k]? = wR.heap[k]?
 none':∀ o,M bfr o=none
 row:∃ vc,w.heap[bfr]? = some (.cells #[vc] 150 (0,0))/\w.ownsRow wR.heap.size 127 3 vc (L0++headsP out head d).length (factsC (L0++headsP out head d))/\∀ g,vc.ownBlock=some g->∀ o,M g o=none
theorem Hu {vc:Value} {n:Nat} {xs:LT} (h:w.ownsRow base 127 3 vc n xs) (hb:∀ k,k<w.heap.size->vc.ownBlock=some k->w'.heap[k]? = w.heap[k]?):w'.ownsRow base 127 3 vc n xs:=by
 obtain⟨q1,q2⟩:=h;refine⟨q1,?_⟩
 rcases q2 with hn | ⟨g,cap,cur,rfl,hb',hgg,rest⟩
 .exact .inl hn
 exact .inr ⟨g,cap,cur,rfl,hb',by rw[hb g (lt_of_block hgg) rfl];exact hgg,rest⟩
theorem FS.grow {head:qo} {d:Li} {M M':Mem} (h:FS M0 wR bfr out head L0 d M w) (hbf:bfr<wR.heap.size) (hB:Below w.heap.size w w') (hs:Sub M M') (ho:∀ b o,b<w.heap.size->M' b o=M b o) (hC:Cons M' w'):FS M0 wR bfr out head L0 d M' w':=by
 obtain⟨h1,h2,h3,h4,h5,h6,h7,h8,vc,h9,h10,h11⟩:=h;refine⟨hC,Sub.trans h2 hs,hB.os.trans h3,hB.tape.trans h4,hB.output.trans h5,Nat.le_trans h6 hB.size,fun k hk hne=>(hB.block k oM).trans (h7 k hk hne),fun o=>by rw[ho _ _ (by omega)];exact h8 o,vc,(hB.block bfr oM).trans h9,Hu h10 fun k hk _=>hB.block k hk,fun g hg o=>?_⟩;rw[ho _ _ (h10.lt g hg).2];exact h11 g hg o
theorem qbM (w:World) (base:Nat) (v:Value) (l:LH) (x:rufact) (hown:w.ownsRow base 127 3 v l.length (factsC l)) (hx:w.heap[B]? = some (.cells #[.int .i64 x.qm,.int .i64 x.f_a,.int .i64 x.f_b] 127 fz)) (hlen:l.length<=1000000000) (hb:base<=w.heap.size) (ty:TypeId) (c0:Nat) :
  ∃ g cap w',(Builtin.append_ #[150,150] ty #[v,.slice (some ⟨B,0,none⟩) 1 c0]).run Try.prog w=.ok (.slice (some ⟨g,0,none⟩) (l.length+1) cap) w'/\w'.ownsRow base 127 3 (.slice (some ⟨g,0,none⟩) (l.length+1) cap) (l.length+1) (factsC (l++[x]))/\w.grownBy w' v.ownBlock/\(v.ownBlock=some g\/g=w.heap.size)/\g<w'.heap.size:=by
 obtain⟨i0,hi,hz0,hz1,hz2⟩:=info_parts Try.info127;have h:=run_append_lies (P:=Try.prog) w 150 ty base 127 i0 (.agg #[.int .i64 0,.int .i64 0,.int .i64 0]) 3 24 Try.underlying150 hi hz0 hz1 hz2 rfl oM v l.length (factsC l) hown ⟨B,0,none⟩ 1 c0 [.int .i64 x.qm,.int .i64 x.f_a,.int .i64 x.f_b] rfl (World.news_of_block hx) (by simp[Value.oneCell']) oM (by unfold maxLen;omega) oM hb _ rfl;rw[Dr];exact h
theorem VV {ops:Lj} {rest:LF} {o:Oper} {a:Act} {Q:Exit->Act->World->Prop} (hgd:o.guard=none) (s x:Operand) (ho:o.op=.call { callee:=.builtin .append,args:=#[s,x],argTypes:=#[150,150] }) {v:Value} {l:LH} {f:rufact} {c0:Nat} 
  (hs:a.eval s=v) (hx:a.eval x=.slice (some ⟨B,0,none⟩) 1 c0) (hown:w.ownsRow base 127 3 v l.length (factsC l)) (hb:w.heap[B]? = some (.cells #[.int .i64 f.qm,.int .i64 f.f_a,.int .i64 f.f_b] 127 fz)) (hlen:l.length<=1000000000) (hbase:base<=w.heap.size)
  (h:∀ g cap w',w'.ownsRow base 127 3 (.slice (some ⟨g,0,none⟩) (l.length+1) cap) (l.length+1) (factsC (l++[f]))->w.grownBy w' v.ownBlock->(v.ownBlock=some g\/g=w.heap.size)->g<w'.heap.size->wpList Try.prog ops Q rest (a.put o.dst (.slice (some ⟨g,0,none⟩) (l.length+1) cap)) w'):wpList Try.prog ops Q (o::rest) a w:=by
 obtain⟨g,cap,w',hr,h2,h3,h4,h5⟩:=qbM w base v l f hown hb hlen hbase o.type c0
 refine wpList_plain hgd fun K hK=>?_
 unfold Oper.wp execOp;simp only[ho,resolve,invoke,builtin,Sem.run_bind,Sem.run_pure,Result.andThen_ok,List.map_toArray,A9,List.map_nil,hs,hx,hr];exact hK _ _ (h g cap w' h2 h3 h4 h5)
theorem Try.enter117:∀ args w,(callFunc 117 args).run Try.prog w=.ok (.enter 117 args) w:=fun args w=>by
 have h := Try.func117;have h1 : Try.f117.name ≠ "runtime.NumGoroutine" := oT kR
 have h2:Try.f117.body≠none:=fun e=>absurd (show Try.f117.body.isNone=false by kernel_rfl) (by rw[e];decide)
 simp[callFunc,h,h1,h2]
set_option maxHeartbeats 4000000 in
theorem Try.back117 (M0:Mem) (wR:World) (br bo bfr:Nat) (out:LB) (rel:Int) (args:LA) (L0:LH) (hbf:bfr<wR.heap.size) (hv:Value) (h0:M0 br 0=some (.int .i64 rel)) (h1:M0 br 1=some hv) (hr:R M0 (l3 none args) hv) (mo:LP) (h2:M0 bo 0=some (.map mo)) (ho:R M0 (mpE qj AV.bool out) (.map mo))
  (d:Li) (M:Mem) (w:World) (v:LA) (hv8:v.length=8) (hD:okD ⟨rel,args⟩ L0 (d++[v])) (hS:FS M0 wR bfr out ⟨rel,args⟩ L0 d M w) :
  Calls Try.prog 117 #[valsV v,.pointer (some ⟨br,0,none⟩),.pointer (some ⟨bo,0,none⟩),.pointer (some ⟨bfr,0,none⟩)] w fun e w'=>e=retU/\FS M0 wR bfr out ⟨rel,args⟩ L0 (d++[v]) M w':=by
 have mixed:=mixedP;have⟨t3,a3,z3,v3,u3⟩:=Tf3;have⟨t4,a4,z4,v4,u4⟩:=Tf4;have⟨t39,a39,z39,v39,u39⟩:=Tf39;have⟨t50,a50,z50,v50,u50⟩:=Tf50;have⟨t54,a54,z54,v54,u54⟩:=Tf54;have⟨t105,a105,z105,v105,u105⟩:=Tf105;have⟨t127,a127,z127,v127,u127⟩:=Tf127;have⟨t150,a150,z150,v150,u150⟩:=Tf150;have⟨t178,a178,z178,v178,u178⟩:=Tf178;obtain⟨x0,x1,x2,x3,x4,x5,x6,x7,rfl⟩:=eight hv8;obtain⟨f,hf,hwf⟩:=hD.2 _ (E8 _ (List.mem_singleton.2 rfl))
 have hlen:(L0++headsP out ⟨rel,args⟩ d).length<=1000000000:=by
  have h1:=hD.1;have h2:=DG out ⟨rel,args⟩ d;rw[C0]at h1 ⊢;omega
 have hC:=hS.cons;have hsub:=hS.sub;obtain⟨aa,ac,rfl⟩:=JR hr;rw[D2]at hr h1
 have c0:∀ o,(w.alloc o).cell? ⟨br,0,none⟩=some (.int .i64 rel):=fun o=>Qg ((hC.alloc o) _ _ _ (hsub _ _ _ h0)) rfl
 have c1:∀ o,(w.alloc o).cell? ⟨br,1,none⟩=some (.slice aa args.length ac):=fun o=>Qg ((hC.alloc o) _ _ _ (hsub _ _ _ h1)) rfl
 have c118:=Ua (QX [x0,x1,x2,x3,x4,x5,x6,x7] ⟨rel,args⟩ f hf) M (w.alloc (.cells #[.int .i64 x0,.int .i64 x1,.int .i64 x2,.int .i64 x3,.int .i64 x4,.int .i64 x5,.int .i64 x6,.int .i64 x7] 178)) [valsV [x0,x1,x2,x3,x4,x5,x6,x7],.agg #[.int .i64 rel,.slice aa args.length ac]] (glob0 M) (hC.alloc _) rfl (fun j a b ha hb=>by
  match j,ha,hb with
  | 0,ha,hb=>cases ha;cases hb;exact qbW _ _
  | 1,ha,hb=>cases ha;cases hb;exact qdd (hr.mono hsub))
 go_enter Try.func117,Try.ntmps117
 go_wp2_with fail
 refine Calls.mono c118 ?_
 rintro e w5 ⟨fv,M5,rfl,hB5,s5,C5,o5,r5,_⟩
 obtain rfl:fv=.agg #[.int .i64 f.qm,.int .i64 f.f_a,.int .i64 f.f_b]:=Ha r5;have B5:Below w.heap.size w w5:=((Below.refl _ _).alloc (A1 _) _).trans (hB5.mono (by simp));obtain⟨w6,ew6⟩:∃ w6,w6=w5.alloc (.cells #[.int .i64 f.qm,.int .i64 f.f_a,.int .i64 f.f_b] 127):=⟨_,rfl⟩
 have B6:Below w.heap.size w w6:=by rw[ew6];exact B5.alloc B5.size _
 have S6:=hS.grow hbf B6 (Sub.refl M) (fun _ _ _=>rfl) (hC.below B6)
 have n5:w6.heap[w5.heap.size]? = some (.cells #[.int .i64 f.qm,.int .i64 f.f_a,.int .i64 f.f_b] 127 (0,0)):=by rw[ew6];exact heap_alloc_new _ _
 have z6:w6.heap.size=w5.heap.size+1:=by rw[ew6];simp
 have k1:w6.cell? ⟨bo,0,none⟩=some (.map mo):=qY S6.cons (hsub _ _ _ h2) rfl
 have f0:w6.cell? ⟨w5.heap.size,0,none⟩=some (.int .i64 f.qm):=by simp[A2,n5]
 have f1:w6.cell? ⟨w5.heap.size,1,none⟩=some (.int .i64 f.f_a):=by simp[A2,n5]
 have f2:w6.cell? ⟨w5.heap.size,2,none⟩=some (.int .i64 f.f_b):=by simp[A2,n5]
 have hlk:=qhf (ho.mono hsub) hwf w6 S6.cons
 have hheads:headsP out ⟨rel,args⟩ (d++[[x0,x1,x2,x3,x4,x5,x6,x7]])=headsP out ⟨rel,args⟩ d++(if mget qh false f out then [] else [f]):=by
  unfold headsP;rw[List.filterMap_append]
  congr 1
  simp only[List.filterMap_cons,hf,Option.bind_some,List.filterMap_nil];cases mget qh false f out <;> rfl
 have HW:=(show Hid (w6=_) from ew6);obtain⟨bq,ebq⟩:∃ bq,bq=mget qh false f out:=⟨_,rfl⟩;rw[<- ebq]at hheads hlk;rw[ew6]at k1 f0 f1 f2 hlk;clear ew6 c118 ebq
 cases bq with
 | true =>
  have HH:=(show Hid _ from hheads);have H6:=(show Hid _ from S6);clear hheads S6 hS hC hsub c0 c1 hD n5 B5 B6 hB5 z6 s5 C5 o5 r5 hf hwf
  go_wp2
  refine bodyPost_end (results_none rfl _ _ _) rfl ?_;refine⟨rfl,?_⟩;rw[<- HW.out];obtain⟨g1,g2,g3,g4,g5,g6,g7,g8,g9⟩:=H6.out;refine⟨g1,g2,g3,g4,g5,g6,g7,g8,?_⟩;rw[HH.out]
  simpa using g9
 | false =>
  obtain⟨vc,p1,p2,p3⟩:=S6.row;obtain⟨LL,eLL⟩:∃ LL,LL=L0++headsP out ⟨rel,args⟩ d:=⟨_,rfl⟩;rw[<- eLL]at p2 hlen;have HL:=(show Hid _ from eLL);clear eLL;have hbl:bfr<w6.heap.size:=lt_of_block p1;have k2:w6.cell? ⟨bfr,0,none⟩=some vc:=cell_of_one p1;obtain⟨w7,ew7⟩:∃ w7,w7=w6.alloc (.cells #[.int .i64 f.qm,.int .i64 f.f_a,.int .i64 f.f_b] 127):=⟨_,rfl⟩
  have n7:w7.heap[w6.heap.size]? = some (.cells #[.int .i64 f.qm,.int .i64 f.f_a,.int .i64 f.f_b] 127 (0,0)):=by rw[ew7];exact heap_alloc_new _ _
  have z7:w7.heap.size=w6.heap.size+1:=by rw[ew7];simp
  have p27:w7.ownsRow wR.heap.size 127 3 vc LL.length (factsC LL):=by rw[ew7];exact p2.alloc _
  have hbase:wR.heap.size<=w7.heap.size:=by have:=S6.size;omega
  rw[HW.out]at k2;rw[HW.out]at ew7;rw[z6]at n7;have HW7:=(show Hid (w7=_) from ew7);rw[ew7]at n7 p27 hbase
  have hB8:∀ w':World,w7.grownBy w' vc.ownBlock->w'.heap[bfr]? = some (.cells #[vc] 150 (0,0)):=fun w' hg=>by
   rw[hg.block bfr (by omega) (fun e=>by have:=(p2.lt bfr e.symm).1;omega),HW7.out,heap_alloc_old _ _ (by rw[<- HW.out];exact hbl),<- HW.out];exact p1
  have HB:=(show Hid _ from hB8);have H6:=(show Hid _ from S6);have H1:=(show Hid _ from p1);have H2:=(show Hid _ from p2);have H3:=(show Hid _ from p3);have Z6:=(show Hid _ from z6);have Z7:=(show Hid _ from z7);have HH:=(show Hid _ from hheads);clear hB8 ew7 S6 p1 p2 p3 z6 z7 hheads hbl hS hC hsub c0 c1 hD n5 B5 B6 hB5 s5 C5 o5 r5 hf hwf
  go_wp2_with (first | (at_builtin;refine VV rfl (.tmp 14) (.tmp 16) (by rfl) (by rfl) (by rfl) p27 n7 hlen hbase ?_;intro g1 c1 w8 ho8 hg8 ha8 hl8;rw[<- HW7.out]at hg8 ha8;have nb8:=HB.out _ hg8;have d1:=free_of_one nb8;have d2:=cell_of_one nb8))
  refine bodyPost_end (results_none rfl _ _ _) rfl ?_;refine⟨rfl,?_⟩;obtain⟨y1,y2,y3,y4,y5,y6,y7,y8,_⟩:=H6.out;have z7:=Z7.out;have z6:=Z6.out
  have b7:∀ k,k<w6.heap.size->w7.heap[k]? = w6.heap[k]?:=fun k hk=>by rw[HW7.out,<- HW.out];exact heap_alloc_old _ _ hk
  have b8:∀ k,k<w6.heap.size->k≠bfr->some k≠vc.ownBlock->(w8.setCell ⟨bfr,0,none⟩ (.slice (some ⟨g1,0,none⟩) (LL.length+1) c1)).heap[k]? = w6.heap[k]?:=fun k hk h1 h2=>by
   rw[Below.heap_setCell _ _ _ _ h1,hg8.block k (by omega) h2,b7 k hk]
  have hs8:=hg8.size
  have hnew:∀ o,M g1 o=none:=fun o=>by
   rcases ha8 with h | h
   .exact H3.out g1 h o
   cases hm:M g1 o with
   | none=>rfl
   | some u=>have:=Ny (y1 _ _ _ hm);omega
  refine⟨y1.of_blocks fun b o u hu hb=>b8 b hb (fun e=>by rw[e,y8]at hu;cases hu) (fun e=>by rw[H3.out b e.symm]at hu;cases hu),y2,?_,?_,?_,?_,fun k hk hne=>?_,y8,_,one_setCell nb8,?_,fun g hg o=>?_⟩
  .show w8.os=_;rw[hg8.os,HW7.out,<- HW.out];exact y3
  .show w8.tape=_;rw[hg8.tape,HW7.out,<- HW.out];exact y4
  .show w8.output=_;rw[hg8.output,HW7.out,<- HW.out];exact y5
  .rw[Jr];omega
  .rw[b8 k (by omega) hne (fun e=>by have:=(World.ownsRow.lt H2.out k e.symm).1;omega)];exact y7 k hk hne
  .rw[HH.out]
   have e1:L0++(headsP out ⟨rel,args⟩ d++(if false=true then [] else [f]))=LL++[f]:=by rw[HL.out];simp
   rw[e1,C0]
   refine Hu ho8 fun k hk hkb=>Below.heap_setCell _ _ _ _ fun e=>?_
   have h9:=(ho8.lt k hkb).1;have e:k=bfr:=e;omega
  cases hg;exact hnew o
theorem FS.cb {br bo:Nat} {rel:Int} {args:LA} (hbf:bfr<wR.heap.size) {hv:Value} (h0:M0 br 0=some (.int .i64 rel)) (h1:M0 br 1=some hv) (hr:R M0 (l3 none args) hv) {mo:LP} (h2:M0 bo 0=some (.map mo)) (ho:R M0 (mpE qj AV.bool out) (.map mo)) :
  CB (okD ⟨rel,args⟩ L0) 117 #[.pointer (some ⟨br,0,none⟩),.pointer (some ⟨bo,0,none⟩),.pointer (some ⟨bfr,0,none⟩)] M0 (FS M0 wR bfr out ⟨rel,args⟩ L0):=by
 refine⟨fun h=>⟨?_,fun v hv=>h.2 v (List.mem_append_left _ hv)⟩,Try.enter117,fun h=>⟨h.cons,h.sub⟩,fun h hB hs ho hC=>h.grow hbf hB hs ho hC,fun h h1 h2=>?_,fun v hv8 hD hS=>Try.back117 M0 wR br bo bfr out rel args L0 hbf hv h0 h1 hr mo h2 ho _ _ _ v hv8 hD hS⟩
 .have:=h.1;rw[C0]at this;omega
 obtain⟨y1,y2,y3,y4,y5,y6,y7,y8,vc,y9,y10,y11⟩:=h;rename_i M M' _
 have none_of:∀ {b o:Nat},M b o=none->M' b o=none:=fun {b o} hm=>by
  cases hq:M' b o with
  | none=>rfl
  | some u=>have:=h2 b o u hq;rw[hm]at this;cases this
 exact⟨fun b o u hu=>y1 b o u (h2 b o u hu),h1,y3,y4,y5,y6,y7,fun o=>none_of (y8 o),vc,y9,y10,fun g hg o=>none_of (y11 g hg o)⟩
end Go.Proofs
namespace Go.AM
open Go.Proofs
variable {x y:rufact} {a b out:LB} {d:Li} {k:LA->LX} {v:LA}
theorem YN:qh x y=true↔x=y:=by
 obtain⟨a,b,c⟩:=x;obtain⟨d,e,f⟩:=y;simp[qh]
theorem Zk:qh x y=false↔x≠y:=by
 rw[<- Bool.not_eq_true,YN]
def byRelL (out:LB):Lf:=out.foldl (fun bl p=>mset keq1 p.1.qm (mget keq1 [] p.1.qm bl++[p.1]) bl) []
def headOk (head:qo) (d:Li):Bool:=d.all fun v=>match qI v head with
 | some f=>wfF f
 | none=>false
def freshL (no out:LB):LJ->LH->Option LH
 | [],acc=>some acc
 | r::rs,acc=>chk (decide (r.qd.length<=1000)) ((tryP r.qd no (byRelL out) r.qd (D6 8 0)).bind fun d=>chk (decide (acc.length+d.length<=900000000) && headOk r.qf d) (freshL no out rs (acc++headsP out r.qf d)))
def addF (out:LB) (fr:LH):LB:=fr.foldl (fun o f=>mset qh f true o) out
def consR (l:LJ) (no:LB):Nat->LB->Option LB
 | 0,_=>none
 | n+1,out=>chk (decide (out.length<=100000)) ((freshL no out l []).bind fun fr=>bif fr.isEmpty then some out else consR l no n (addF out fr))
def consP (fuel:Nat) (l:LJ) (gv no:LB):Option LB :=
 chk (gv.all (fun p=>wfF p.1) && decide (l.length<=100000/\gv.length<=100000)) (consR l no fuel (addF [] (gv.map A0)))
structure NT (out:LB):Prop where
 t:∀ p,p∈out->p.2=true
 n:(out.map A0).Nodup
theorem NT.mget {out:LB} (h:∀ p,p∈out->p.2=true) (f:rufact):mget qh false f out=true↔f∈out.map A0:=by
 induction out with
 | nil=>simp[Go.AM.mget]
 | cons p r ih =>
  have ih:=ih fun q hq=>h q (D3 _ hq)
  simp only[Go.AM.mget]
  cases hq:qh p.1 f with
  | true =>
   have:=YN.1 hq;simp[this,h p (List.mem_cons_self ..)]
  | false =>
   have:=Zk.1 hq;simp only[cN,ih,A9,D4];constructor
   .exact .inr
   rintro (h1 | h1)
   .exact absurd h1.symm this
   exact h1
theorem NT.mset {out:LB} (h:NT out) (f:rufact):NT (mset qh f true out)/\(∀ g,g∈(mset qh f true out).map A0↔g=f\/g∈out.map A0)/\out.length<=(mset qh f true out).length/\(f ∉ out.map A0->(mset qh f true out).length=out.length+1):=by
 induction out with
 | nil=>exact⟨⟨by simp[Go.AM.mset],by simp[Go.AM.mset]⟩,by simp[Go.AM.mset],by simp,by simp[Go.AM.mset]⟩
 | cons p r ih =>
  obtain⟨h1,h2⟩:=h;rw[A9,List.nodup_cons]at h2;obtain⟨ih1,ih2,ih3,ih4⟩:=ih ⟨fun q hq=>h1 q (D3 _ hq),h2.2⟩;simp only[Go.AM.mset]
  cases hq:qh p.1 f with
  | true =>
   have:=YN.1 hq;subst this;simp only[cT];refine⟨⟨fun q hq=>?_,by simpa using h2⟩,fun g=>by simp,by simp,fun hn=>absurd (by simp) hn⟩
   rcases List.mem_cons.1 hq with rfl | hq
   .rfl
   exact h1 q (D3 _ hq)
  | false =>
   have hne:=Zk.1 hq;simp only[cN];refine⟨⟨fun q hq=>?_,?_⟩,fun g=>?_,by simpa using ih3,fun hn=>?_⟩
   .rcases List.mem_cons.1 hq with rfl | hq
    .exact h1 _ (List.mem_cons_self ..)
    exact ih1.t q hq
   .rw[A9,List.nodup_cons];refine⟨fun hm=>?_,ih1.n⟩
    rcases (ih2 _).1 hm with h | h
    .exact hne h
    exact h2.1 h
   .rw[A9,D4,ih2,A9,D4];constructor
    .rintro (h | h | h)
     .exact .inr (.inl h)
     .exact .inl h
     exact .inr (.inr h)
    rintro (h | h | h)
    .exact .inr (.inl h)
    .exact .inl h
    exact .inr (.inr h)
   rw[D7,ih4 (fun h=>hn (by rw[A9];exact D3 _ h)),D7]
theorem NT.add {fr:LH}:∀ {out:LB},NT out->NT (addF out fr)/\(∀ g,g∈(addF out fr).map A0↔g∈fr\/g∈out.map A0)/\out.length<=(addF out fr).length/\(∀ f,f∈fr->f ∉ out.map A0->out.length<(addF out fr).length):=by
 induction fr with
 | nil=>intro out h;exact⟨h,fun g=>by simp[addF],A1 _,fun f hf=>by simp at hf⟩
 | cons f fr ih =>
  intro out h;obtain⟨m1,m2,m3,m4⟩:=h.mset f;obtain⟨a1,a2,a3,a4⟩:=ih m1;have e:addF out (f::fr)=addF (Go.AM.mset qh f true out) fr:=rfl;rw[e];refine⟨a1,fun g=>?_,Nat.le_trans m3 a3,fun g hg hn=>?_⟩
  .rw[a2,m2,D4];constructor
   .rintro (h | h | h)
    .exact .inl (.inr h)
    .exact .inl (.inl h)
    exact .inr h
   rintro ((h | h) | h)
   .exact .inr (.inl h)
   .exact .inl h
   exact .inr (.inr h)
  rcases List.mem_cons.1 hg with rfl | hg
  .have:=m4 hn;omega
  by_cases hgf:g=f
  .subst hgf;have:=m4 hn;omega
  have:=a4 g hg (fun h=>by
   rcases (m2 g).1 h with h | h
   .exact hgf h
   exact hn h)
  omega
theorem NT.nodup (h:NT out):out.Nodup:=List.Pairwise.of_map A0 (fun a b h e=>h (by rw[e])) h.n
theorem NT.mem (h:NT out) (p:rufact×Bool):p∈out↔p.2=true/\p.1∈out.map A0:=by
 constructor
 .intro hp;exact⟨h.t p hp,List.mem_map.2 ⟨p,hp,rfl⟩⟩
 rintro⟨h1,h2⟩
 obtain⟨q,hq,he⟩:=List.mem_map.1 h2;have:=h.t q hq;have:q=p:=Prod.ext he (by rw[h1,this]);rw[<- this];exact hq
theorem NT.perm (ha:NT a) (hb:NT b) (h:∀ g,g∈a.map A0↔g∈b.map A0):a.Perm b:=by
 classical
 refine (List.perm_ext_iff_of_nodup ha.nodup hb.nodup).2 fun p=>?_
 rw[ha.mem,hb.mem,h]
theorem NT.of_perm (ha:NT a) (h:a.Perm b):NT b:=⟨fun p hp=>ha.t p (h.mem_iff.2 hp),(h.map A0).nodup_iff.1 ha.n⟩
theorem NT.empty:NT []:=⟨fun p hp=>by simp at hp,by simp⟩
theorem qgu {out':LB} (ha:NT out) (hp:out.Perm out') (head:qo) (d:Li):headsP out head d=headsP out' head d:=by
 have hb:=ha.of_perm hp;unfold headsP
 congr 1
 funext v
 congr 1
 funext f
 have:mget qh false f out=mget qh false f out':=by
  rw[Bool.eq_iff_iff,NT.mget ha.t,NT.mget hb.t,(hp.map A0).mem_iff]
 rw[this]
theorem qff {head:qo} {d':Li} (hp:d.Perm d'):(headsP out head d).Perm (headsP out head d'):=hp.filterMap _
theorem qdc (rel:Int):∀ (out:LB) (bl:Lf),mget keq1 [] rel (out.foldl (fun bl p=>mset keq1 p.1.qm (mget keq1 [] p.1.qm bl++[p.1]) bl) bl)=mget keq1 [] rel bl++(out.map A0).filter fun f=>f.qm == rel
 | [],bl=>by simp
 | p::out,bl=>by
  rw[List.foldl_cons,qdc rel out,qaZ,A9,List.filter_cons];by_cases h:rel=p.1.qm
  .subst h;simp
  have:(p.1.qm == rel)=false:=by simp;omega
  simp[h,this]
theorem Va (rel:Int) (out:LB):mget keq1 [] rel (byRelL out)=(out.map A0).filter fun f=>f.qm == rel:=by
 unfold byRelL;rw[qdc];simp[mget]
theorem qjy {k':LA->LX} {a:qo} (hk:∀ v o,k v=some o->∃ o',k' v=some o'/\o.Perm o'):∀ (gs:LH) (o:Li),fitL k a v gs=some o->∃ o',fitL k' a v gs=some o'/\o.Perm o':=by
 intro gs
 induction gs with
 | nil=>intro o h;cases h;exact⟨[],rfl,List.Perm.refl _⟩
 | cons g gs ih =>
  intro o h;unfold fitL at h;obtain⟨p,hp,h⟩:=qb h;obtain⟨l,hl,h⟩:=qb h;obtain⟨m,hm,h⟩:=qb h;cases h;obtain⟨m',hm',pm⟩:=ih m hm
  obtain⟨l',hl',pl⟩:∃ l',(bif p.2 then k' p.1 else some [])=some l'/\l.Perm l':=by
   cases hb:p.2 with
   | true =>
    rw[hb]at hl;exact hk _ _ hl
   | false =>
    rw[hb]at hl;cases hl;exact⟨[],rfl,List.Perm.refl _⟩
  refine⟨l'++m',?_,pl.append pm⟩;unfold fitL;rw[hp];show (bif p.2 then k' p.1 else some []).bind _=_;rw[hl'];show (fitL k' a v gs).bind _=_;rw[hm'];rfl
theorem qjx {a:qo} {gs gs':LH} (h:gs.Perm gs'):∀ o,fitL k a v gs=some o->∃ o',fitL k a v gs'=some o'/\o.Perm o':=by
 induction h with
 | nil=>intro o h;exact⟨o,h,List.Perm.refl _⟩
 | cons g hp ih =>
  intro o h;unfold fitL at h;obtain⟨p,hp,h⟩:=qb h;obtain⟨l,hl,h⟩:=qb h;obtain⟨m,hm,h⟩:=qb h;cases h;obtain⟨m',hm',pm⟩:=ih m hm;refine⟨l++m',?_,pm.append_left l⟩;unfold fitL;rw[hp];show (bif p.2 then k p.1 else some []).bind _=_;rw[hl];show (fitL k a v _).bind _=_;rw[hm'];rfl
 | swap g1 g2 gs =>
  intro o h;unfold fitL at h;obtain⟨p,hp,h⟩:=qb h;obtain⟨l,hl,h⟩:=qb h;obtain⟨m,hm,h⟩:=qb h;cases h;unfold fitL at hm;obtain⟨p',hp',hm⟩:=qb hm;obtain⟨l',hl',hm⟩:=qb hm;obtain⟨m',hm',hm⟩:=qb hm;cases hm;refine⟨l'++(l++m'),?_,?_⟩
  .unfold fitL;rw[hp'];show (bif p'.2 then k p'.1 else some []).bind _=_;rw[hl'];show (fitL k a v (g2::gs)).bind _=_;unfold fitL;rw[hp];show ((bif p.2 then k p.1 else some []).bind _).bind _=_;rw[hl];show ((fitL k a v gs).bind _).bind _=_;rw[hm'];rfl
  rw[<- D8,<- D8];exact List.perm_append_comm.append_right _
 | trans _ _ ih1 ih2 =>
  intro o h;obtain⟨o1,h1,p1⟩:=ih1 o h;obtain⟨o2,h2,p2⟩:=ih2 o1 h1;exact⟨o2,h2,p1.trans p2⟩
theorem UL {all:LS} {no:LB} {bl bl':Lf} (hp:∀ rel,(mget keq1 [] rel bl).Perm (mget keq1 [] rel bl')):∀ (body:LS) (v:LA) (o:Li),tryP all no bl body v=some o->∃ o',tryP all no bl' body v=some o'/\o.Perm o':=by
 intro body
 induction body with
 | nil=>intro v o h;exact⟨o,h,List.Perm.refl _⟩
 | cons x body ih =>
  intro v o h;unfold tryP at h ⊢
  cases hn:x.qu with
  | true =>
   rw[hn]at h;exact ih v o h
  | false =>
   rw[hn]at h;obtain⟨hc,h⟩:=qg (show chk (wfI .i64 x.qe.qc) (fitL (tryP all no bl body) x.qe v (mget keq1 [] x.qe.qc bl))=some o from h);obtain⟨o1,h1,p1⟩:=qjy (k':=tryP all no bl' body) (fun v o h=>ih v o h) _ _ h;obtain⟨o2,h2,p2⟩:=qjx (hp x.qe.qc) _ h1;refine⟨o2,?_,p1.trans p2⟩;show chk (wfI .i64 x.qe.qc) _=_;rw[hc];exact h2
theorem qcE {head:qo} (h:headOk head d=true):∀ v,v∈d->∃ f,qI v head=some f/\wfF f=true:=by
 intro v hv;have:=List.all_eq_true.1 h v hv
 cases hg:qI v head with
 | none=>rw[hg]at this;cases this
 | some f=>rw[hg]at this;exact⟨f,rfl,this⟩
theorem qjt {head:qo} (h:headOk head d=true):∀ f,f∈headsP out head d->wfF f=true/\mget qh false f out=false:=by
 intro f hf;unfold headsP at hf;obtain⟨v,hv,he⟩:=List.mem_filterMap.1 hf;obtain⟨g,h1,h2⟩:=qcE h v hv;rw[h1]at he;simp only[Option.bind_some]at he;split at he
 .cases he
 rename_i hq;cases he;exact⟨h2,by simpa using hq⟩
end Go.AM
namespace Go.AM
open Go.RowKit Go.Proofs
open Go.ChangeMaps (setBlock)
variable {K V:Type} {F:K->AV} {G:V->AV} {eq:K->K->Bool}
variable {M:Mem} {w:World} {g:Nat} {o':Obj}
def MapAt (M:Mem) (w:World) (g:Nat) (F:K->AV) (G:V->AV) (l:List (K×V)):Prop :=
 ∃ es clock,w.heap[g]? = some (.map es clock)/\EntOk M es clock (l.map fun p=>F p.1) (l.map fun p=>G p.2)
theorem MapAt.mono {M M':Mem} {w:World} {g:Nat} {l:List (K×V)} (h:MapAt M w g F G l) (hs:Sub M M'):MapAt M' w g F G l:=by
 obtain⟨es,clock,h1,h2⟩:=h;exact⟨es,clock,h1,h2.mono hs⟩
theorem MapAt.of {w':World} {l:List (K×V)} (h:MapAt M w g F G l) (hb:w'.heap[g]? = w.heap[g]?):MapAt M w' g F G l:=by
 obtain⟨es,clock,h1,h2⟩:=h;exact⟨es,clock,hb.trans h1,h2⟩
theorem MapAt.lt {l:List (K×V)} (h:MapAt M w g F G l):g<w.heap.size:=by
 obtain⟨es,clock,h1,_⟩:=h;exact (Array.getElem?_eq_some_iff.1 h1).1
theorem MapAt.empty (h:w.heap[g]? = some (.map #[] 0)):MapAt M w g F G []:=⟨#[],0,h,(MapKept.stamped_iff _ _).2 ⟨by simp,by simp,by simp⟩,C7 _,rfl,rfl,fun j k e hk=>by simp at hk,fun j k e hk=>by simp at hk⟩
theorem Try.update_own {es:LW} {clock:Nat} {t kt e:TypeId} {l:List (K×V)} (E:EntOk M es clock (l.map fun p=>F p.1) (l.map fun p=>G p.2)) (ht:Xe Try.prog t=some (kt,e)) (hf:∀ x,keyFits Try.prog kt (F x)=true) (he:∀ x y,akeq (F x) (F y)=eq x y) {k:K} {v:V} {kv vv:Value} (hkv:(F k).keyV=some kv) (hvv:R M (G v) vv) (hl:l.length<1000000000) :
  ∃ es' clock',EntOk M es' clock' ((mset eq k v l).map fun p=>F p.1) ((mset eq k v l).map fun p=>G p.2)/\∀ (w:World) (g:Nat),w.heap[g]? = some (.map es clock)->(Instr.mapUpdate t (.map (some g)) kv vv).run Try.prog w=.ok () (setBlock w g (.map es' clock')):=by
 have ht':=QH ht
 have fnd:=fun w=>Zb (P:=Try.prog) (w:=w) (hf k) hkv (UX hf l) E
 obtain⟨E1,E2,E3,E4,E5,E6⟩:=E;have w0:World:=(default:World);obtain⟨_,_,hfd⟩:=fnd w0
 rcases hfd with ⟨f1,_,f3⟩ | ⟨j,e0,f1,_,f3,f4⟩
 .rcases Da (G:=G) he k v l with ⟨i,g1,_⟩ | ⟨g1,g2,g3⟩
  .rw[f1]at g1;cases g1
  rw[g2,g3];refine⟨es.push ⟨kv,vv,clock⟩,clock+1,⟨MapKept.stamped_push E1 f3,by simp[maxLen];simp at E3;omega,by simp at E3 ⊢;exact E3,by simp at E4 ⊢;exact E4,fun j k' e' hk' he'=>?_,fun j v' e' hv' he'=>?_⟩,fun w g hb=>?_⟩
  .rw[E9]at he';split at he'
   .rename_i hj;cases he';rw[hj,<- E3]at hk';simp only[F6,Option.some.injEq]at hk';subst hk';exact hkv
   rename_i hj
   have hjl:j<(l.map fun p=>F p.1).length:=by
    have:=(Array.getElem?_eq_some_iff.1 he').1;omega
   rw[F7 hjl]at hk';exact E5 j k' e' hk' he'
  .rw[E9]at he';split at he'
   .rename_i hj;cases he';rw[hj,<- E4]at hv';simp only[F6,Option.some.injEq]at hv';subst hv';exact hvv
   rename_i hj
   have hjl:j<(l.map fun p=>G p.2).length:=by
    have:=(Array.getElem?_eq_some_iff.1 he').1;omega
   rw[F7 hjl]at hv';exact E6 j v' e' hv' he'
  obtain⟨hck,hst,hfd⟩:=fnd w
  rcases hfd with ⟨_,f2,_⟩ | ⟨j,e0,q1,_⟩
  .simp[Instr.mapUpdate,run_underlying ht',F8 hb,hck,f2,F9 _ hb,D9,setBlock]
  rw[f1]at q1;cases q1
 rcases Da (G:=G) he k v l with ⟨i,g1,g2,g3⟩ | ⟨g1,_⟩
 .rw[f1]at g1;cases g1;rw[g2,g3]
  have hj:es[j]? = some e0:=by simpa using f3
  have hjs:j<es.size:=(Array.getElem?_eq_some_iff.1 hj).1
  have hkeyf:∀ e',es[j]? = some e'->({ e' with key:=kv,val:=vv }:MapEntry).key=e'.key:=fun e' he'=>by rw[hj]at he';cases he';exact f4.symm
  refine⟨es.modify j (fun e'=>{ e' with key:=kv,val:=vv }),clock,⟨MapKept.stamped_modify E1 _ _ (fun _ _=>rfl) (fun e' _ he'=>hkeyf e' he'),by simpa using E2,by simpa using E3,by simpa using E4,fun i k' e' hk' he'=>?_,fun i v' e' hv' he'=>?_⟩,fun w g hb=>?_⟩
  .rw[G0]at he';split at he'
   .rename_i hij;subst hij;rw[hj]at he';cases he';show k'.keyV=some kv;rw[<- f4];exact E5 j k' e0 hk' hj
   exact E5 i k' e' hk' he'
  .rw[G0]at he';split at he'
   .rename_i hij;subst hij;rw[hj]at he';cases he';rw[List.getElem?_set_self (by omega)]at hv';cases hv';exact hvv
   rename_i hij;rw[List.getElem?_set_ne hij]at hv';exact E6 i v' e' hv' he'
  obtain⟨hck,hst,hfd⟩:=fnd w
  rcases hfd with ⟨q1,_⟩ | ⟨j',e',q1,f2,q3,q4⟩
  .rw[f1]at q1;cases q1
  rw[f1]at q1;cases q1;simp[Instr.mapUpdate,run_underlying ht',F8 hb,hck,f2,hj,f4,hst,F9 _ hb,D9,setBlock]
 rw[f1]at g1;cases g1
theorem setBlock_at {o:Obj} (h:w.heap[g]? = some o):(setBlock w g o').heap[g]? = some o':=by
 have:=(Array.getElem?_eq_some_iff.1 h).1;unfold setBlock;simp[this]
theorem setBlock_other {k:Nat} (h:k≠g):(setBlock w g o').heap[k]? = w.heap[k]?:=by
 unfold setBlock;simp[Array.getElem?_setIfInBounds,Ne.symm h]
theorem setBlock_size:(setBlock w g o').heap.size=w.heap.size:=by
 unfold setBlock;simp
end Go.AM
namespace Go.Proofs
open Go.RowKit Go.AM
open Go.ChangeMaps (setBlock)
variable {M:Mem} {w:World} {g:Nat} {a b out:LB}
def IterG (M:Mem) (es:LW) (w:World) (gi:Nat) (rem:LH):Prop :=
 (es=#[]/\rem=[]/\w.heap[gi]? = some (.mapIter none 0 #[] 0))\/∃ bm clock,M bm 0=some (mapCell es clock)/\MapKept.Stamped es clock/\Iter factV w gi bm es clock rem
theorem IterG.of {M:Mem} {es:LW} {w w':World} {gi:Nat} {rem:LH} (h:IterG M es w gi rem) (hb:w'.heap[gi]? = w.heap[gi]?):IterG M es w' gi rem:=by
 rcases h with ⟨h1,h2,h3⟩ | ⟨bm,clock,h1,h2,h3⟩
 .exact .inl ⟨h1,h2,hb.trans h3⟩
 exact .inr ⟨bm,clock,h1,h2,h3.of hb⟩
theorem IterG.left {M:Mem} {es:LW} {w:World} {gi:Nat} {rem:LH} (h:IterG M es w gi rem):itLeft es gi w=rem.length:=by
 rcases h with ⟨h1,h2,h3⟩ | ⟨bm,clock,h1,h2,h3⟩
 .subst h1;subst h2;unfold itLeft;rw[h3];rfl
 exact h3.left
theorem IterG.next {M:Mem} {es:LW} {w:World} {gi:Nat} {rem:LH} (h:IterG M es w gi rem) (hC:Cons M w) (ty:TypeId) :
  (rem=[]/\(Instr.next (.pointer (some ⟨gi,0,none⟩)) false ty).run Try.prog w=.ok (.tuple #[.bool false]) w) \/
  ∃ (j:Nat) (f:rufact) (v:Value) (w1:World),rem[j]? = some f/\(Instr.next (.pointer (some ⟨gi,0,none⟩)) false ty).run Try.prog w=.ok (.tuple #[.bool true,.agg #[.int .i64 f.qm,.int .i64 f.f_a,.int .i64 f.f_b],v]) w1/\w.grownBy w1 (some gi)/\w1.heap.size=w.heap.size/\IterG M es w1 gi (rem.eraseIdx j) /\
   ∀ w2,w2.heap[gi]? = w1.heap[gi]?->Cons M w2->(Instr.entry (.pointer (some ⟨gi,0,none⟩))).run Try.prog w2=.ok (.tuple #[.agg #[.int .i64 f.qm,.int .i64 f.f_a,.int .i64 f.f_b],v]) w2:=by
 rcases h with ⟨h1,h2,h3⟩ | ⟨bm,clock,h1,h2,h3⟩
 .left;refine⟨h2,?_⟩;simp[Instr.next,getObj,Sem.run,h3,D9]
 rcases h3.next (Vt (hC _ _ _ h1)) h2 ty with ⟨q1,q2⟩ | ⟨j,f,v,w1,q1,q2,q3,q4,q5,q6⟩
 .exact .inl ⟨q1,q2⟩
 exact .inr ⟨j,f,v,w1,q1,q2,q3,q4,.inr ⟨bm,clock,h1,h2,q5⟩,fun w2 e1 e2=>q6 w2 e1 (Vt (e2 _ _ _ h1))⟩
theorem qdV {inl:LB} {mv:Value} (h:R M (mpE qj AV.bool inl) mv):∃ (es:LW) (fs:LH),(inl.map A0).Perm fs/\∀ w,Cons M w->∃ o,(Instr.range 105 mv).run Try.prog w=.ok (.pointer (some ⟨w.heap.size,0,none⟩)) (w.alloc o)/\IterG M es (w.alloc o) w.heap.size fs:=by
 obtain⟨mo,rfl⟩:=ZB h
 cases mo with
 | none =>
  have h0:inl=[]:=by
   have h':R M (.mpv (inl.map fun p=>qj p.1) (inl.map fun p=>AV.bool p.2)) (.map none):=h
   rcases Uz h' with ⟨_,h1,_⟩ | ⟨ks',vs',b,es,clock,hp,hv,_⟩
   .exact List.map_eq_nil_iff.1 h1
   cases hv
  subst h0;exact⟨#[],[],List.Perm.refl _,fun w hC=>⟨_,run_range_nilMap w 105 127 4 Try.underlying105,.inl ⟨rfl,rfl,heap_alloc_new _ _⟩⟩⟩
 | some gi =>
  obtain⟨es,clock,fs,q1,q2,q3,q4,q5⟩:=qfJ h;refine⟨es,fs,q3,fun w hC=>?_⟩;have hb:=Vt (hC _ _ _ q1);exact⟨_,run_range_map w 105 127 4 gi es clock Try.underlying105 hb,.inr ⟨gi,clock,q1,q2,Iter.start (heap_alloc_new _ _) q4 q5⟩⟩
abbrev SetAt (w:World) (g:Nat) (out:LB):Prop:=MapAt (fun _ _=>none) w g qj AV.bool out
theorem fits127 (x:rufact):keyFits Try.prog 127 (qj x)=true:=by kernel_rfl
theorem SetAt.put (h:SetAt w g out) {f:rufact} (hf:wfF f=true) (hl:out.length<1000000000) :
  ∃ o',(Instr.mapUpdate 105 (.map (some g)) (.agg #[.int .i64 f.qm,.int .i64 f.f_a,.int .i64 f.f_b]) (.bool true)).run Try.prog w=.ok () (setBlock w g o')/\SetAt (setBlock w g o') g (mset qh f true out):=by
 obtain⟨es,clock,hb,hE⟩:=h
 have hk:(qj f).keyV=some (.agg #[.int .i64 f.qm,.int .i64 f.f_a,.int .i64 f.f_b]):=by
  unfold wfF at hf;rw[B1,B1]at hf;simp only[qj,AV.keyV,keyVs,hf.1.1,hf.1.2,hf.2]
 obtain⟨es',clock',hE',hU⟩:=Try.update_own (t:=105) (kt:=127) (e:=4) (eq:=qh) (G:=AV.bool) hE kR fits127 (fun x y=>rfl) (k:=f) (v:=true) hk (.bool true) hl;exact⟨_,hU w g hb,es',clock',Go.AM.setBlock_at hb,hE'⟩
theorem SetAt.freeze {B:Nat} (h:SetAt w g out) (hB:B<=g):R (mtail M B w) (mpE qj AV.bool out) (.map (some g)):=by
 obtain⟨es,clock,hb,hE⟩:=h
 obtain⟨h2,h3,h4,h5,h6,h7⟩:=EntOk.mono hE (M':=mtail M B w) fun b o u hu=>by cases hu
 exact .mpv (by rw[JT hB];exact Zj hb) h2 h3 h4 h5 h6 h7
theorem qjh (h:a.Perm b):PermKV (b.map fun p=>qj p.1) (b.map fun p=>AV.bool p.2) (a.map fun p=>qj p.1) (a.map fun p=>AV.bool p.2):=by
 refine⟨by simp,by simp,?_⟩
 have e:∀ l:LB,(l.map fun p=>qj p.1).zip (l.map fun p=>AV.bool p.2)=l.map fun p=>(qj p.1,AV.bool p.2):=fun l=>by
  induction l with
  | nil=>rfl
  | cons p l ih=>simp[ih]
 rw[e,e];exact h.symm.map _
theorem qjW (h:a.Perm b) {mo:LP} (hr:R M (mpE qj AV.bool a) (.map mo)):R M (mpE qj AV.bool b) (.map mo):=.mpp (qjh h) hr
theorem FS.pack {M0 M':Mem} {wR:World} {bfr:Nat} {head h2:qo} {L0:LH} {d:Li} (h:FS M0 wR bfr out head L0 d M w) (hs:Sub M' M):FS M' wR bfr out h2 (L0++headsP out head d) [] M w:=by
 obtain⟨y1,y2,y3,y4,y5,y6,y7,y8,vc,y9,y10,y11⟩:=h;refine⟨y1,hs,y3,y4,y5,y6,y7,y8,vc,y9,?_,y11⟩
 have:L0++headsP out head d++headsP out h2 []=L0++headsP out head d:=by simp[headsP]
 rw[this];exact y10
theorem Dx {l:LJ} {v:Value} (h:R M (l54 none l) v):∃ a cap,v=.slice a l.length cap/\∀ i x,l[i]? = some x->∃ b off hv bv,a=some ⟨b,off,none⟩/\M b (off+i * 3)=some (.int .i64 x.qf.qc)/\M b (off+i * 3+1)=some hv/\M b (off+i * 3+2)=some bv/\R M (l3 none x.qf.qa) hv/\R M (l56 none x.qd) bv:=by
 obtain⟨a,cap,rfl,hc⟩:=qba h;refine⟨a,cap,by rw[D2],fun i x hx=>?_⟩;obtain⟨b,off,rfl,hcell⟩:=hc i (Yj x) (by simp[hx]);obtain⟨u0,h0,r0⟩:=hcell 0 _ rfl;obtain⟨u1,h1,r1⟩:=hcell 1 _ rfl;obtain⟨u2,h2,r2⟩:=hcell 2 _ rfl;cases r0;exact⟨b,off,u1,u2,rfl,h0,h1,h2,r1,r2⟩
theorem qcx {fr:LH} (h:NT out) {P:rufact->Prop} (h1:∀ f,f∈fr->P f) (h2:∀ p,p∈out->P p.1):∀ p,p∈addF out fr->P p.1:=fun p hp=>by
 rcases (h.add.2.1 p.1).1 (List.mem_map.2 ⟨p,hp,rfl⟩) with h3 | h3
 .exact h1 _ h3
 obtain⟨q,hq,he⟩:=List.mem_map.1 h3;rw[<- he];exact h2 q hq
theorem Hl:∀ (fr:LH) (out:LB),(addF out fr).length<=out.length+fr.length
 | [],out=>A1 _
 | f::fr,out=>by
  have h1:=Hl fr (mset qh f true out)
  have h2:∀ o:LB,(mset qh f true o).length<=o.length+1:=by
   intro o
   induction o with
   | nil=>simp[mset]
   | cons p r ih =>
    unfold mset;cases qh p.1 f <;> simp <;> omega
  have h3:=h2 out;show (addF (mset qh f true out) fr).length<=_;rw[D7];omega
end Go.Proofs
namespace Go.Proofs
open Go.RowKit Go.AM
open Go.ChangeMaps (setBlock)
variable {w:World} {l:LJ} {gv no:LB}
def mapLen (g:Nat) (w:World):Nat:=match w.heap[g]? with
 | some (.map es _)=>es.size
 | _=>0
theorem SetAt.len {g:Nat} {out:LB} (h:SetAt w g out):mapLen g w=out.length:=by
 obtain⟨es,clock,hb,_,_,h3,_⟩:=h;unfold mapLen;rw[hb]
 simpa using h3.symm
theorem qav {α:Type}:∀ (l:List α) (j:Nat) (h:j<l.length),l.Perm (l[j]::l.eraseIdx j)
 | [],j,h=>by simp at h
 | a::l,0,h=>by simp
 | a::l,j+1,h=>by
  simp only[A3,List.eraseIdx_cons_succ];exact ((qav l j (by simpa using h)).cons a).trans (List.Perm.swap _ _ _)
def boolOf:Value->Bool
 | .bool b=>b
 | _=>false
structure I2 (l:LJ) (no r:LB) (w w3:World) (b:Bool) (wr:World):Prop where
 below:Below w.heap.size w wr
 size:w3.heap.size<=wr.heap.size
 old:∀ k,k<w3.heap.size->k≠w.heap.size->wr.heap[k]? = w3.heap[k]?
 set:∃ outp,SetAt wr w.heap.size outp/\NT outp/\(∀ p,p∈outp->wfF p.1=true)/\(b=true->∃ n outc,consR l no n outc=some r/\outp.Perm outc)/\(b=false->outp.Perm r)
theorem qcK (no out:LB):∀ (l:LJ) (acc fr:LH),freshL no out l acc=some fr->acc.length<=900000000->fr.length<=900000000
 | [],acc,fr,h,ha=>by cases h;exact ha
 | r::rs,acc,fr,h,ha=>by
  obtain⟨_,h⟩:=qg (show chk (decide (r.qd.length<=1000)) ((tryP r.qd no (byRelL out) r.qd (D6 8 0)).bind fun d=>chk (decide (acc.length+d.length<=900000000) && headOk r.qf d) (freshL no out rs (acc++headsP out r.qf d)))=some fr from h);obtain⟨d,_,h⟩:=qb h;obtain⟨hc,h⟩:=qg h;rw[B1,decide_eq_true_eq]at hc;refine qcK no out rs _ _ h ?_;rw[C0];have:=DG out r.qf d;omega
def qlh (w:World) (r:LB) (e:Ending) (w':World):Prop:=e=.returned (.map (some w.heap.size))/\Below w.heap.size w w'/\∃ outp,SetAt w' w.heap.size outp/\NT outp/\outp.Perm r/\∀ p,p∈outp->wfF p.1=true
set_option maxHeartbeats 8000000 in
theorem Try.cons74o {fuel:Nat} {r:LB} (h:consP fuel l gv no=some r) {M:Mem} (hC:Cons M w) {lv gvv nov:Value} (rl:R M (l54 none l) lv) (rg:R M (mpE qj AV.bool gv) gvv) (rn:R M (mpE qj AV.bool no) nov):Calls Try.prog 74 #[lv,gvv,nov] w (qlh w r):=by
 unfold consP at h;obtain⟨hck,h⟩:=qg h;rw[B1,decide_eq_true_eq,List.all_eq_true]at hck;obtain⟨hwg,hll,hgl⟩:=hck;obtain⟨la,lc,rfl,hrules⟩:=Dx rl;obtain⟨mo,rfl⟩:=ZB rn;obtain⟨es,fs,hfs,hrange⟩:=qdV rg;have mixed:=mixedP;have⟨t3,a3,z3,v3,u3⟩:=Tf3;have⟨t4,a4,z4,v4,u4⟩:=Tf4;have⟨t27,a27,z27,v27,u27⟩:=Tf27;have⟨t39,a39,z39,v39,u39⟩:=Tf39;have⟨t50,a50,z50,v50,u50⟩:=Tf50;have⟨t52,a52,z52,v52,u52⟩:=Tf52;have⟨t54,a54,z54,v54,u54⟩:=Tf54;have⟨t105,a105,z105,v105,u105⟩:=Tf105;have⟨t127,a127,z127,v127,u127⟩:=Tf127;have⟨t150,a150,z150,v150,u150⟩:=Tf150;have⟨t178,a178,z178,v178,u178⟩:=Tf178;have⟨t180,a180,z180,v180,u180⟩:=Tf180;have hmm:=@run_makeMap Try.prog
 have hmf:∀ (fn:Fn) (first cap:LO) (w:World),(Instr.makeFunc fn first cap).run Try.prog w=.ok (.func fn first cap) w:=fun _ _ _ _=>rfl
 obtain⟨w2,ew2⟩:∃ w2,w2=(w.alloc (.map #[] 0)).alloc (.cells #[.map (some w.heap.size)] 105):=⟨_,rfl⟩
 have z2:w2.heap.size=w.heap.size+1+1:=by rw[ew2];simp
 have B2:Below w.heap.size w w2:=by rw[ew2];exact ((Below.refl _ _).alloc (A1 _) _).alloc (by simp) _
 have e0:w2.heap[w.heap.size]? = some (.map #[] 0):=by rw[ew2,heap_alloc_old _ _ (by simp)];exact heap_alloc_new _ _
 have e1:w2.heap[w.heap.size+1]? = some (.cells #[.map (some w.heap.size)] 105 (0,0)):=by
  rw[ew2];have:=heap_alloc_new (w.alloc (.map #[] 0)) (.cells #[.map (some w.heap.size)] 105)
  simpa using this
 obtain⟨ob,hrg,hI0⟩:=hrange w2 (hC.below B2);obtain⟨w3,ew3⟩:∃ w3,w3=w2.alloc ob:=⟨_,rfl⟩
 have z3:w3.heap.size=w.heap.size+1+1+1:=by rw[ew3];simp[z2]
 have B3:Below w.heap.size w w3:=by rw[ew3];exact B2.alloc oM _
 have e0:w3.heap[w.heap.size]? = some (.map #[] 0):=by rw[ew3,heap_alloc_old _ _ (by omega)];exact e0
 have e1:w3.heap[w.heap.size+1]? = some (.cells #[.map (some w.heap.size)] 105 (0,0)):=by rw[ew3,heap_alloc_old _ _ (by omega)];exact e1
 rw[<- ew3,z2]at hI0;rw[<- ew3,z2,ew2]at hrg;clear ew2 ew3 B2 hrange;have S0:SetAt w3 w.heap.size []:=.empty e0
 go_enter Try.func74,Try.ntmps74
 go_wp2
 go_loopw [] (fun wr=>Below w.heap.size w wr/\w3.heap.size<=wr.heap.size/\(∀ k,k<w3.heap.size->k≠w.heap.size->k≠w.heap.size+1+1->wr.heap[k]? = w3.heap[k]?)/\∃ done rem,(done++rem).Perm fs/\IterG M es wr (w.heap.size+1+1) rem/\SetAt wr w.heap.size (addF [] done))
  (fun wr=>itLeft es (w.heap.size+1+1) wr)
 case atStart=>exact⟨B3,A1 _,fun _ _ _ _=>rfl,[],fs,List.Perm.refl _,hI0,S0⟩
 case round =>
  obtain⟨hBr,hsz,hold,done,rem,hp,hI,hS⟩:=hrel;have hCr:=hC.below hBr
  rcases hI.next hCr 0 with ⟨rfl,hrun⟩ | ⟨j,f,v,wn,hj,hrun,hgr,hszn,hIn,hent⟩
  .have hnx:∀ ty,(Instr.next (.pointer (some ⟨w.heap.size+1+1,0,none⟩)) false ty).run Try.prog wr=_:=fun _=>hrun
   have hpf:done.Perm fs:=by simpa using hp
   have N0:NT (addF [] done):=NT.empty.add.1
   have P0:(addF [] done).Perm (addF [] (gv.map A0)):=NT.perm N0 NT.empty.add.1 fun g=>by
    rw[NT.empty.add.2.1,NT.empty.add.2.1,hpf.mem_iff,<- hfs.mem_iff]
   have W0:∀ p,p∈addF [] done->wfF p.1=true:=qcx NT.empty (P:=fun f=>wfF f=true) (fun f hf=>by
    have h1:=hfs.mem_iff.2 (hpf.mem_iff.1 hf);obtain⟨p,hp,rfl⟩:=List.mem_map.1 h1
    exact hwg p hp) (fun p hp=>by simp at hp)
   have J0:I2 l no r w wr true wr:=⟨hBr,A1 _,fun _ _ _=>rfl,addF [] done,hS,N0,W0,fun _=>⟨fuel,_,h,P0⟩,fun h=>by cases h⟩;have b1:wr.heap[w.heap.size+1]? = some (.cells #[.map (some w.heap.size)] 105 (0,0)):=(hold _ oM oM oM).trans e1
   have z1:w.heap.size+1<wr.heap.size:=by omega
   clear e0 e1 hI0 hfs S0 hI hrun hS hold h P0 N0 W0 hwg hp hpf hgl B3 hrg
   go_wp2
   clear hnx;obtain⟨w7,rfl⟩:∃ w7,w7=wr:=⟨_,rfl⟩
   go_loopw [9] (fun b wx=>∃ bb:Bool,b=.bool bb/\I2 l no r w w7 bb wx) (fun b wx=>if boolOf b then 200000 - mapLen w.heap.size wx else 0)
   case atStart=>exact⟨true,rfl,J0⟩
   case round =>
    obtain⟨bb,rfl,hJ⟩:=hrel;obtain⟨jb,jz,jo,outp,jS,jN,jW,jt,jf⟩:=hJ;have c1:wr.heap[w.heap.size+1]? = some (.cells #[.map (some w.heap.size)] 105 (0,0)):=(jo _ z1 oM).trans b1
    cases bb with
    | false =>
     have k1:=cell_of_one c1
     go_wp2
     go_ret
     exact⟨rfl,jb,outp,jS,jN,(by first | exact jf rfl | exact jf trivial),jW⟩
    | true =>
     obtain⟨n,outc,hcons,hpo⟩:=jt rfl
     cases n with
     | zero=>cases hcons
     | succ n =>
      obtain⟨hc1,hcons⟩:=qg (show chk (decide (outc.length<=100000)) ((freshL no outc l []).bind fun fr=>bif fr.isEmpty then some outc else consR l no n (addF outc fr))=some r from hcons);obtain⟨fr,hfr,hcons⟩:=qb hcons
      have hlo:outp.length<=100000:=by rw[hpo.length_eq];exact oT hc1
      obtain⟨w8,ew8⟩:∃ w8,w8=wr.alloc (.cells #[.slice none 0 0] 150):=⟨_,rfl⟩
      have z8:w8.heap.size=wr.heap.size+1:=by rw[ew8];simp
      have B8:Below w.heap.size w w8:=by rw[ew8];exact jb.alloc oM _
      have b8:∀ k,k<wr.heap.size->w8.heap[k]? = wr.heap[k]?:=fun k hk=>by rw[ew8];exact heap_alloc_old _ _ hk
      have n8:w8.heap[wr.heap.size]? = some (.cells #[.slice none 0 0] 150 (0,0)):=by rw[ew8];exact heap_alloc_new _ _
      obtain⟨M1,eM1⟩:∃ M1,M1=mtail M w.heap.size wr:=⟨_,rfl⟩
      have C1:Cons M1 w8:=by rw[eM1,ew8];exact (ZM hC jb).alloc _
      have s1:Sub M M1:=by rw[eM1];exact UR hC jb (A1 _)
      have RS:R M1 (mpE qj AV.bool outp) (.map (some w.heap.size)):=by rw[eM1];exact SetAt.freeze jS (A1 _)
      have m1:M1 (w.heap.size+1) 0=some (.map (some w.heap.size)):=by rw[eM1,JT (by omega)];exact Do c1 rfl rfl
      have mo1:∀ b o,b<w.heap.size->M1 b o=M b o:=fun b o hb=>by rw[eM1,Xt hb]
      have mn1:∀ o,M1 wr.heap.size o=none:=fun o=>by
       rw[eM1,JT (by omega)]
       cases hm:mc wr wr.heap.size o with
       | none=>rfl
       | some u=>have:=Ny hm;omega
      have F0:FS M1 w8 wr.heap.size outp ⟨0,[]⟩ [] [] M1 w8:=⟨C1,Sub.refl _,rfl,rfl,rfl,A1 _,fun _ _ _=>rfl,mn1,_,n8,by simpa[headsP,factsC] using World.ownsRow_nil w8 w8.heap.size 127 3,fun g hg=>by cases hg⟩;have HW8:=(show Hid (w8=_) from ew8);have HS:=(show Hid _ from jS);have HN:=(show Hid _ from jN);have Hjo:=(show Hid _ from jo);have HB8:=(show Hid _ from B8);have Hm1:=(show Hid _ from mo1);have Hn1:=(show Hid _ from mn1);clear ew8 eM1 jt jf hc1 n8 jS jo mo1 mn1 jb;obtain⟨w6,rfl⟩:∃ w6,w6=wr:=⟨_,rfl⟩
      go_wp2
      rw[<- HW8.out]
      go_loopw [27] (fun i wx=>∃ k:Nat,k<=l.length/\i=.int .i64 k/\∃ M' acc' acc,Sub M1 M'/\FS M' w8 w6.heap.size outp ⟨0,[]⟩ acc' [] M' wx/\freshL no outc (l.drop k) acc=some fr/\acc'.Perm acc/\∀ f,f∈acc'->wfF f=true/\mget qh false f outp=false)
       (fun i _=>l.length - (RowKit.intOf i).toNat)
      case atStart=>exact⟨0,C7 _,rfl,M1,[],[],Sub.refl _,F0,hfr,List.Perm.refl _,fun f hf=>by simp at hf⟩
      case round =>
       obtain⟨k,hk,rfl,M2,acc2,acc,s2,F2,hfk,hpa,hwa⟩:=hrel
       rcases D0 k l.length with hk1 | hk1
       .obtain⟨b,off,hv,bv,rfl,q0,q1,q2,rhv,rbv⟩:=hrules k _ (E0 hk1);rw[D1 hk1]at hfk;have i0:(0:Int)<=(k:Int):=E7 _
        have i1:(k:Int)<(l.length:Int):=by omega
        obtain⟨ha,hac,rfl⟩:=JR rhv;obtain⟨ba,bac,rfl⟩:=JR rbv;have f0:=qY F2.cons (s2 _ _ _ (s1 _ _ _ q0)) rfl;have f1:=qY F2.cons (s2 _ _ _ (s1 _ _ _ q1)) rfl;have f2:=qY F2.cons (s2 _ _ _ (s1 _ _ _ q2)) rfl;generalize l[k]=x at hfk q0 q1 q2 rhv rbv f0 f1 f2;obtain⟨⟨hrel,hargs⟩,body⟩:=x;simp only[D2]at q1 q2 rhv rbv f1 f2
        have c4:∀ o,(wr.alloc o).cell? ⟨w.heap.size+1,0,none⟩=some (.map (some w.heap.size)):=fun o=>qY (F2.cons.alloc o) (s2 _ _ _ m1) rfl
        obtain⟨hcb,hfk⟩:=qg (show chk (decide (body.length<=1000)) ((tryP body no (byRelL outc) body (D6 8 0)).bind fun d=>chk (decide (acc.length+d.length<=900000000) && headOk ⟨hrel,hargs⟩ d) (freshL no outc (l.drop (k+1)) (acc++headsP outc ⟨hrel,hargs⟩ d)))=some fr from hfk);obtain⟨dd,hdd,hfk⟩:=qb hfk;obtain⟨hcd,hfk⟩:=qg hfk;rw[B1,decide_eq_true_eq]at hcd;obtain⟨w9,ew9⟩:∃ w9,w9=wr.alloc (.cells #[.int .i64 hrel,.slice ha hargs.length hac,.slice ba body.length bac] 54):=⟨_,rfl⟩;obtain⟨M3,eM3⟩:∃ M3,M3=mbox M2 wr.heap.size #[.int .i64 hrel,.slice ha hargs.length hac,.slice ba body.length bac]:=⟨_,rfl⟩
        have s3:Sub M2 M3:=by rw[eM3];exact YM F2.cons (A1 _)
        have s03:Sub M M3:=Sub.trans s1 (Sub.trans s2 s3)
        have t3c:∀ (j:Nat) u,(#[.int .i64 hrel,.slice ha hargs.length hac,.slice ba body.length bac]:LO)[j]? = some u->isTup u=false:=fun j u h=>by
         match j,h with
         | 0,h | 1,h | 2,h=>cases h;rfl
        have C3:Cons M3 w9:=by rw[eM3,ew9];exact Hy (F2.cons.alloc _) (heap_alloc_new _ _) t3c
        have F3a:FS M2 w8 w6.heap.size outp ⟨0,[]⟩ acc2 [] M3 w9:=F2.grow oM (by rw[ew9];exact (Below.refl _ _).alloc (A1 _) _) s3 (fun b o hb=>by rw[eM3,ZO (by omega)]) C3
        have F3:FS M3 w8 w6.heap.size outp ⟨hrel,hargs⟩ acc2 [] M3 w9:=by
         have h1:=F3a.pack (M':=M3) (h2:=⟨hrel,hargs⟩) (Sub.refl _)
         simpa[headsP] using h1
        have g12:∀ j:Nat,M3 wr.heap.size j=(#[.int .i64 hrel,.slice ha hargs.length hac,.slice ba body.length bac]:LO)[j]?:=fun j=>by rw[eM3,UB]
        have cbk:=FS.cb (M0:=M3) (wR:=w8) (br:=wr.heap.size) (bo:=w.heap.size+1) (bfr:=w6.heap.size) (out:=outp) (rel:=hrel) (args:=hargs) (L0:=acc2) oM (g12 0) (g12 1) (rhv.mono s03) (mo:=some w.heap.size) (s3 _ _ _ (s2 _ _ _ m1)) (RS.mono (Sub.trans s2 s3));have hpl:acc2.length=acc.length:=hpa.length_eq
        have hcall:=Try.inst116 (okD ⟨hrel,hargs⟩ acc2) 117 _ M3 _ cbk body outp no hrel (.slice ha hargs.length hac) (.slice ba body.length bac) w.heap.size mo [] M3 w9 F3 ⟨rfl,rfl⟩ (rbv.mono s03) (RS.mono (Sub.trans s2 s3)) (rn.mono s03) (fun p hp=>by
         have h1:=jW p hp;unfold wfF at h1;rw[B1,B1]at h1
         exact h1.1.1) hlo (oT hcb) (fun bl hbl=>by
         obtain⟨o2,ho2,hp2⟩:=UL (bl:=byRelL outc) (bl':=bl) (fun rel=>by
          rw[Va]
          exact (((hpo.map A0).symm).filter _).trans (hbl rel).symm) body _ _ hdd
         refine⟨o2,ho2,?_,fun v hv=>qcE hcd.2 v (hp2.mem_iff.2 (by simpa using hv))⟩;have h1:=hp2.length_eq;have h2:=hcd.1;rw[List.nil_append]
         omega)
        have HW9:=(show Hid (w9=_) from ew9);have HC:=(show Hid _ from hcall);clear ew9 eM3 hcall cbk F3 F3a g12 C3
        go_wp2_with fail
        rw[<- HW9.out];refine Calls.mono HC.out ?_
        rintro e wt ⟨rfl,bl,o2,hbl,ho2,F4⟩
        go_wp2
        go_roundw
        case rel =>
         obtain⟨o3,ho3,hp3⟩:=UL (bl:=byRelL outc) (bl':=bl) (fun rel=>by
          rw[Va]
          exact (((hpo.map A0).symm).filter _).trans (hbl rel).symm) body _ _ hdd
         rw[ho2]at ho3;cases ho3;have F5:=F4.pack (M':=M3) (h2:=⟨0,[]⟩) (Sub.refl _);rw[List.nil_append]at F5;refine⟨k+1,hk1,by go_num,M3,_,_,Sub.trans s2 s3,F5,hfk,?_,fun f hf=>?_⟩
         .rw[<- qgu HN.out hpo];exact hpa.append (qff hp3.symm)
         rcases List.mem_append.1 hf with h1 | h1
         .exact hwa f h1
         refine qjt (d:=o2) ?_ f h1;unfold headOk;rw[List.all_eq_true];intro v hv;exact List.all_eq_true.1 hcd.2 v (hp3.mem_iff.2 hv)
        case measure=>simp[RowKit.intOf];omega
       have hkl:k=l.length:=by omega
       subst hkl;rw[List.drop_length]at hfk;have hfk:=Option.some.inj hfk;subst hfk;obtain⟨y1,y2,y3,y4,y5,y6,y7,y8,vc,y9,y10,y11⟩:=F2
       have hnil:acc2++headsP outp ⟨0,[]⟩ []=acc2:=by simp[headsP]
       rw[hnil]at y10;obtain⟨M4,eM4⟩:∃ M4,M4=mtail M (w.heap.size+1) wr:=⟨_,rfl⟩
       have hb5:∀ k,k<w.heap.size->wr.heap[k]? = w.heap[k]?:=fun k hk=>by rw[y7 k (by omega) (by omega)];exact HB8.out.block k hk
       have C4:Cons M4 wr:=fun b o u hu=>by
        rw[eM4]at hu;unfold mtail at hu;split at hu
        .have h1:=hC _ _ _ hu;rw[Qr (hb5 b (Ny h1))];exact h1
        exact hu
       have m4:∀ o,M4 w.heap.size o=none:=fun o=>by
        rw[eM4,Xt (by omega)]
        cases hm:M w.heap.size o with
        | none=>rfl
        | some u=>have:=Ny (hC _ _ _ hm);omega
       have rv:R M4 (lF acc2) vc:=by rw[eM4];exact qkb y10 oM
       obtain⟨va,vcap,rfl,hvc⟩:=qcT rv
       have cm:∀ wx:World,wx.heap[w.heap.size+1]? = wr.heap[w.heap.size+1]?->wx.cell? ⟨w.heap.size+1,0,none⟩=some (.map (some w.heap.size)):=fun wx hx=>by
        refine cell_of_one (t:=105) ?_;rw[hx,y7 _ (by omega) (by omega),b8 _ (by omega)];exact c1
       have k10:wr.cell? ⟨w6.heap.size,0,none⟩=some (.slice va acc2.length vcap):=cell_of_one y9
       have S5:SetAt wr w.heap.size (addF outp (acc2.take 0)):=by
        have h0:addF outp (acc2.take 0)=outp:=by simp[addF]
        rw[h0];refine MapAt.of HS.out ?_;rw[y7 _ (by omega) (by omega),b8 _ (by omega)]
       have hal2:acc2.length<=900000000:=by rw[hpa.length_eq];exact qcK _ _ _ _ _ hfr (by simp)
       clear eM4 y2 y8 y11 rv hnil;obtain⟨w5,rfl⟩:∃ w5,w5=wr:=⟨_,rfl⟩
       go_wp2
       go_loopw [39] (fun i wx=>∃ k:Nat,k<=acc2.length/\i=.int .i64 k/\SetAt wx w.heap.size (addF outp (acc2.take k))/\wx.os=w5.os/\wx.tape=w5.tape/\wx.output=w5.output/\w5.heap.size<=wx.heap.size/\∀ j,j<w5.heap.size->j≠w.heap.size->wx.heap[j]? = w5.heap[j]?)
        (fun i _=>acc2.length - (RowKit.intOf i).toNat)
       case atStart=>exact⟨0,C7 _,rfl,S5,rfl,rfl,rfl,A1 _,fun _ _ _=>rfl⟩
       case round =>
        obtain⟨k,hk,rfl,hS,g1,g2,g3,g4,g5⟩:=hrel
        have C6:Cons M4 wr:=C4.of_blocks fun b o u hu hb=>g5 b hb fun e=>by rw[e,m4]at hu;cases hu
        rcases D0 k acc2.length with hk1 | hk1
        .obtain⟨fb,fo,rfl,q0,q1,q2⟩:=hvc k _ (E0 hk1);have i0:(0:Int)<=(k:Int):=E7 _
         have i1:(k:Int)<(acc2.length:Int):=by omega
         have f0:=qY C6 q0 rfl;have f1:=qY C6 q1 rfl;have f2:=qY C6 q2 rfl
         have htk:addF outp (acc2.take (k+1))=mset qh acc2[k] true (addF outp (acc2.take k)):=by
          show List.foldl _ outp (acc2.take (k+1))=_;rw[List.take_add_one,E0 hk1,Option.toList_some,List.foldl_append];rfl
         have hwk:=(hwa _ (List.getElem_mem hk1)).1;have hlk:=Hl (acc2.take k) outp;rw[List.length_take]at hlk;generalize acc2[k]=x at q0 q1 q2 f0 f1 f2 htk hwk;obtain⟨w4,ew4⟩:∃ w4,w4=wr.alloc (.cells #[.int .i64 x.qm,.int .i64 x.f_a,.int .i64 x.f_b] 127):=⟨_,rfl⟩
         have z4:w4.heap.size=wr.heap.size+1:=by rw[ew4];simp
         have b4:∀ k,k<wr.heap.size->w4.heap[k]? = wr.heap[k]?:=fun k hk=>by rw[ew4];exact heap_alloc_old _ _ hk
         have n9:w4.heap[wr.heap.size]? = some (.cells #[.int .i64 x.qm,.int .i64 x.f_a,.int .i64 x.f_b] 127 (0,0)):=by rw[ew4];exact heap_alloc_new _ _
         have k1:=cm w4 ((b4 _ oM).trans (g5 _ oM oM))
         have k2:w4.cell? ⟨wr.heap.size,0,none⟩=some (.int .i64 x.qm):=by simp[A2,n9]
         have k3:w4.cell? ⟨wr.heap.size,1,none⟩=some (.int .i64 x.f_a):=by simp[A2,n9]
         have k4:w4.cell? ⟨wr.heap.size,2,none⟩=some (.int .i64 x.f_b):=by simp[A2,n9]
         have S4:SetAt w4 w.heap.size (addF outp (acc2.take k)):=hS.of (b4 _ oM);obtain⟨o',hup,S6⟩:=S4.put hwk oM
         have g0:w4.os=w5.os/\w4.tape=w5.tape/\w4.output=w5.output:=by rw[ew4];exact⟨g1,g2,g3⟩
         have HG:=(show Hid _ from g0);have HT:=(show Hid _ from htk);have HS6:=(show Hid _ from S6);have HW:=(show Hid (w4=_) from ew4);rw[ew4]at k1 k2 k3 k4 hup;clear ew4 S4 S6 n9 g0 hS htk
         go_wp2
         rw[<- HW.out]
         go_roundw
         case rel =>
          refine⟨k+1,hk1,by go_num,by rw[HT.out];exact HS6.out,HG.out.1,HG.out.2.1,HG.out.2.2,by rw[setBlock_size];omega,fun j hj hne=>?_⟩;rw[setBlock_other hne,b4 j (by omega),g5 j hj hne]
         case measure=>simp[RowKit.intOf];omega
        have hkl:k=acc2.length:=by omega
        subst hkl;rw[List.take_length]at hS;have k11:wr.cell? ⟨w6.heap.size,0,none⟩=some (.slice va acc2.length vcap):=cell_of_one ((g5 _ oM oM).trans y9);have N2:NT outp:=HN.out
        have hJ2:∀ bb:Bool,(bb=true->∃ n outc,consR l no n outc=some r/\(addF outp acc2).Perm outc)->(bb=false->(addF outp acc2).Perm r)->I2 l no r w w7 bb wr:=fun bb h1 h2=>by
         refine⟨⟨?_,?_,?_,?_,fun k hk=>?_⟩,by omega,fun k hk hne=>?_,addF outp acc2,hS,N2.add.1,qcx N2 (P:=fun f=>wfF f=true) (fun f hf=>(hwa f hf).1) (fun p hp=>jW p hp),h1,h2⟩
         .rw[g1,y3];exact HB8.out.os
         .rw[g2,y4];exact HB8.out.tape
         .rw[g3,y5];exact HB8.out.output
         .omega
         .rw[g5 k (by omega) (by omega)];exact hb5 k hk
         rw[g5 k (by omega) hne,y7 k (by omega) (by omega),b8 k (by omega)];exact Hjo.out k hk hne
        have HJ2:=(show Hid _ from hJ2);have hml:mapLen w.heap.size wr=(addF outp acc2).length:=hS.len;have hml0:mapLen w.heap.size w6=outp.length:=SetAt.len HS.out;clear hJ2 hS;by_cases h0:acc2=[]
        .subst h0
         go_wp2
         go_roundw
         case rel =>
          refine⟨false,rfl,HJ2.out false (fun h=>by cases h) fun _=>?_⟩
          have h1:acc=[]:=by have:=hpa.length_eq;exact G1 this.symm
          subst h1;have h2:outc=r:=Option.some.inj hcons;rw[<- h2];exact hpo
         case measure =>
          simp only[boolOf];rw[hml0];simp;omega
        have hpos:(0:Int)<(acc2.length:Int):=by have:=List.length_pos_iff.2 h0;omega
        go_wp2
        go_roundw
        case rel =>
         refine⟨true,by rw[dT (List.length_pos_iff.2 h0)],HJ2.out true (fun _=>?_) (fun h=>by cases h)⟩
         have h1:acc.isEmpty=false:=by
          cases acc with
          | nil=>exact absurd (G1 hpa.length_eq) h0
          | cons a b=>rfl
         rw[h1]at hcons;have NC:NT outc:=N2.of_perm hpo;refine⟨n,_,hcons,NT.perm N2.add.1 NC.add.1 fun g=>?_⟩;rw[N2.add.2.1,NC.add.2.1,hpa.mem_iff,(hpo.map A0).mem_iff]
        case measure =>
         have hd:decide (0<acc2.length)=true:=dT (List.length_pos_iff.2 h0);simp only[boolOf,hd,if_true];rw[hml0,hml];obtain⟨f,hf⟩:=List.exists_mem_of_ne_nil _ h0
         have h1:=N2.add.2.2.2 f hf (fun h=>by
          have h2:=(NT.mget N2.t f).2 h;rw[(hwa f hf).2]at h2
          cases h2)
         omega
  have hnx:∀ ty,(Instr.next (.pointer (some ⟨w.heap.size+1+1,0,none⟩)) false ty).run Try.prog wr=_:=fun _=>hrun
  have Cn:Cons M wn:=hCr.of_blocks fun b o u hu hb=>hgr.block b hb fun e=>by have:=Ny (hC _ _ _ hu);cases e;omega
  have hen:=hent wn rfl Cn;have hfm:f∈fs:=hp.mem_iff.1 (E8 _ (List.mem_of_getElem? hj))
  have hwf1:wfF f=true:=by
   have h1:=hfs.mem_iff.2 hfm;obtain⟨p,hp,rfl⟩:=List.mem_map.1 h1;exact hwg p hp
  have hlen:done.length+rem.length<=100000:=by
   have h1:=hp.length_eq;have h2:=hfs.length_eq;rw[C0]at h1;rw[D2]at h2;omega
  have hjl:=(List.getElem?_eq_some_iff.1 hj).1;have hal:=Hl done [];rw[List.length_nil]at hal;obtain⟨w4,ew4⟩:∃ w4,w4=wn.alloc (.cells #[.int .i64 f.qm,.int .i64 f.f_a,.int .i64 f.f_b] 127):=⟨_,rfl⟩
  have z4:w4.heap.size=wr.heap.size+1:=by rw[ew4];simp[hszn]
  have b4:∀ k,k<wr.heap.size->k≠w.heap.size+1+1->w4.heap[k]? = wr.heap[k]?:=fun k hk hne=>by
   rw[ew4,heap_alloc_old _ _ (by omega)];exact hgr.block k hk (fun e=>hne (Option.some.inj e))
  have n9:w4.heap[wr.heap.size]? = some (.cells #[.int .i64 f.qm,.int .i64 f.f_a,.int .i64 f.f_b] 127 (0,0)):=by rw[ew4,<- hszn];exact heap_alloc_new _ _
  have n1:w4.heap[w.heap.size+1]? = some (.cells #[.map (some w.heap.size)] 105 (0,0)):=by rw[b4 _ (by omega) (by omega),hold _ (by omega) (by omega) (by omega)];exact e1
  have k1:=cell_of_one n1
  have k2:w4.cell? ⟨wr.heap.size,0,none⟩=some (.int .i64 f.qm):=by simp[A2,n9]
  have k3:w4.cell? ⟨wr.heap.size,1,none⟩=some (.int .i64 f.f_a):=by simp[A2,n9]
  have k4:w4.cell? ⟨wr.heap.size,2,none⟩=some (.int .i64 f.f_b):=by simp[A2,n9]
  have S4:SetAt w4 w.heap.size (addF [] done):=hS.of (b4 _ oM oM);obtain⟨o',hup,S5⟩:=S4.put hwf1 oM
  have g0:w4.os=w.os/\w4.tape=w.tape/\w4.output=w.output:=by rw[ew4];exact⟨hgr.os.trans hBr.os,hgr.tape.trans hBr.tape,hgr.output.trans hBr.output⟩
  have hi4:w4.heap[w.heap.size+1+1]? = wn.heap[w.heap.size+1+1]?:=by rw[ew4,heap_alloc_old _ _ (by omega)]
  have HS:=(show Hid _ from S5);have HG:=(show Hid _ from g0);have HW:=(show Hid (w4=_) from ew4);rw[ew4]at k1 k2 k3 k4 hup;clear ew4 S4 S5 n9 n1 g0 hS
  go_wp2
  rw[<- HW.out]
  go_roundw
  case rel =>
   have hall:∀ k,k<wr.heap.size->k≠w.heap.size->k≠w.heap.size+1+1->(setBlock w4 w.heap.size o').heap[k]? = wr.heap[k]?:=fun k hk h1 h2=>by rw[setBlock_other h1,b4 k hk h2]
   refine⟨⟨HG.out.1,HG.out.2.1,HG.out.2.2,by rw[setBlock_size];omega,fun k hk=>?_⟩,by rw[setBlock_size];omega,fun k hk h1 h2=>?_,done++[f],rem.eraseIdx j,?_,hIn.of ?_,?_⟩
   .rw[hall k (by omega) (by omega) (by omega)];exact hBr.block k hk
   .rw[hall k (by omega) h1 h2];exact hold k hk h1 h2
   .refine List.Perm.trans ?_ hp;rw[D8];refine List.Perm.append_left _ ?_;have h1:=qav rem j hjl;rw[(List.getElem?_eq_some_iff.1 hj).2]at h1;exact h1.symm
   .rw[setBlock_other (by omega)];exact hi4
   have:addF [] (done++[f])=mset qh f true (addF [] done):=by simp[addF]
   rw[this];exact HS.out
  case measure =>
   have h1:=(hIn.of (w':=setBlock w4 w.heap.size o') (by rw[setBlock_other (by omega)];exact hi4)).left;rw[h1,hI.left,List.length_eraseIdx,if_pos hjl];omega
theorem Try.cons74 {fuel:Nat} {r:LB} (h:consP fuel l gv no=some r):CallOk Try.prog 74 [l54 none l,mpE qj AV.bool gv,mpE qj AV.bool no] (mpE qj AV.bool r):=by
 intro M w vs hG hC hl hR
 obtain⟨lv,gvv,nov,rfl⟩:∃ a b c,vs=[a,b,c]:=by
  match vs,hl with
  | [a,b,c],_=>exact⟨a,b,c,rfl⟩
 refine Calls.mono (Try.cons74o h hC (hR 0 _ lv rfl rfl) (hR 1 _ gvv rfl rfl) (hR 2 _ nov rfl rfl)) ?_
 rintro e w' ⟨rfl,hB,outp,hS,_,hp,_⟩
 exact⟨_,mtail M w.heap.size w',rfl,hB,UR hC hB (A1 _),ZM hC hB,fun b o hb=>Xt hb,qjW hp (SetAt.freeze hS (A1 _)),trivial⟩
end Go.Proofs
namespace Go.Proofs
open Go.Shelf
def Try.laysSlF06_f109_ren:Go.Shelf.Ren:=⟨fun | 6=>109 | 15=>126 | 14=>125 | 28=>139 | 29=>140 | 20=>131 | 21=>132 | 22=>133 | 23=>134 | 24=>135 | 25=>136 | 26=>137 | 27=>138 | 46=>141 | 47=>142 | 48=>143 | 49=>144 | 50=>145 | 57=>146 | n=>n,fun | 22=>23 | 24=>41 | 25=>176 | 3=>3 | 39=>49 | 0=>0 | 53=>204 | 55=>206 | 4=>4 | 46=>197 | 45=>196 | 50=>201 | 5=>5 | 9=>9 | 66=>207 | 70=>163 | 76=>212 | 77=>81 | n=>n,fun | n=>n⟩
theorem Try.laysSlF06_f109:Go.Proofs.SlLaysF0.n6 Try.prog Try.laysSlF06_f109_ren:={
 mixed:=by kernel_rfl
 f6:=⟨Try.f109.name,by decide,Try.func109.trans (congrArg some (by kernel_rfl))⟩
 f14:=⟨Try.f125.name,by decide,Try.func125.trans (congrArg some (by kernel_rfl))⟩
 f15:=Try.func126.trans (congrArg some (by kernel_rfl))
 f20:=⟨Try.f131.name,by decide,Try.func131.trans (congrArg some (by kernel_rfl))⟩
 f21:=⟨Try.f132.name,by decide,Try.func132.trans (congrArg some (by kernel_rfl))⟩
 f22:=⟨Try.f133.name,by decide,Try.func133.trans (congrArg some (by kernel_rfl))⟩
 f23:=⟨Try.f134.name,by decide,Try.func134.trans (congrArg some (by kernel_rfl))⟩
 f24:=⟨Try.f135.name,by decide,Try.func135.trans (congrArg some (by kernel_rfl))⟩
 f25:=⟨Try.f136.name,by decide,Try.func136.trans (congrArg some (by kernel_rfl))⟩
 f26:=⟨Try.f137.name,by decide,Try.func137.trans (congrArg some (by kernel_rfl))⟩
 f27:=⟨Try.f138.name,by decide,Try.func138.trans (congrArg some (by kernel_rfl))⟩
 f28:=Try.func139.trans (congrArg some (by kernel_rfl))
 f29:=Try.func140.trans (congrArg some (by kernel_rfl))
 f46:=⟨Try.f141.name,by decide,Try.func141.trans (congrArg some (by kernel_rfl))⟩
 f47:=Try.func142.trans (congrArg some (by kernel_rfl))
 f48:=Try.func143.trans (congrArg some (by kernel_rfl))
 f49:=⟨Try.f144.name,by decide,Try.func144.trans (congrArg some (by kernel_rfl))⟩
 f50:=⟨Try.f145.name,by decide,Try.func145.trans (congrArg some (by kernel_rfl))⟩
 f57:=⟨Try.f146.name,by decide,Try.func146.trans (congrArg some (by kernel_rfl))⟩
 t0:=Try.underlying0
 a0:=Try.isAgg0
 z0:=Try.sizeOf0
 v0:=Try.zeroValue0
 t3:=Try.underlying3
 a3:=Try.isAgg3
 z3:=Try.sizeOf3
 v3:=Try.zeroValue3
 t4:=Try.underlying4
 a4:=Try.isAgg4
 z4:=Try.sizeOf4
 v4:=Try.zeroValue4
 t5:=Try.underlying5
 a5:=Try.isAgg5
 z5:=Try.sizeOf5
 v5:=Try.zeroValue5
 t9:=Try.underlying9
 a9:=Try.isAgg9
 z9:=Try.sizeOf9
 v9:=Try.zeroValue9
 t22:=Try.underlying23
 a22:=Try.isAgg23
 z22:=Try.sizeOf23
 v22:=Try.zeroValue23
 t25:=Try.underlying176
 a25:=Try.isAgg176
 z25:=Try.sizeOf176
 v25:=Try.zeroValue176
 t39:=Try.underlying49
 a39:=Try.isAgg49
 z39:=Try.sizeOf49
 v39:=Try.zeroValue49
 t45:=Try.underlying196
 a45:=Try.isAgg196
 z45:=Try.sizeOf196
 v45:=Try.zeroValue196
 t46:=Try.underlying197
 a46:=Try.isAgg197
 z46:=Try.sizeOf197
 v46:=Try.zeroValue197
 t50:=Try.underlying201
 a50:=Try.isAgg201
 z50:=Try.sizeOf201
 v50:=Try.zeroValue201
 t53:=Try.underlying204
 a53:=Try.isAgg204
 z53:=Try.sizeOf204
 v53:=Try.zeroValue204
 t55:=Try.underlying206
 a55:=Try.isAgg206
 z55:=Try.sizeOf206
 v55:=Try.zeroValue206
 t66:=Try.underlying207
 a66:=Try.isAgg207
 z66:=Try.sizeOf207
 v66:=Try.zeroValue207
 t70:=Try.underlying163
 a70:=Try.isAgg163
 z70:=Try.sizeOf163
 v70:=Try.zeroValue163
 t76:=Try.underlying212
 a76:=Try.isAgg212
 z76:=Try.sizeOf212
 v76:=Try.zeroValue212
 t77:=Try.underlying81
 a77:=Try.isAgg81
 z77:=Try.sizeOf81
 v77:=Try.zeroValue81 }
open Go.RowKit Go.Lib Go.Sort in
theorem Try.slices_SortFunc_none {α:Type} [Inhabited α] (p:Option Addr) (cap:Nat) (fv:Value) (w:World) :
  Calls Try.prog 109 #[.slice p 0 cap,fv] w fun e w'=>e=.returned (.tuple #[])/\w'=w:=AnyF.slices_SortFunc_none Try.laysSlF06_f109 p cap fv w
open Go.RowKit Go.Lib Go.Sort in
theorem Try.slices_SortFunc_total {α:Type} [Inhabited α] (k:Nat) (aE:∀ w,(isAgg 41).run Try.prog w=.ok true w) (zE:∀ w,(Go.sizeOf 41).run Try.prog w=.ok k w) (enc:α->LT) (hk:∀ x,(enc x).length=k) (h1:∀ x,∀ v∈enc x,v.oneCell'=true) (cf:α->α->Int) (hO:SWO (ltOf cf)) (g:Nat) (cb:LO) (blk off cap:Nat) (d:Array α) (w:World) (eg:∀ args w,(callFunc g args).run Try.prog w=.ok (.enter g args) w) (hcmp:CmpLays Try.prog g cb enc k cf blk off d.size w) (hH:HoldsK enc k w blk off d) (hblk:blk<w.heap.size) (hsz:d.size<4611686018427387904) (hT:∀ x y,(ltOf cf) x y=false->(ltOf cf) y x=false->x=y) :
  Calls Try.prog 109 #[.slice (some ⟨blk,off,none⟩) d.size cap,.func (.func g) #[] cb] w fun e w' =>
   e=.returned (.tuple #[])/\∃ n os,w'=sortWorldK enc k w blk off n (d.toList.mergeSort fun x y=>!(ltOf cf) y x).toArray os:=AnyQ.slices_SortFunc_total Try.laysSlF06_f109 k aE zE enc hk h1 cf hO g cb blk off cap d w eg hcmp hH hblk hsz hT
end Go.Proofs
namespace Go.Proofs
open Go.RowKit Go.Sort Go.AM Go.Lib
def cmpI (x y:Int):Int:=if x<y then -1 else if y<x then 1 else 0
def orI2 (x y:Int):Int:=if x≠0 then x else y
def cmpL:LA->LA->Int
 | [],[]=>0
 | [],_::_ => -1
 | _::_,[]=>1
 | x::a,y::b=>if cmpI x y≠0 then cmpI x y else cmpL a b
set_option maxHeartbeats 4000000 in
theorem Try.cmp112 (x y:Int) (W:World):Calls Try.prog 112 #[.int .i64 x,.int .i64 y] W fun e w'=>e=.returned (.int .i64 (cmpI x y))/\w'=W:=by
 have⟨t3,a3,z3,v3,u3⟩:=Tf3;have⟨t4,a4,z4,v4,u4⟩:=Tf4;unfold cmpI
 go_enter Try.func112,Try.ntmps112
 by_cases h1:x<y
 .go_wp2
  go_ret
  simp[h1]
 by_cases h2:y<x
 .go_wp2
  go_ret
  simp[h1,h2]
 go_wp2
 go_ret
 simp[h1,h2]
set_option maxHeartbeats 4000000 in
theorem Try.or111 (x y:Int) (g cap:Nat) (W:World) (h0:W.cell? ⟨g,0,none⟩=some (.int .i64 x)) (h1:W.cell? ⟨g,1,none⟩=some (.int .i64 y)):Calls Try.prog 111 #[.slice (some ⟨g,0,none⟩) 2 cap] W fun e w'=>e=.returned (.int .i64 (orI2 x y))/\w'=W:=by
 have⟨t3,a3,z3,v3,u3⟩:=Tf3;have⟨t4,a4,z4,v4,u4⟩:=Tf4;have⟨t39,a39,z39,v39,u39⟩:=Tf39;obtain⟨r,hr⟩:∃ r,r=orI2 x y:=⟨_,rfl⟩;rw[<- hr]
 go_enter Try.func111,Try.ntmps111
 go_wp2
 go_loop [8] (fun i=>∃ k:Nat,k<=2/\i=.int .i64 k/\(1<=k->x=0)/\(2<=k->y=0)) (fun i=>2 - (RowKit.intOf i).toNat)
 case atStart=>exact⟨0,by omega,rfl,fun h=>by omega,fun h=>by omega⟩
 case round =>
  obtain⟨k,hk,rfl,k1,k2⟩:=hrel
  match k,hk with
  | 0,_ =>
   by_cases hx:x=0
   .subst hx
    go_wp2
    go_round
    case rel=>exact⟨1,by omega,rfl,by simp_all,by simp_all⟩
    case measure=>simp[RowKit.intOf]
   go_wp2
   go_ret
   simp[orI2,hx]
  | 1,_ =>
   have hx:=k1 oM;by_cases hy:y=0
   .subst hy
    go_wp2
    go_round
    case rel=>exact⟨2,by omega,rfl,by simp_all,by simp_all⟩
    case measure=>simp[RowKit.intOf]
   go_wp2
   go_ret
   simp[orI2,hx,hy]
  | 2,_ =>
   have hx:=k1 oM;have hy:=k2 oM
   go_wp2
   go_ret
   simp[orI2,hx,hy]
theorem qjB {a b:LA} {k:Nat} (ha:k<a.length) (hb:k<b.length):cmpL (a.drop k) (b.drop k)=if cmpI a[k] b[k]≠0 then cmpI a[k] b[k] else cmpL (a.drop (k+1)) (b.drop (k+1)):=by
 rw[D1 ha,D1 hb,cmpL]
theorem NG {M:Mem} {e k:Nat} {l:LP} {xs:LM} {v:Value} (h:R M (.lst e k l xs) v):∃ a cap,v=.slice a xs.length cap:=by
 cases h with
 | lstn=>exact⟨none,0,rfl⟩
 | lste _ _ _ ad cap=>exact⟨some ad,cap,rfl⟩
 | lst us h1 h2 h5 h3 h4=>exact⟨_,_,rfl⟩
set_option maxHeartbeats 4000000 in
theorem Try.cmp113 (a b:LA) (va vb:Value) (M:Mem) (W:World) (hC:Cons M W) (ra:R M (l3 none a) va) (rb:R M (l3 none b) vb) (hla:a.length<=1000000):Calls Try.prog 113 #[va,vb] W fun e w'=>e=.returned (.int .i64 (cmpL a b))/\w'=W:=by
 have⟨t3,a3,z3,v3,u3⟩:=Tf3;have⟨t4,a4,z4,v4,u4⟩:=Tf4;have⟨t39,a39,z39,v39,u39⟩:=Tf39;obtain⟨pa,ca,rfl,ha⟩:=qbc (l:=a) ra;obtain⟨pb,cb,rfl,hb⟩:=qbc (l:=b) rb;have hcmp:=Try.cmp112;obtain⟨r,hr⟩:∃ r,r=cmpL a b:=⟨_,rfl⟩;rw[<- hr];have HR:=(show Hid _ from hr);clear hr
 go_enter Try.func113,Try.ntmps113
 go_wp2
 go_loop [11] (fun i=>∃ k:Nat,k<=a.length/\k<=b.length/\i=.int .i64 k/\r=cmpL (a.drop k) (b.drop k)) (fun i=>a.length - (RowKit.intOf i).toNat)
 case atStart=>exact⟨0,C7 _,C7 _,rfl,HR.out⟩
 case round =>
  obtain⟨k,hk,hkb,rfl,hrk⟩:=hrel
  rcases D0 k a.length with h1 | h1
  .obtain⟨ga,oa,rfl,hMa⟩:=ha k h1;have fa:=Qg (hC _ _ _ hMa) rfl;have i0:(0:Int)<=(k:Int):=E7 _
   have i1:(k:Int)<(a.length:Int):=by omega
   rcases D0 k b.length with h2 | h2
   .obtain⟨gb,ob,rfl,hMb⟩:=hb k h2;have fb:=Qg (hC _ _ _ hMb) rfl
    have i2:(k:Int)<(b.length:Int):=by omega
    have n1:¬ (b.length:Int)<=(k:Int):=by omega
    have hst:=qjB h1 h2;rw[<- hrk]at hst;generalize a[k]=x at fa hst;generalize b[k]=y at fb hst;have hc:=hcmp x y W;generalize cmpI x y=c at hst hc;clear ha hb hcmp hrk;by_cases h0:c=0
    .subst h0
     go_wp2_with fail
     refine hc.mono ?_
     rintro e w5 ⟨rfl,rfl⟩
     go_wp2
     go_round
     case rel=>exact⟨k+1,h1,h2,by go_num,by simpa using hst⟩
     case measure=>simp[RowKit.intOf];omega
    rw[if_pos h0]at hst
    go_wp2_with fail
    refine hc.mono ?_
    rintro e w5 ⟨rfl,rfl⟩
    go_wp2
    go_ret
    (first | exact⟨rfl,rfl⟩ | (refine⟨?_,rfl⟩;rw[hst];done) | (refine⟨?_,rfl⟩;rw[hst];rfl))
   have n1:(b.length:Int)<=(k:Int):=by omega
   have hst:r=1:=by
    rw[hrk,G2 h2,D1 h1];rfl
   clear ha hb hcmp hrk;generalize a[k]=x at fa
   go_wp2
   go_ret
   (first | exact⟨rfl,rfl⟩ | (refine⟨?_,rfl⟩;rw[hst];done) | (refine⟨?_,rfl⟩;rw[hst];rfl))
  have hkl:k=a.length:=by omega
  subst hkl;rw[List.drop_length]at hrk
  rcases D0 a.length b.length with h2 | h2
  .have hst:r = -1:=by
    rw[hrk,D1 h2];rfl
   have n1:(a.length:Int)<(b.length:Int):=by omega
   clear hrk
   go_wp2
   go_ret
   (first | exact⟨rfl,rfl⟩ | (refine⟨?_,rfl⟩;rw[hst];done) | (refine⟨?_,rfl⟩;rw[hst];rfl))
  have hst:r=0:=by
   rw[hrk,G2 h2];rfl
  have n1:¬ (a.length:Int)<(b.length:Int):=by omega
  clear hrk
  go_wp2
  go_ret
  (first | exact⟨rfl,rfl⟩ | (refine⟨?_,rfl⟩;rw[hst];done) | (refine⟨?_,rfl⟩;rw[hst];rfl))
set_option maxHeartbeats 8000000 in
theorem Try.cmp110 (ra rb:Int) (a b:LA) (va vb:Value) (M:Mem) (W:World) (hC:Cons M W) (hva:R M (l3 none a) va) (hvb:R M (l3 none b) vb) (hla:a.length<=1000000) :
  Calls Try.prog 110 #[.agg #[.int .i64 ra,va],.agg #[.int .i64 rb,vb]] W fun e w'=>e=.returned (.int .i64 (orI2 (cmpI ra rb) (cmpL a b)))/\∃ q os,w'=grow (W.drewN q) os:=by
 have mixed:=mixedP;have⟨t3,a3,z3,v3,u3⟩:=Tf3;have⟨t4,a4,z4,v4,u4⟩:=Tf4;have⟨t39,a39,z39,v39,u39⟩:=Tf39;have⟨t41,a41,z41,v41,u41⟩:=Tf41;obtain⟨pa,ca,eva⟩:=NG hva;obtain⟨pb,cb,evb⟩:=NG hvb;obtain⟨c0,hc0⟩:∃ c,c=cmpI ra rb:=⟨_,rfl⟩;obtain⟨c1,hc1⟩:∃ c,c=cmpL a b:=⟨_,rfl⟩
 have k0:∀ w,Calls Try.prog 112 #[.int .i64 ra,.int .i64 rb] w fun e w'=>e=.returned (.int .i64 c0)/\w'=w:=fun w=>by rw[hc0];exact Try.cmp112 ra rb w
 have k1:∀ w,Cons M w->Calls Try.prog 113 #[va,vb] w fun e w'=>e=.returned (.int .i64 c1)/\w'=w:=fun w hw=>by rw[hc1];exact Try.cmp113 a b va vb M w hw hva hvb hla
 rw[<- hc0,<- hc1];clear hc0 hc1;obtain⟨r,hr⟩:∃ r,r=orI2 c0 c1:=⟨_,rfl⟩;rw[<- hr];subst eva evb;generalize hna:(List.map (AV.int .i64) a).length=na at *;generalize hnb:(List.map (AV.int .i64) b).length=nb at *;clear hna hnb
 go_enter Try.func110,Try.ntmps110
 go_wp2_with fail
 obtain⟨W2,hW2⟩:∃ W2,W2=(W.alloc (.cells #[.int .i64 ra,.slice pa na ca] 41)).alloc (.cells #[.int .i64 rb,.slice pb nb cb] 41):=⟨_,rfl⟩
 have hea:W2.heap[W.heap.size]? = some (.cells #[.int .i64 ra,.slice pa na ca] 41 (0,0)):=by
  rw[hW2,heap_alloc_old _ _ (by simp)];exact heap_alloc_new _ _
 have heb:W2.heap[W.heap.size+1]? = some (.cells #[.int .i64 rb,.slice pb nb cb] 41 (0,0)):=by
  have:=heap_alloc_new (W.alloc (.cells #[.int .i64 ra,.slice pa na ca] 41)) (.cells #[.int .i64 rb,.slice pb nb cb] 41);rw[hW2]
  simpa using this
 have hg:∃ os,W2=grow W os:=⟨_,by rw[hW2,alloc_eq_grow,alloc_eq_grow,grow_grow]⟩
 have hCW:Cons M W2.drew:=by rw[hW2];exact (hC.alloc _).alloc _
 rw[<- hW2];clear hW2
 have K0:W2.cell? ⟨W.heap.size,0,none⟩=some (.int .i64 ra)/\W2.cell? ⟨W.heap.size,1,none⟩=some (.slice pa na ca)/\W2.cell? ⟨W.heap.size+1,0,none⟩=some (.int .i64 rb)/\W2.cell? ⟨W.heap.size+1,1,none⟩=some (.slice pb nb cb):=by
  refine⟨?_,?_,?_,?_⟩ <;> simp[A2,hea,heb]
 refine wp_region_held_drew (S:=(fun w'=>w'.cell? ⟨W.heap.size,0,none⟩=some (.int .i64 ra)/\w'.cell? ⟨W.heap.size,1,none⟩=some (.slice pa na ca)/\w'.cell? ⟨W.heap.size+1,0,none⟩=some (.int .i64 rb)/\w'.cell? ⟨W.heap.size+1,1,none⟩=some (.slice pb nb cb))) kR K0 (fun hHeld=>?_);refine tkH (i:=0) (v:=.pointer (some ⟨W.heap.size,0,none⟩)) rfl (Or.inl ⟨by kernel_rfl,fun w' hw'=>?_⟩) hHeld ?_
 .obtain⟨q0,q1,q2,q3⟩:=hw';go_simp
 simp only[Act.put,A4,A3,A5,A6,A7,A8];refine tkH (i:=1) (v:=.int .i64 ra) rfl (Or.inl ⟨by kernel_rfl,fun w' hw'=>?_⟩) hHeld ?_
 .obtain⟨q0,q1,q2,q3⟩:=hw';go_simp
 simp only[Act.put,A4,A3,A5,A6,A7,A8];refine tkH (i:=2) (v:=.pointer (some ⟨W.heap.size+1,0,none⟩)) rfl (Or.inl ⟨by kernel_rfl,fun w' hw'=>?_⟩) hHeld ?_
 .obtain⟨q0,q1,q2,q3⟩:=hw';go_simp
 simp only[Act.put,A4,A3,A5,A6,A7,A8];refine tkH (i:=3) (v:=.int .i64 rb) rfl (Or.inl ⟨by kernel_rfl,fun w' hw'=>?_⟩) hHeld ?_
 .obtain⟨q0,q1,q2,q3⟩:=hw';go_simp
 simp only[Act.put,A4,A3,A5,A6,A7,A8];refine tkH (i:=5) (v:=.pointer (some ⟨W.heap.size,1,none⟩)) rfl (Or.inl ⟨by kernel_rfl,fun w' hw'=>?_⟩) hHeld ?_
 .obtain⟨q0,q1,q2,q3⟩:=hw';go_simp
 simp only[Act.put,A4,A3,A5,A6,A7,A8];refine tkH (i:=6) (v:=.slice pa na ca) rfl (Or.inl ⟨by kernel_rfl,fun w' hw'=>?_⟩) hHeld ?_
 .obtain⟨q0,q1,q2,q3⟩:=hw';go_simp
 simp only[Act.put,A4,A3,A5,A6,A7,A8];refine tkH (i:=7) (v:=.pointer (some ⟨W.heap.size+1,1,none⟩)) rfl (Or.inl ⟨by kernel_rfl,fun w' hw'=>?_⟩) hHeld ?_
 .obtain⟨q0,q1,q2,q3⟩:=hw';go_simp
 simp only[Act.put,A4,A3,A5,A6,A7,A8];refine tkH (i:=8) (v:=.slice pb nb cb) rfl (Or.inl ⟨by kernel_rfl,fun w' hw'=>?_⟩) hHeld ?_
 .obtain⟨q0,q1,q2,q3⟩:=hw';go_simp
 simp only[Act.put,A4,A3,A5,A6,A7,A8];refine wpAnyH_ready (rs:=[4]) kR (by simp) (AllReadyH.cons rfl (fun K hK=>?_) AllReadyH.nil);rw[if_pos (by kernel_rfl)];go_simp
 go_at_call 112
 refine (k0 _).mono ?_
 rintro e w5 ⟨rfl,rfl⟩
 go_wp2_with fail
 refine hK.out _ _ hHeld (fun hHeld=>?_);clear hK K;refine wpAnyH_ready (rs:=[9]) kR (by simp) (AllReadyH.cons rfl (fun K hK=>?_) AllReadyH.nil);rw[if_pos (by kernel_rfl)];go_simp
 go_at_call 113
 refine (k1 _ hCW).mono ?_
 rintro e w5 ⟨rfl,rfl⟩
 go_wp2_with fail
 refine hK.out _ _ hHeld (fun hHeld=>?_);clear hK K;refine wpAnyH_ready (rs:=[10]) kR (by simp) (AllReadyH.cons rfl (fun K hK=>?_) AllReadyH.nil);rw[if_pos (by kernel_rfl)];go_simp;obtain⟨W3,hW3⟩:∃ W3,W3=(W2.alloc (Obj.cells #[Value.int D5 c0,Value.int D5 c1] 3)).drew:=⟨_,rfl⟩
 have g0:W3.heap[W.heap.size]? = some (.cells #[.int .i64 ra,.slice pa na ca] 41 (0,0)):=by
  rw[hW3];exact (heap_alloc_old _ _ (lt_of_block hea)).trans hea
 have g1:W3.heap[W.heap.size+1]? = some (.cells #[.int .i64 rb,.slice pb nb cb] 41 (0,0)):=by
  rw[hW3];exact (heap_alloc_old _ _ (lt_of_block heb)).trans heb
 have g2:W3.heap[W2.heap.size]? = some (.cells #[.int .i64 c0,.int .i64 c1] 3 (0,0)):=by
  rw[hW3];exact heap_alloc_new _ _
 have hg3:∃ q os,W3=grow (W.drewN q) os:=by
  obtain⟨os,rfl⟩:=hg;refine⟨1,os++#[Obj.cells #[Value.int D5 c0,Value.int D5 c1] 3],?_⟩;rw[hW3,alloc_eq_grow,grow_grow,drew_grow];rfl
 have f0:W3.cell? ⟨W2.heap.size,0,none⟩=some (.int .i64 c0):=by simp[A2,g2]
 have f1:W3.cell? ⟨W2.heap.size,1,none⟩=some (.int .i64 c1):=by simp[A2,g2]
 have K3:W3.cell? ⟨W.heap.size,0,none⟩=some (.int .i64 ra)/\W3.cell? ⟨W.heap.size,1,none⟩=some (.slice pa na ca)/\W3.cell? ⟨W.heap.size+1,0,none⟩=some (.int .i64 rb)/\W3.cell? ⟨W.heap.size+1,1,none⟩=some (.slice pb nb cb):=by
  refine⟨?_,?_,?_,?_⟩ <;> simp[A2,g0,g1]
 rw[<- hW3];clear hW3 hea heb;refine hK.out _ _ K3 (fun _=>?_);clear hK K;have kk:=Try.or111 c0 c1 W2.heap.size 2 W3 f0 f1;rw[<- hr]at kk;refine wpAnyH_ready (rs:=[11]) kR (by simp) (AllReadyH.cons rfl (fun K hK=>?_) AllReadyH.nil);rw[if_pos (by kernel_rfl)];go_simp
 go_at_call 111
 refine kk.mono ?_
 rintro e w5 ⟨rfl,rfl⟩
 go_wp2_with fail
 refine hK.out _ _ K3 (fun _=>?_);clear hK K;refine tkH (i:=12) (v:=.int .i64 r) rfl (Or.inl ⟨by kernel_rfl,fun w' hw'=>?_⟩) K3 ?_
 .go_simp
 simp only[Act.put,A4,A3,A5,A6,A7,A8];refine wpAnyH_done kR ?_ _
 go_wp2
 go_ret
 exact⟨rfl,hg3⟩
end Go.Proofs
