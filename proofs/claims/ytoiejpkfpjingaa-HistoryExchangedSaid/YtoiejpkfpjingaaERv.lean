import Derived.Test.YtoiejpkfpjingaaEView
import Derived.Test.YtoiejpkfpjingaaASimJ
import Derived.Test.YtoiejpkfpjingaaEMap
import Derived.Test.YtoiejpkfpjingaaChecked
import Derived.Test.YtoiejpkfpjingaaKAT
set_option linter.all false
set_option maxRecDepth 100000
open Go.World renaming cell?→A0
open Bool renaming and_eq_true→A1, or_assoc→D3, eq_iff_iff→D5, and_eq_false_iff→E7, or_eq_false_iff→E8
open List renaming length_append→A2, filter_cons_of_neg→A5, filter_cons_of_pos→A6, length_singleton→A7, append_nil→B3, pairwise_cons→B4, all_eq_true→B5, getElem_toArray→B6, getElem_cons_succ→B7, getElem_cons_zero→B8, setIfInBounds_toArray→D0, set_cons_zero→D1, set_cons_succ→D2, filter_append→D4, any_cons→D7, filter_cons→D8, length_map→D9, length_filter_le→E0, pairwise_append→E9
open Nat renaming le_refl→A3, le_trans→A8, zero_le→A9, lt_or_ge→D6
open Option renaming bind_some→A4
namespace Go.AM
theorem DA (b:List Int):∀ (a pre b':List Int),b=pre++b'→a.length=b'.length→qO b jU a pre.length=some (a == b')
 | [],pre,b',_,hl=>by
  have:b'=[]:=List.length_eq_zero_iff.1 hl.symm;subst this;rw[qO.eq_1];rfl
 | x::a,pre,y::b',hb,hl=>by
  have h:idx b ((pre.length:Nat):Int)=some y:=by
   unfold idx;rw[if_pos (Int.natCast_nonneg _),Int.toNat_natCast,hb];simp
  have ih:=DA b a (pre++[y]) b' (by rw[hb];simp) (by simpa using hl);rw[A2,A7]at ih;rw[qO.eq_2,h];simp only[A4];rw[ih];show _=some ((x == y) && (a == b'));cases hxy:x == y <;> simp[bne,hxy]
theorem qbs {a b:List Int} (ha:a.length≤100000):Jb a b=some (a == b):=by
 unfold Jb;have hck:lenOk a=true:=Nat.ble_eq_true_of_le (by omega);rw[hck];by_cases h:a.length=b.length
 ·have:((a.length:Int) != (b.length:Int))=false:=by rw[h];simp
  rw[this,cN];exact DA b a [] b rfl h
 ·have:((a.length:Int) != (b.length:Int))=true:=by simp;omega
  rw[this,cond_true]
  have:(a == b)=false:=by
   rw[beq_eq_false_iff_ne];intro e;exact h (by rw[e])
  rw[this]
def sameP (a b:hsview):Bool:=(([1,2,3,4,5,6]:List Int).all fun t=>mget keq1 [] t a.jz == mget keq1 [] t b.jz) && (a.JY == b.JY)
end Go.AM
namespace Go.Proofs
open Go.RowKit Go.AM
theorem qbn {M:Mem} {ks vs:List AV} {v:Value} (h:R M (.mpv ks vs) v):∃ mo,v=.map mo:=by
 generalize hx:AV.mpv ks vs=x at h
 cases h <;> first | exact⟨_,rfl⟩ | cases hx
theorem ZF {M:Mem} {a:hsview} {v:Value} (hl:a.JY.length=6) (h:R M (viewAV a) v):∃ mo x0 x1 x2 x3 x4 x5,a.JY=[x0,x1,x2,x3,x4,x5]∧v=.agg #[.map mo,.int .i64 x0,.int .i64 x1,.int .i64 x2,.int .i64 x3,.int .i64 x4,.int .i64 x5]∧R M (mpE (AV.int .i64) lI a.jz) (.map mo):=by
 obtain⟨x0,x1,x2,x3,x4,x5,hx⟩:=six hl;unfold viewAV at h;rw[hx]at h
 cases h with
 | agg hl hc =>
  rename_i vs
  match vs,hl with
  | [u,u0,u1,u2,u3,u4,u5],_ =>
   have h0:=hc 0 _ _ rfl rfl;have h1:=hc 1 _ _ rfl rfl;have h2:=hc 2 _ _ rfl rfl;have h3:=hc 3 _ _ rfl rfl;have h4:=hc 4 _ _ rfl rfl;have h5:=hc 5 _ _ rfl rfl;have h6:=hc 6 _ _ rfl rfl;obtain⟨mo,rfl⟩:=qbn h0;cases h1;cases h2;cases h3;cases h4;cases h5;cases h6;exact⟨mo,x0,x1,x2,x3,x4,x5,hx,rfl,h0⟩
theorem Db {M:Mem} {m:List (Int×List Int)} {mv:Value} (hm:R M (mpE (AV.int .i64) lI m) mv) {t:Int} (ht:wfI .i64 t=true) (w:World) (hC:Cons M w):∃ v,(Instr.lookup 87 mv (.int .i64 t) false).run Try.prog w=.ok v w∧R M (lI (mget keq1 [] t m)) v:=by
 have hk:(AV.int .i64 t).keyV=some (.int .i64 t):=by simp only[AV.keyV,ht]
 have hr:=JM (P:=Try.prog) (t:=87) (kt:=3) (e:=24) (F:=AV.int .i64) (G:=lI) (eq:=keq1) (l:=m) (k:=t) (z:=[]) (by rw[hk];rfl) (by kernel_rfl) (fun x=>by kernel_rfl) (fun x y=>qaM x y) (by kernel_rfl);exact Dn (kt:=3) (e:=24) (w:=w) hC hm (by kernel_rfl) hk hr
theorem qcN {x0 x1 x2 x3 x4 x5 y0 y1 y2 y3 y4 y5:Int} (w:World):(Op.equalIn 10000 88 (.agg #[.int .i64 x0,.int .i64 x1,.int .i64 x2,.int .i64 x3,.int .i64 x4,.int .i64 x5]) (.agg #[.int .i64 y0,.int .i64 y1,.int .i64 y2,.int .i64 y3,.int .i64 y4,.int .i64 y5])).run Try.prog w=.ok ([x0,x1,x2,x3,x4,x5] == [y0,y1,y2,y3,y4,y5]) w:=by
 obtain⟨i,hi,hsz⟩:∃ i,Try.prog.info? 3=some i∧i.size=1:=by
  have h:=Try.infoInt
  cases hi:Try.prog.info? 3 with
  | none=>rw[hi]at h;cases h
  | some i =>
   rw[hi]at h;simp only[Option.map_some,Option.some.injEq,Prod.mk.injEq]at h;exact⟨i,rfl,h.2.1⟩
 have hco:Try.prog.cellsOf 3=1:=by unfold Program.cellsOf;rw[hi];exact hsz
 have rx:∀ (l:List Int) (j:Nat) c v,(l.map (AV.int .i64))[j]? = some c→(l.map (Value.int .i64))[j]? = some v→R (fun _ _=>none) c v:=fun l j c v hc hv=>by
  rw[List.getElem?_map,Option.map_eq_some_iff]at hc hv;obtain⟨a,h1,rfl⟩:=hc;obtain⟨b,h2,rfl⟩:=hv;rw[h1]at h2;cases h2;exact .int _ _
 have hq:=DM .i64 6 [x0,x1,x2,x3,x4,x5] [y0,y1,y2,y3,y4,y5] rfl rfl;rw[show (10000:Nat)=9999+1 from rfl,run_equalIn_array w 9999 _ _ Try.underlying88 hi,hco,List.range_eq_range'];exact Zv (d:=9998) (k:=0) (by kernel_rfl) (rfl) (rfl) (rx [x0,x1,x2,x3,x4,x5]) (rx [y0,y1,y2,y3,y4,y5]) 6 0 _ hq
set_option maxHeartbeats 2000000 in
theorem Try.same66 {a b:hsview} (ha:a.JY.length=6) (hb:b.JY.length=6) (hal:∀ t,(mget keq1 [] t a.jz).length≤100000):CallOk Try.prog 66 [viewAV a,viewAV b] (.bool (sameP a b)):=by
 intro M w vs hG hC hl hR
 obtain⟨v0,v1,rfl⟩:∃ v0 v1,vs=[v0,v1]:=by
  match vs,hl with
  | [v0,v1],_=>exact⟨v0,v1,rfl⟩
 have r0:R M (viewAV a) v0:=hR 0 _ v0 rfl rfl;have r1:R M (viewAV b) v1:=hR 1 _ v1 rfl rfl;clear hR hl hG;show Calls Try.prog 66 [v0,v1].toArray w (Vb M w (.bool (sameP a b)));obtain⟨ma,x0,x1,x2,x3,x4,x5,hxa,rfl,rma⟩:=ZF ha r0;obtain⟨mb,y0,y1,y2,y3,y4,y5,hxb,rfl,rmb⟩:=ZF hb r1;clear r0 r1;have mixed:=mixedP;have t3:=Try.underlying3;have a3:=Try.isAgg3;have z3:=Try.sizeOf3;have v3:=Try.zeroValue3;have u3:=run_underlying Try.underlying3;have t4:=Try.underlying4;have a4:=Try.isAgg4;have z4:=Try.sizeOf4;have v4:=Try.zeroValue4;have t24:=Try.underlying24;have a24:=Try.isAgg24;have z24:=Try.sizeOf24;have v24:=Try.zeroValue24;have u24:=run_underlying Try.underlying24;have t87:=Try.underlying87;have a87:=Try.isAgg87;have z87:=Try.sizeOf87;have v87:=Try.zeroValue87;have u87:=run_underlying Try.underlying87;have t88:=Try.underlying88;have a88:=Try.isAgg88;have z88:=Try.sizeOf88;have v88:=Try.zeroValue88;have u88:=run_underlying Try.underlying88;have t90:=Try.underlying90;have a90:=Try.isAgg90;have z90:=Try.sizeOf90;have v90:=Try.zeroValue90;have u90:=run_underlying Try.underlying90;obtain⟨w0,ew0⟩:∃ w0,w0=(w.alloc (.cells #[.map ma,.int .i64 x0,.int .i64 x1,.int .i64 x2,.int .i64 x3,.int .i64 x4,.int .i64 x5] 90)).alloc (.cells #[.map mb,.int .i64 y0,.int .i64 y1,.int .i64 y2,.int .i64 y3,.int .i64 y4,.int .i64 y5] 90):=⟨_,rfl⟩
 have z0:w0.heap.size=w.heap.size+1+1:=by rw[ew0];simp
 have C0:Cons M w0:=by rw[ew0];exact (hC.alloc _).alloc _
 have B0:Below w.heap.size w w0:=by rw[ew0];exact ((Below.refl _ _).alloc (A3 _) _).alloc (by simp) _
 have n0:w0.heap[w.heap.size]? = some (.cells #[.map ma,.int .i64 x0,.int .i64 x1,.int .i64 x2,.int .i64 x3,.int .i64 x4,.int .i64 x5] 90 (0,0)):=by
  rw[ew0,heap_alloc_old _ _ (by simp)];exact heap_alloc_new _ _
 have n1:w0.heap[w.heap.size+1]? = some (.cells #[.map mb,.int .i64 y0,.int .i64 y1,.int .i64 y2,.int .i64 y3,.int .i64 y4,.int .i64 y5] 90 (0,0)):=by
  rw[ew0];have:=heap_alloc_new (w.alloc (.cells #[.map ma,.int .i64 x0,.int .i64 x1,.int .i64 x2,.int .i64 x3,.int .i64 x4,.int .i64 x5] 90)) (.cells #[.map mb,.int .i64 y0,.int .i64 y1,.int .i64 y2,.int .i64 y3,.int .i64 y4,.int .i64 y5] 90)
  simpa using this
 have HW:=(show Hid (w0=_) from ew0);clear ew0
 go_enter Try.func66,Try.ntmps66
 go_wp2
 rw[← HW.out]
 go_loopw [5] (fun i wr=>∃ k:Nat,1≤k∧k≤7∧i=.int .i64 k∧(∀ j:Int,1≤j→j<k→mget keq1 [] j a.jz=mget keq1 [] j b.jz)∧Below w0.heap.size w0 wr)
  (fun i _=>8 - (RowKit.intOf i).toNat)
 case atStart=>exact⟨1,A3 _,by omega,rfl,fun j h1 h2=>by omega,Below.refl _ _⟩
 case round =>
  obtain⟨k,h1,h7,rfl,hk,hB⟩:=hrel;have Cr:=C0.below hB;have n0:=(hB.block _ (by omega)).trans n0;have n1:=(hB.block _ (by omega)).trans n1
  have p0:wr.cell? ⟨w.heap.size,0,none⟩=some (.map ma):=by simp[A0,n0]
  have p1:wr.cell? ⟨w.heap.size+1,0,none⟩=some (.map mb):=by simp[A0,n1]
  by_cases hk6:k≤6
  ·have hwf:wfI .i64 (k:Int)=true:=by
    unfold wfI Lit.wf;simp[IntKind.min,IntKind.max,IntKind.signed,IntKind.bits];omega
   obtain⟨va,la,ra⟩:=Db rma hwf wr Cr;obtain⟨vb,lb,rb⟩:=Db rmb hwf wr Cr
   have i0:(k:Int)≤6:=by omega
   have c24:=jg (jc _ _ _ (qbs (a:=mget keq1 [] (k:Int) a.jz) (b:=mget keq1 [] (k:Int) b.jz) (hal _))) M wr [va,vb] (glob0 M) Cr rfl (fun j c d hc hd=>by match j,hc,hd with | 0,hc,hd=>(cases hc;cases hd;exact ra) | 1,hc,hd=>(cases hc;cases hd;exact rb))
   go_wp2_with fail
   refine Calls.mono c24 ?_
   rintro e w2 ⟨u,M2,rfl,hB2,_,_,_,ru,_⟩
   obtain rfl:u=.bool (mget keq1 [] (k:Int) a.jz == mget keq1 [] (k:Int) b.jz):=by cases ru;rfl
   have B2:=hB.trans (hB2.mono (by have:=hB.size;omega))
   cases he:(mget keq1 [] (k:Int) a.jz == mget keq1 [] (k:Int) b.jz) with
   | false =>
    go_wp2
    go_ret
    refine⟨_,M,rfl,B0.trans (B2.mono (by omega)),Sub.refl _,C0.below B2,fun _ _ _=>rfl,?_,trivial⟩
    have:sameP a b=false:=by
     unfold sameP;rw[E7];left;rw[List.all_eq_false];refine⟨(k:Int),?_,by rw[he];decide⟩
     have:(k:Int)=1∨(k:Int)=2∨(k:Int)=3∨(k:Int)=4∨(k:Int)=5∨(k:Int)=6:=by omega
     simpa using this
    rw[this];exact .bool _
   | true =>
    go_wp2
    go_roundw
    case rel =>
     refine⟨k+1,by omega,by omega,by go_num,fun j h1 h2=>?_,B2⟩
     rcases Int.lt_or_le j k with h3 | h3
     ·exact hk j h1 h3
     ·have:j=k:=by omega
      rw[this];exact eq_of_beq he
    case measure=>simp[RowKit.intOf];omega
  ·obtain rfl:k=7:=by omega
   have hall:(([1,2,3,4,5,6]:List Int).all fun t=>mget keq1 [] t a.jz == mget keq1 [] t b.jz)=true:=by
    rw[B5];intro t ht
    have ht:t=1∨t=2∨t=3∨t=4∨t=5∨t=6:=by simpa using ht
    rw[hk t (by omega) (by omega)];simp
   have cx0:wr.cell? ⟨w.heap.size,1,none⟩=some (.int .i64 x0):=by simp[A0,n0]
   have cx1:wr.cell? ⟨w.heap.size,2,none⟩=some (.int .i64 x1):=by simp[A0,n0]
   have cx2:wr.cell? ⟨w.heap.size,3,none⟩=some (.int .i64 x2):=by simp[A0,n0]
   have cx3:wr.cell? ⟨w.heap.size,4,none⟩=some (.int .i64 x3):=by simp[A0,n0]
   have cx4:wr.cell? ⟨w.heap.size,5,none⟩=some (.int .i64 x4):=by simp[A0,n0]
   have cx5:wr.cell? ⟨w.heap.size,6,none⟩=some (.int .i64 x5):=by simp[A0,n0]
   have cy0:wr.cell? ⟨w.heap.size+1,1,none⟩=some (.int .i64 y0):=by simp[A0,n1]
   have cy1:wr.cell? ⟨w.heap.size+1,2,none⟩=some (.int .i64 y1):=by simp[A0,n1]
   have cy2:wr.cell? ⟨w.heap.size+1,3,none⟩=some (.int .i64 y2):=by simp[A0,n1]
   have cy3:wr.cell? ⟨w.heap.size+1,4,none⟩=some (.int .i64 y3):=by simp[A0,n1]
   have cy4:wr.cell? ⟨w.heap.size+1,5,none⟩=some (.int .i64 y4):=by simp[A0,n1]
   have cy5:wr.cell? ⟨w.heap.size+1,6,none⟩=some (.int .i64 y5):=by simp[A0,n1]
   have heq:=qcN (x0:=x0) (x1:=x1) (x2:=x2) (x3:=x3) (x4:=x4) (x5:=x5) (y0:=y0) (y1:=y1) (y2:=y2) (y3:=y3) (y4:=y4) (y5:=y5) wr
   have hv:sameP a b=([x0,x1,x2,x3,x4,x5] == [y0,y1,y2,y3,y4,y5]):=by unfold sameP;rw[hall,hxa,hxb,Bool.true_and]
   generalize ([x0,x1,x2,x3,x4,x5] == [y0,y1,y2,y3,y4,y5])=bb at heq hv
   go_wp2
   go_ret
   refine⟨_,M,rfl,B0.trans (hB.mono (by omega)),Sub.refl _,Cr,fun _ _ _=>rfl,?_,trivial⟩;rw[hv];exact .bool _
end Go.Proofs
namespace Go.AM
def dfs (P:List Int→Bool) (l:List Int):Nat→List Int→Option (List Int)
 | 0,o=>bif P o then some o else none
 | n+1,o=>l.findSome? fun t=>bif o.contains t then none else dfs P l n (o++[t])
end Go.AM
namespace Go.Proofs
open Go.RowKit Go.AM
open Go.ChangeMaps (setBlock)
theorem NW (w:World) (base:Nat) (v:Value) (l:List Int) (x:Int) (hown:w.ownsRow base 3 1 v l.length (intsV l)) {B:Nat} {fz:Nat×Nat} (hx:w.heap[B]? = some (.cells #[.int .i64 x] 3 fz)) (hlen:l.length≤1000000000) (hb:base≤w.heap.size) (ty:TypeId) (c0:Nat) :
  ∃ g cap w',(Builtin.append_ #[24,24] ty #[v,.slice (some ⟨B,0,none⟩) 1 c0]).run Try.prog w=.ok (.slice (some ⟨g,0,none⟩) (l.length+1) cap) w'∧w'.ownsRow base 3 1 (.slice (some ⟨g,0,none⟩) (l.length+1) cap) (l.length+1) (intsV (l++[x]))∧w.grownBy w' v.ownBlock∧(v.ownBlock=some g∨g=w.heap.size)∧g<w'.heap.size:=by
 obtain⟨i0,hi,hz0,hz1,hz2⟩:=info_parts Try.infoInt;have h:=run_append_lies (P:=Try.prog) w 24 ty base 3 i0 (.int .i64 0) 1 8 Try.underlying24 hi hz0 hz1 hz2 rfl (by omega) v l.length (intsV l) hown ⟨B,0,none⟩ 1 c0 [.int .i64 x] rfl (World.news_of_block hx) (by simp[Value.oneCell']) (by omega) (by unfold maxLen;omega) (by omega) hb _ rfl;rw[Zp];exact h
theorem Vv {ops:Array Oper} {rest:List Oper} {o:Oper} {a:Act} {w:World} {Q:Exit→Act→World→Prop} (hgd:o.guard=none) (s x:Operand) (ho:o.op=.call { callee:=.builtin .append,args:=#[s,x],argTypes:=#[24,24] }) {base:Nat} {v:Value} {l:List Int} {f:Int} {B c0:Nat} {fz:Nat×Nat}
  (hs:a.eval s=v) (hx:a.eval x=.slice (some ⟨B,0,none⟩) 1 c0) (hown:w.ownsRow base 3 1 v l.length (intsV l)) (hb:w.heap[B]? = some (.cells #[.int .i64 f] 3 fz)) (hlen:l.length≤1000000000) (hbase:base≤w.heap.size)
  (h:∀ g cap w',w'.ownsRow base 3 1 (.slice (some ⟨g,0,none⟩) (l.length+1) cap) (l.length+1) (intsV (l++[f]))→w.grownBy w' v.ownBlock→(v.ownBlock=some g∨g=w.heap.size)→g<w'.heap.size→wpList Try.prog ops Q rest (a.put o.dst (.slice (some ⟨g,0,none⟩) (l.length+1) cap)) w'):wpList Try.prog ops Q (o::rest) a w:=by
 obtain⟨g,cap,w',hr,h2,h3,h4,h5⟩:=NW w base v l f hown hb hlen hbase o.type c0
 refine wpList_plain hgd fun K hK=>?_
 unfold Oper.wp execOp;simp only[ho,resolve,invoke,builtin,Sem.run_bind,Sem.run_pure,Result.andThen_ok,List.map_toArray,List.map_cons,List.map_nil,hs,hx,hr];exact hK _ _ (h g cap w' h2 h3 h4 h5)
theorem qam {w:World} {base g cap:Nat} {c:List Int} {t:Int} (h:w.ownsRow base 3 1 (.slice (some ⟨g,0,none⟩) (c.length+1) cap) (c.length+1) (intsV (c++[t]))):w.ownsRow base 3 1 (.slice (some ⟨g,0,none⟩) c.length cap) c.length (intsV c):=by
 obtain⟨e1,e2⟩:=h;refine⟨by simp[intsV],.inr ?_⟩
 rcases e2 with ⟨hv,_⟩ | ⟨g2,cap2,cur,hv,k1,k2,k3,k4,k5,k6⟩
 ·cases hv
 ·obtain⟨e3,e4⟩:g=g2∧cap=cap2:=by
   simp only[Value.slice.injEq,Option.some.injEq,Addr.mk.injEq]at hv;exact⟨hv.1.1,hv.2.2⟩
  subst e3;subst e4;refine⟨g,cap,cur,rfl,k1,k2,by omega,k4,k5,?_⟩;have h1:=congrArg (List.take c.length) k6;rw[List.take_take,Nat.min_eq_left (by omega)]at h1;rw[Nat.mul_one,h1];simp[intsV]
structure TF (w:World) (bo g:Nat) (w':World):Prop where
 os:w'.os=w.os
 tape:w'.tape=w.tape
 output:w'.output=w.output
 size:w.heap.size≤w'.heap.size
 block:∀ k,k<w.heap.size→k≠bo→k≠g→w'.heap[k]? = w.heap[k]?
theorem TF.refl (w:World) (bo g:Nat):TF w bo g w:=⟨rfl,rfl,rfl,A3 _,fun _ _ _ _=>rfl⟩
theorem TF.below {w w1 w2:World} {bo g:Nat} (h:TF w bo g w1) (hB:Below w1.heap.size w1 w2):TF w bo g w2 :=
 ⟨hB.os.trans h.os,hB.tape.trans h.tape,hB.output.trans h.output,A8 h.size hB.size,fun k hk h1 h2=>by
  have:=h.size
  rw[hB.block k (by omega),h.block k hk h1 h2]⟩
theorem TF.trans {w w1 w2:World} {bo g g1:Nat} (h:TF w bo g w1) (k:TF w1 bo g1 w2) (hg:g1=g∨w.heap.size≤g1):TF w bo g w2 :=
 ⟨k.os.trans h.os,k.tape.trans h.tape,k.output.trans h.output,A8 h.size k.size,fun j hj h1 h2=>by
  have:=h.size
  rw[k.block j (by omega) h1 (by rcases hg with e | e <;> omega),h.block j hj h1 h2]⟩
theorem TF.set {w w1:World} {bo g:Nat} (h:TF w bo g w1) (u:Value):TF w bo g (w1.setCell ⟨bo,0,none⟩ u) :=
 ⟨h.os,h.tape,h.output,by rw[Ju];exact h.size,fun k hk h1 h2=>by rw[qr h1,h.block k hk h1 h2]⟩
theorem TF.grown {w w1 w2:World} {bo g g1:Nat} (h:TF w bo g w1) (k:w1.grownBy w2 (some g1)) (hg:g1=g∨w.heap.size≤g1):TF w bo g w2 :=
 ⟨k.os.trans h.os,k.tape.trans h.tape,k.output.trans h.output,A8 h.size k.size,fun j hj h1 h2=>by
  have:=h.size
  rw[k.block j (by omega) (fun e=>by rcases hg with e1 | e1 <;> (cases e;omega)),h.block j hj h1 h2]⟩
theorem TF.cons {M:Mem} {w w':World} {bo g:Nat} (h:TF w bo g w') (hC:Cons M w) (hb:∀ o,M bo o=none) (hg:∀ o,M g o=none):Cons M w' :=
 hC.of_blocks fun b o u hu hl=>h.block b hl (fun e=>by rw[e,hb]at hu;cases hu) (fun e=>by rw[e,hg]at hu;cases hu)
def tryV5 (bo bl bp bw bt:Nat):Value:=.func (.func 64) #[] #[.pointer (some ⟨bo,0,none⟩),.pointer (some ⟨bl,0,none⟩),.pointer (some ⟨bp,0,none⟩),.pointer (some ⟨bw,0,none⟩),.pointer (some ⟨bt,0,none⟩)]
structure VE (fuel:Nat) (M:Mem) (bo bl bp bw bt:Nat) (p:List hsOp) (l:List Int) (want:hsview) (T:List Int→Bool):Prop where
 lv:∃ a cap,M bl 0=some (.slice a l.length cap)∧R M (.lst 3 1 none (cL l)) (.slice a l.length cap)
 pv:∃ pv,M bp 0=some pv∧isTup pv=false∧R M (l44 none p) pv
 wv:∃ mo x0 x1 x2 x3 x4 x5,want.JY=[x0,x1,x2,x3,x4,x5]∧R M (viewAV want) (.agg #[.map mo,.int .i64 x0,.int .i64 x1,.int .i64 x2,.int .i64 x3,.int .i64 x4,.int .i64 x5])∧M bw 0=some (.map mo)∧M bw 1=some (.int .i64 x0)∧M bw 2=some (.int .i64 x1)∧M bw 3=some (.int .i64 x2)∧M bw 4=some (.int .i64 x3)∧M bw 5=some (.int .i64 x4)∧M bw 6=some (.int .i64 x5)
 g:M bt 0=some (tryV5 bo bl bp bw bt)
 f:∀ o,M bo o=none
 wf:∀ x,x∈l→wfI .i64 x=true
 len:l.length≤1000
 tst:∀ o:List Int,o.length=l.length→o.Nodup→(∀ x,x∈o→x∈l)→∃ s v,jy p o=some s∧viewP fuel s=some v∧v.JY.length=6∧(∀ t,(mget keq1 [] t v.jz).length≤100000)∧sameP v want=T o
def TryPost (base:Nat) (w:World) (bo g:Nat) (o:List Int) (res:Option (List Int)) (e:Ending) (w':World):Prop :=
 e=.returned (.bool res.isSome)∧TF w bo g w'∧∃ g' cap',w'.heap[bo]? = some (.cells #[.slice (some ⟨g',0,none⟩) (res.getD o).length cap'] 24 (0,0))∧w'.ownsRow base 3 1 (.slice (some ⟨g',0,none⟩) (res.getD o).length cap') (res.getD o).length (intsV (res.getD o))∧(g'=g∨w.heap.size≤g')
def Try64 (n:Nat):Prop:=∀ (fuel:Nat) (M:Mem) (w:World) (base bo bl bp bw bt g cap:Nat) (p:List hsOp) (l o:List Int) (want:hsview) (T:List Int→Bool),VE fuel M bo bl bp bw bt p l want T→Cons M w→o.Nodup→(∀ x,x∈o→x∈l)→o.length+n=l.length →
 w.heap[bo]? = some (.cells #[.slice (some ⟨g,0,none⟩) o.length cap] 24 (0,0))→w.ownsRow base 3 1 (.slice (some ⟨g,0,none⟩) o.length cap) o.length (intsV o)→(∀ j,M g j=none)→base≤w.heap.size →
 Calls Try.prog 64 #[.pointer (some ⟨bo,0,none⟩),.pointer (some ⟨bl,0,none⟩),.pointer (some ⟨bp,0,none⟩),.pointer (some ⟨bw,0,none⟩),.pointer (some ⟨bt,0,none⟩)] w (TryPost base w bo g o (dfs T l n o))
def mblk (M N:Mem) (g:Nat):Mem:=fun b o=>if b=g then N b o else M b o
theorem Yg {M N:Mem} {g:Nat} (h:∀ o,M g o=none):Sub M (mblk M N g):=fun b o u hu=>by
 unfold mblk;rw[if_neg (fun e=>by rw[e,h]at hu;cases hu)];exact hu
theorem Nh {M N:Mem} {g:Nat} (h:∀ b o u,N b o=some u→b=g):Sub N (mblk M N g):=fun b o u hu=>by
 unfold mblk;rw[if_pos (h b o u hu)];exact hu
theorem Yy {M N:Mem} {w:World} {g:Nat} (hM:Cons M w) (hN:Cons N w):Cons (mblk M N g) w:=fun b o u hu=>by
 unfold mblk at hu;split at hu
 ·exact hN _ _ _ hu
 ·exact hM _ _ _ hu
theorem Try.enter64:∀ args w,(callFunc 64 args).run Try.prog w=.ok (.enter 64 args) w:=fun args w=>by
 have h := Try.func64;have h1 : Try.f64.name ≠ "runtime.NumGoroutine" := of_decide_eq_true (by kernel_rfl)
 have h2:Try.f64.body≠none:=fun e=>absurd (show Try.f64.body.isNone=false by kernel_rfl) (by rw[e];decide)
 simp[callFunc,h,h1,h2]
set_option maxHeartbeats 1000000 in
theorem Try.try64_0:Try64 0:=by
 intro fuel M w base bo bl bp bw bt g cap p l o want T hV hC hn hs hlen hbo hown hMg hb;obtain⟨la,lc,l0,rl⟩:=hV.lv;obtain⟨pv,p0,ptu,rp⟩:=hV.pv;obtain⟨mo,x0,x1,x2,x3,x4,x5,hwl,rw0,m0,m1,m2,m3,m4,m5,m6⟩:=hV.wv;obtain⟨s,v,hse,hvw,hv6,hvl,hT⟩:=hV.tst o (by omega) hn hs;have hll:=hV.len;have res:dfs T l 0 o=bif T o then some o else none:=rfl
 have hD:(dfs T l 0 o).getD o=o:=by rw[res];cases T o <;> rfl
 have hS:(dfs T l 0 o).isSome=T o:=by rw[res];cases T o <;> rfl
 unfold TryPost;rw[hD,hS];clear res hD hS;obtain⟨N,hN,hNR,hNb⟩:=Yv hown
 have hNb':∀ b j u,N b j=some u→b=g:=fun b j u hu=>by
  have:=hNb b j u hu
  simpa[Value.ownBlock] using this.symm
 have hlo:o.length=l.length:=by omega
 rw[hlo]at hbo hown hNR ⊢;clear hlo
 have KS:∀ w',Cons M w'→w'.heap[bo]? = w.heap[bo]?→w'.cell? ⟨bp,0,none⟩=some pv∧w'.cell? ⟨bo,0,none⟩=some (.slice (some ⟨g,0,none⟩) l.length cap)∧w'.cell? ⟨bw,0,none⟩=some (.map mo)∧w'.cell? ⟨bw,1,none⟩=some (.int .i64 x0)∧w'.cell? ⟨bw,2,none⟩=some (.int .i64 x1)∧w'.cell? ⟨bw,3,none⟩=some (.int .i64 x2)∧w'.cell? ⟨bw,4,none⟩=some (.int .i64 x3)∧w'.cell? ⟨bw,5,none⟩=some (.int .i64 x4)∧w'.cell? ⟨bw,6,none⟩=some (.int .i64 x5):=fun w' h hbk=>by
  rw[hbo]at hbk;exact⟨qu (h _ _ _ p0) ptu,by simp[A0,hbk],qu (h _ _ _ m0) rfl,qu (h _ _ _ m1) rfl,qu (h _ _ _ m2) rfl,qu (h _ _ _ m3) rfl,qu (h _ _ _ m4) rfl,qu (h _ _ _ m5) rfl,qu (h _ _ _ m6) rfl⟩
 have K0:=KS w.drew hC rfl;have ql:=qu (hC _ _ _ l0) rfl;have qo:=K0.2.1;have hC':=Yy (g:=g) hC hN;have c65:=jg (XZ p o s hse) (mblk M N g) w.drew [pv,.slice (some ⟨g,0,none⟩) l.length cap] (glob0 _) hC' rfl (fun j a b ha hb=>by match j,ha,hb with | 0,ha,hb=>(cases ha;cases hb;exact rp.mono (Yg hMg)) | 1,ha,hb=>(cases ha;cases hb;exact hNR.mono (Nh hNb')));have sM:=Yg (N:=N) hMg;have mixed:=mixedP;have t3:=Try.underlying3;have a3:=Try.isAgg3;have z3:=Try.sizeOf3;have v3:=Try.zeroValue3;have u3:=run_underlying Try.underlying3;have t4:=Try.underlying4;have a4:=Try.isAgg4;have z4:=Try.sizeOf4;have v4:=Try.zeroValue4;have t24:=Try.underlying24;have a24:=Try.isAgg24;have z24:=Try.sizeOf24;have v24:=Try.zeroValue24;have u24:=run_underlying Try.underlying24;have t29:=Try.underlying29;have a29:=Try.isAgg29;have z29:=Try.sizeOf29;have v29:=Try.zeroValue29;have u29:=run_underlying Try.underlying29;have t90:=Try.underlying90;have a90:=Try.isAgg90;have z90:=Try.sizeOf90;have v90:=Try.zeroValue90;have u90:=run_underlying Try.underlying90;have t32:=Try.underlying32;have a32:=Try.isAgg32;have z32:=Try.sizeOf32;have v32:=Try.zeroValue32;have qo':w.cell? ⟨bo,0,none⟩=some (.slice (some ⟨g,0,none⟩) l.length cap):=qo
 go_enter Try.func64,Try.ntmps64
 go_wp2
 refine wp_region_held_drew (S:=(fun w'=>w'.cell? ⟨bp,0,none⟩=some pv∧w'.cell? ⟨bo,0,none⟩=some (.slice (some ⟨g,0,none⟩) l.length cap)∧w'.cell? ⟨bw,0,none⟩=some (.map mo)∧w'.cell? ⟨bw,1,none⟩=some (.int .i64 x0)∧w'.cell? ⟨bw,2,none⟩=some (.int .i64 x1)∧w'.cell? ⟨bw,3,none⟩=some (.int .i64 x2)∧w'.cell? ⟨bw,4,none⟩=some (.int .i64 x3)∧w'.cell? ⟨bw,5,none⟩=some (.int .i64 x4)∧w'.cell? ⟨bw,6,none⟩=some (.int .i64 x5))) (by kernel_rfl) K0 (fun hHeld=>?_);refine wpAnyH_take (i:=0) (v:=pv) rfl (by kernel_rfl) (by kernel_rfl) (by kernel_rfl) (fun _ _ _ h=>h) (Or.inl ⟨by kernel_rfl,fun w' hw'=>?_⟩) hHeld ?_
 ·obtain⟨p0,p1,p2,p3,p4,p5,p6,p7,p8⟩:=hw';go_simp
 simp only[Act.put,B6,B7,B8,D0,D1,D2];refine wpAnyH_take (i:=1) (v:=.slice (some ⟨g,0,none⟩) l.length cap) rfl (by kernel_rfl) (by kernel_rfl) (by kernel_rfl) (fun _ _ _ h=>h) (Or.inl ⟨by kernel_rfl,fun w' hw'=>?_⟩) hHeld ?_
 ·obtain⟨p0,p1,p2,p3,p4,p5,p6,p7,p8⟩:=hw';go_simp
 simp only[Act.put,B6,B7,B8,D0,D1,D2];refine wpAnyH_take (i:=4) (v:=.agg #[.map mo,.int .i64 x0,.int .i64 x1,.int .i64 x2,.int .i64 x3,.int .i64 x4,.int .i64 x5]) rfl (by kernel_rfl) (by kernel_rfl) (by kernel_rfl) (fun _ _ _ h=>h) (Or.inl ⟨by kernel_rfl,fun w' hw'=>?_⟩) hHeld ?_
 ·obtain⟨p0,p1,p2,p3,p4,p5,p6,p7,p8⟩:=hw';go_simp
 simp only[Act.put,B6,B7,B8,D0,D1,D2];refine wpAnyH_ready (rs:=[2]) (by kernel_rfl) (by simp) (AllReadyH.cons rfl (fun K hK=>?_) AllReadyH.nil);rw[if_pos (by kernel_rfl)];go_simp
 go_at_call 65
 refine c65.mono ?_
 rintro e w1 ⟨sv,M1,rfl,hB1,s1,C1,o1,r1,_⟩
 have CM1:Cons M w1:=fun b j u hu=>C1 _ _ _ (s1 _ _ _ (sM _ _ _ hu))
 have hblt:=lt_of_block hbo;have k1:w1.heap[bo]? = w.heap[bo]?:=hB1.block bo hblt;have K1:=KS w1 CM1 k1;have c63:=Try.view63 hvw M1 w1 [sv] (glob0 M1) C1 rfl (fun j a b ha hb=>by match j,ha,hb with | 0,ha,hb=>(cases ha;cases hb;exact R.setLab (l':=none) r1))
 go_wp2_with fail
 refine hK.out _ _ K1 (fun hHeld=>?_);clear hK K;refine wpAnyH_ready (rs:=[3]) (by kernel_rfl) (by simp) (AllReadyH.cons rfl (fun K hK=>?_) AllReadyH.nil);rw[if_pos (by kernel_rfl)];go_simp
 go_at_call 63
 refine c63.mono ?_
 rintro e w2 ⟨vv,M2,rfl,hB2,s2,C2,o2,r2,_⟩
 have CM2:Cons M w2:=fun b j u hu=>C2 _ _ _ (s2 _ _ _ (s1 _ _ _ (sM _ _ _ hu)))
 have z1:=hB1.size;have z1':w.heap.size≤w1.heap.size:=z1;have k2:w2.heap[bo]? = w.heap[bo]?:=(hB2.block bo (by omega)).trans k1;have K2:=KS w2 CM2 k2;have c66:=Try.same66 hv6 (by rw[hwl];rfl) hvl M2 w2 [vv,.agg #[.map mo,.int .i64 x0,.int .i64 x1,.int .i64 x2,.int .i64 x3,.int .i64 x4,.int .i64 x5]] (glob0 M2) C2 rfl (fun j a b ha hb=>by match j,ha,hb with | 0,ha,hb=>(cases ha;cases hb;exact r2) | 1,ha,hb=>(cases ha;cases hb;exact rw0.mono (sM.trans (s1.trans s2))))
 go_wp2_with fail
 refine hK.out _ _ K2 (fun hHeld=>?_);clear hK K;refine wpAnyH_ready (rs:=[5]) (by kernel_rfl) (by simp) (AllReadyH.cons rfl (fun K hK=>?_) AllReadyH.nil);rw[if_pos (by kernel_rfl)];go_simp
 go_at_call 66
 refine c66.mono ?_
 rintro e w3 ⟨u,M3,rfl,hB3,s3,C3,o3,r3,_⟩
 obtain rfl:u=.bool (T o):=by rw[hT]at r3;cases r3;rfl
 have z2:=hB2.size
 have CM3:Cons M w3:=fun b j u hu=>C3 _ _ _ (s3 _ _ _ (s2 _ _ _ (s1 _ _ _ (sM _ _ _ hu))))
 have k3:w3.heap[bo]? = w.heap[bo]?:=(hB3.block bo (by omega)).trans k2;have K3:=KS w3 CM3 k3
 go_wp2_with fail
 refine hK.out _ _ K3 (fun hHeld=>?_);clear hK K;refine wpAnyH_take (i:=6) (v:=.bool (T o)) rfl (by kernel_rfl) (by kernel_rfl) (by kernel_rfl) (fun _ _ _ h=>h) (Or.inl ⟨by kernel_rfl,fun w' hw'=>?_⟩) hHeld ?_
 ·obtain⟨p0,p1,p2,p3,p4,p5,p6,p7,p8⟩:=hw';go_simp
 simp only[Act.put,B6,B7,B8,D0,D1,D2];refine wpAnyH_done (by kernel_rfl) ?_ _
 go_wp2
 go_ret
 have hB:Below w.heap.size w w3:=(Below.trans (b:=w1) (show Below w.heap.size w w1 from⟨hB1.os,hB1.tape,hB1.output,hB1.size,hB1.block⟩) (hB2.mono (by omega))).trans (hB3.mono (by omega));refine⟨rfl,(TF.refl w bo g).below hB,g,cap,k3.trans hbo,?_,.inl rfl⟩;obtain⟨q1,q2⟩:=hown;refine⟨q1,?_⟩
 rcases q2 with hn | ⟨g2,cap2,cur,hv,hb',hgg,rest⟩
 ·exact .inl hn
 ·exact .inr ⟨g2,cap2,cur,hv,hb',by rw[hB.block g2 (lt_of_block hgg)];exact hgg,rest⟩
end Go.Proofs
namespace Go.AM
open Go.Proofs
def wrB (it:Int) (x:rf5Op):Bool:=(x.qb == 1) && (x.qc == it)
def stepW (s:Int→Int) (x:rf5Op):Int→Int:=fun it=>bif wrB it x then x.qa else s it
def lastS (s:Int→Int) (l:List rf5Op):Int→Int:=l.foldl stepW s
def rdB (t:Int) (x:rf5Op):Bool:=(x.qa == t) && (x.qb == 0)
def readsW (t:Int):List rf5Op→(Int→Int)→List Int
 | [],_=>[]
 | x::r,s=>(bif rdB t x then [s x.qc] else [])++readsW t r (stepW s x)
def s0:Int→Int:=fun _=>0
theorem XI (s:Int→Int) (a b:List rf5Op):lastS s (a++b)=lastS (lastS s a) b:=List.foldl_append
theorem Qo (t:Int):∀ (a b:List rf5Op) (s:Int→Int),readsW t (a++b) s=readsW t a s++readsW t b (lastS s a)
 | [],b,s=>rfl
 | x::a,b,s=>by
  show _++readsW t (a++b) (stepW s x)=_;rw[Qo t a b];show _=(_++readsW t a (stepW s x))++readsW t b (lastS (stepW s x) a);rw[List.append_assoc]
def swapB (x y:rf5Op):Bool:=(x.qa != y.qa) && !clash x y
theorem YF {x y:rf5Op}:clash x y=true↔x.qa≠y.qa∧x.qc=y.qc∧(if y.qb > x.qb then y.qb else x.qb)=1:=by
 unfold clash;simp only[A1,bne_iff_ne,beq_iff_eq,ne_eq]
theorem Uj (x y:rf5Op):clash x y=clash y x:=by
 rw[D5,YF,YF];constructor
 ·rintro⟨h1,h2,h3⟩;refine⟨fun e=>h1 e.symm,h2.symm,?_⟩;split at h3 <;> split <;> omega
 ·rintro⟨h1,h2,h3⟩;refine⟨fun e=>h1 e.symm,h2.symm,?_⟩;split at h3 <;> split <;> omega
theorem QQ {x y:rf5Op}:swapB x y=true↔x.qa≠y.qa∧clash x y=false:=by
 unfold swapB;simp[bne_iff_ne]
theorem qaS {x y:rf5Op} (h:swapB x y=true):swapB y x=true:=by
 rw[QQ]at *;exact⟨fun e=>h.1 e.symm,by rw[Uj];exact h.2⟩
theorem UO {x y:rf5Op} (h:swapB x y=true) (s:Int→Int):stepW (stepW s x) y=stepW (stepW s y) x:=by
 obtain⟨h1,h2⟩:=QQ.1 h
 funext it
 unfold stepW
 cases hx:wrB it x <;> cases hy:wrB it y <;> try rfl
 exfalso;unfold wrB at hx hy;simp only[A1,beq_iff_eq]at hx hy;have:clash x y=true:=YF.2 ⟨h1,by omega,by rw[hx.1,hy.1];rfl⟩;rw[this]at h2;cases h2
theorem UT {x y:rf5Op} (h:swapB x y=true) {t:Int} (hr:rdB t x=true) (s:Int→Int):stepW s y x.qc=s x.qc:=by
 obtain⟨h1,h2⟩:=QQ.1 h;unfold rdB at hr;simp only[A1,beq_iff_eq]at hr;unfold stepW
 cases hy:wrB x.qc y with
 | false=>rfl
 | true =>
  exfalso;unfold wrB at hy;simp only[A1,beq_iff_eq]at hy;have:clash x y=true:=YF.2 ⟨h1,by omega,by rw[hr.2,hy.1];rfl⟩;rw[this]at h2;cases h2
theorem qah {x y:rf5Op} (h:swapB x y=true) (t:Int) (b:List rf5Op) (s:Int→Int):readsW t (x::y::b) s=readsW t (y::x::b) s:=by
 show _++(_++readsW t b (stepW (stepW s x) y))=_++(_++readsW t b (stepW (stepW s y) x));rw[UO h]
 cases hx:rdB t x with
 | false =>
  cases hy:rdB t y with
  | false=>rfl
  | true =>
   simp only[cond_true,cN,List.nil_append];rw[UT (qaS h) hy]
 | true =>
  cases hy:rdB t y with
  | false =>
   simp only[cond_true,cN,List.nil_append];rw[UT h hx]
  | true =>
   exfalso;unfold rdB at hx hy;simp only[A1,beq_iff_eq]at hx hy;exact (QQ.1 h).1 (by omega)
inductive Sw:List rf5Op→List rf5Op→Prop
 | refl (l):Sw l l
 | swap (a b x y) (h:swapB x y=true):Sw (a++x::y::b) (a++y::x::b)
 | trans {l m n}:Sw l m→Sw m n→Sw l n
theorem Sw.cons (z:rf5Op) {l m:List rf5Op} (h:Sw l m):Sw (z::l) (z::m):=by
 induction h with
 | refl l=>exact .refl _
 | swap a b x y h=>exact .swap (z::a) b x y h
 | trans _ _ h1 h2=>exact h1.trans h2
theorem Sw.reads {l m:List rf5Op} (h:Sw l m) (t:Int) (s:Int→Int):readsW t l s=readsW t m s:=by
 induction h with
 | refl l=>rfl
 | swap a b x y h=>rw[Qo,Qo,qah h]
 | trans _ _ h1 h2=>exact h1.trans h2
theorem Sw.last {l m:List rf5Op} (h:Sw l m) (s:Int→Int):lastS s l=lastS s m:=by
 induction h with
 | refl l=>rfl
 | swap a b x y h =>
  rw[XI,XI];show lastS (stepW (stepW _ x) y) b=lastS (stepW (stepW _ y) x) b;rw[UO h]
 | trans _ _ h1 h2=>exact h1.trans h2
def serV (h:List rf5Op) (o:List Int):List rf5Op:=o.flatMap fun t=>h.filter fun x=>x.qa == t
def sameV (p q:List rf5Op):Bool:=(([1,2,3,4,5,6]:List Int).all fun t=>readsW t p s0 == readsW t q s0) && (([0,1,2,3,4,5]:List Int).all fun i=>lastS s0 p i == lastS s0 q i)
theorem Sw.same {p q:List rf5Op} (h:Sw p q):sameV p q=true:=by
 unfold sameV;rw[h.last];simp[h.reads]
theorem Sw.sameL {p q:List rf5Op} (h:Sw p q) (r:List rf5Op):sameV r p=sameV r q:=by
 unfold sameV;rw[h.last];simp only[h.reads]
def viewR (h:List rf5Op):List Int×Int:=if validB h then (match dfs (fun o=>sameV (serV (partL h) o) (partL h)) (commL h) (commL h).length [] with | some o=>(o,0) | none=>([],5)) else ([],2)
end Go.AM
namespace Go.Proofs
open Go.RowKit Go.AM
theorem XF {w:World} {base:Nat} {v:Value} {n:Nat} {xs:List Value} (h:w.ownsRow base 3 1 v n xs) {w':World} (hb:∀ k,k<w.heap.size→v.ownBlock=some k→w'.heap[k]? = w.heap[k]?):w'.ownsRow base 3 1 v n xs:=by
 obtain⟨q1,q2⟩:=h;refine⟨q1,?_⟩
 rcases q2 with hn | ⟨g,cap,cur,rfl,hb',hgg,rest⟩
 ·exact .inl hn
 ·exact .inr ⟨g,cap,cur,rfl,hb',by rw[hb g (lt_of_block hgg) rfl];exact hgg,rest⟩
set_option maxHeartbeats 1000000 in
theorem Try.try64_S {n:Nat} (ih:Try64 n):Try64 (n+1):=by
 intro fuel M w base bo bl bp bw bt g cap p l o want T hV hC hn hs hlen hbo hown hMg hb;obtain⟨la,lc,l0,rl⟩:=hV.lv;obtain⟨la',lc',e',hL⟩:=QN rl
 obtain⟨rfl,rfl⟩:la=la'∧lc=lc':=by
  simp only[Value.slice.injEq]at e';exact⟨e'.1,e'.2.2⟩
 clear e' rl;have gt:=hV.g;have hll:=hV.len
 have hMno:∀ q,(q=g∨w.heap.size≤q)→∀ j,M q j=none:=fun q hq j=>by
  rcases hq with rfl | hq
  ·exact hMg j
  ·cases hm:M q j with
   | none=>rfl
   | some u=>have:=XV (hC _ _ _ hm);omega
 have hbl:=lt_of_block hbo
 obtain⟨F,hF⟩:∃ F:Int→Option (List Int),F=fun t=>bif o.contains t then none else dfs T l n (o++[t]):=⟨_,rfl⟩
 have hres:dfs T l (n+1) o=l.findSome? F:=by rw[hF];rfl
 rw[hres];clear hres;have mixed:=mixedP;have t3:=Try.underlying3;have a3:=Try.isAgg3;have z3:=Try.sizeOf3;have v3:=Try.zeroValue3;have u3:=run_underlying Try.underlying3;have t4:=Try.underlying4;have a4:=Try.isAgg4;have z4:=Try.sizeOf4;have v4:=Try.zeroValue4;have t24:=Try.underlying24;have a24:=Try.isAgg24;have z24:=Try.sizeOf24;have v24:=Try.zeroValue24;have u24:=run_underlying Try.underlying24;have t32:=Try.underlying32;have a32:=Try.isAgg32;have z32:=Try.sizeOf32;have v32:=Try.zeroValue32
 have hbe:((o.length:Int) == (l.length:Int))=false:=by rw[beq_eq_false_iff_ne];omega
 have qo:w.cell? ⟨bo,0,none⟩=some (.slice (some ⟨g,0,none⟩) o.length cap):=by simp[A0,hbo]
 have ql:=qu (hC _ _ _ l0) rfl
 go_enter Try.func64,Try.ntmps64
 go_wp2
 go_loopw [21] (fun i wr=>∃ k:Nat,k≤l.length∧i=.int .i64 k∧(∃ g1 cap1,wr.heap[bo]? = some (.cells #[.slice (some ⟨g1,0,none⟩) o.length cap1] 24 (0,0))∧wr.ownsRow base 3 1 (.slice (some ⟨g1,0,none⟩) o.length cap1) o.length (intsV o)∧(g1=g∨w.heap.size≤g1))∧TF w bo g wr∧∀ j y,j<k→l[j]? = some y→F y=none)
  (fun i _=>l.length - (RowKit.intOf i).toNat)
 case atStart=>exact⟨0,A9 _,rfl,⟨g,cap,hbo,hown,.inl rfl⟩,TF.refl _ _ _,fun j y hj=>by omega⟩
 case round =>
  clear qo ql;obtain⟨k,hk,rfl,⟨g1,cap1,hb1,ho1,hg1⟩,hTF,hprev⟩:=hrel;have Cr:=hTF.cons hC hV.f hMg
  have qo:wr.cell? ⟨bo,0,none⟩=some (.slice (some ⟨g1,0,none⟩) o.length cap1):=by simp[A0,hb1]
  rcases D6 k l.length with hk1 | hk1
  ·obtain⟨b,off,rfl,hM⟩:=hL k hk1;have hcx:=qu (Cr _ _ _ hM) rfl;have j0:(0:Int)≤(k:Int):=Int.natCast_nonneg _
   have j1:(k:Int)<(l.length:Int):=by omega
   have hxm:l[k]∈l:=List.getElem_mem hk1;have hxk:l[k]? = some l[k]:=List.getElem?_eq_getElem hk1;generalize l[k]=x at hcx hM hxm hxk;have c39:=Try.contains_own (t:=x) (by omega) ho1
   go_wp2_with fail
   refine Calls.mono c39 ?_
   rintro e w1 ⟨rfl,hB1⟩
   have T1:=hTF.below hB1;have hb1':=(hB1.block _ (lt_of_block hb1)).trans hb1
   have ho1':=XF ho1 fun k hk _=>hB1.block k hk
   have C1:=T1.cons hC hV.f hMg
   cases hcc:o.contains x with
   | true =>
    have hFx:F x=none:=by rw[hF];simp only[hcc,cond_true]
    go_wp2
    go_roundw
    case rel =>
     refine⟨k+1,hk1,by go_num,⟨g1,cap1,hb1',ho1',hg1⟩,T1,fun j y hj hy=>?_⟩
     rcases D6 j k with h | h
     ·exact hprev j y h hy
     ·obtain rfl:j=k:=by omega
      rw[hxk]at hy;cases hy;exact hFx
    case measure=>simp[RowKit.intOf];omega
   | false =>
    have hFx:F x=dfs T l n (o++[x]):=by rw[hF];simp only[hcc,cN]
    have hxo:¬ x∈o:=by simpa using hcc
    obtain⟨w2,ew2⟩:∃ w2,w2=w1.alloc (.cells #[.int .i64 x] 3):=⟨_,rfl⟩
    have z2:w2.heap.size=w1.heap.size+1:=by rw[ew2];simp
    have b2:∀ k,k<w1.heap.size→w2.heap[k]? = w1.heap[k]?:=fun k hk=>by rw[ew2];exact heap_alloc_old _ _ hk
    have n2:w2.heap[w1.heap.size]? = some (.cells #[.int .i64 x] 3 (0,0)):=by rw[ew2];exact heap_alloc_new _ _
    have T2:TF w bo g w2:=by rw[ew2];exact T1.below ((Below.refl _ _).alloc (A3 _) _)
    have ho2:=XF (w':=w2) ho1' fun k hk _=>b2 k hk
    have hb2:=(b2 _ (lt_of_block hb1')).trans hb1'
    have hll2:o.length≤1000000000:=by omega
    have hbase:base≤w2.heap.size:=by have:=T2.size;omega
    have hap:bo≠g1:=fun e=>Qm hb2 ho2 (by rw[e];rfl)
    have qo1:w1.cell? ⟨bo,0,none⟩=some (.slice (some ⟨g1,0,none⟩) o.length cap1):=by simp[A0,hb1']
    have HW2:=(show Hid (w2=_) from ew2);rw[ew2]at ho2 n2 hbase;have HB2:=(show Hid _ from hb2);clear ew2 hb2;have en64:=Try.enter64
    go_wp2_with (first | (at_builtin;refine Vv rfl (.tmp 28) (.tmp 30) (by rfl) (by rfl) (by rfl) ho2 n2 hll2 hbase ?_;intro g2 cap2 w3 ho3 hg3 ha3 hl3;rw[← HW2.out]at hg3 ha3;have hb3:=(hg3.block bo (lt_of_block HB2.out) (fun e=>hap (Option.some.inj e))).trans HB2.out;have d1:w3.frozen? ⟨bo,0,none⟩=false:=(by simp[World.frozen?,hb3]);have d2:w3.cell? ⟨bo,0,none⟩=some (.slice (some ⟨g1,0,none⟩) o.length cap1):=(by simp[A0,hb3]);have hg2:g2=g∨w.heap.size≤g2:=(by have:=T2.size;rcases ha3 with h | h;cases h;exact hg1;exact .inr (by omega));have T3:TF w bo g w3:=T2.grown hg3 hg1;have T4:=T3.set (.slice (some ⟨g2,0,none⟩) (o.length+1) cap2);have C4:=T4.cons hC hV.f hMg;have q4:(w3.setCell ⟨bo,0,none⟩ (.slice (some ⟨g2,0,none⟩) (o.length+1) cap2)).cell? ⟨bt,0,none⟩=some (.func (.func 64) #[] #[.pointer (some ⟨bo,0,none⟩),.pointer (some ⟨bl,0,none⟩),.pointer (some ⟨bp,0,none⟩),.pointer (some ⟨bw,0,none⟩),.pointer (some ⟨bt,0,none⟩)]):=qu (C4 _ _ _ gt) rfl) | fail)
    obtain⟨w4,ew4⟩:∃ w4,w4=w3.setCell ⟨bo,0,none⟩ (.slice (some ⟨g2,0,none⟩) (o.length+1) cap2):=⟨_,rfl⟩
    have hb4:w4.heap[bo]? = some (.cells #[.slice (some ⟨g2,0,none⟩) (o++[x]).length cap2] 24 (0,0)):=by
     rw[ew4,qF _ hb3,A2];rfl
    have hap3:bo≠g2:=fun e=>Qm (c:=o++[x]) hb3 (by rw[A2];exact ho3) (by rw[e];rfl)
    have ho4:w4.ownsRow base 3 1 (.slice (some ⟨g2,0,none⟩) (o++[x]).length cap2) (o++[x]).length (intsV (o++[x])):=by
     rw[A2]
     exact XF ho3 fun k hk hkb=>by
      rw[ew4,qr (fun e=>hap3 (by rw[← e];exact (Option.some.inj hkb).symm))]
    have z4:w4.heap.size=w3.heap.size:=by rw[ew4,Ju]
    rw[← ew4]at T4 C4
    have hcall:=ih fuel M w4 base bo bl bp bw bt g2 cap2 p l (o++[x]) want T hV C4 (List.nodup_append.2 ⟨hn,by simp,fun a ha b hb=>by simp at hb;subst hb;exact fun e=>hxo (e ▸ ha)⟩) (fun y hy=>by
     rcases List.mem_append.1 hy with h | h
     ·exact hs y h
     ·rw[List.mem_singleton.1 h];exact hxm) (by rw[A2,A7];omega) hb4 ho4 (hMno g2 hg2) (by have:=T4.size;omega)
    rw[← hFx]at hcall;rw[← ew4];have HW4:=(show Hid (w4=_) from ew4);clear ew4 en64;refine Calls.mono hcall ?_
    rintro e w5 ⟨rfl,T5,g3,cap3,hb5,ho5,hg3'⟩
    have T6:TF w bo g w5:=T4.trans T5 hg2
    have hg6:g3=g∨w.heap.size≤g3:=by
     have:=T4.size
     rcases hg3' with h | h
     ·rw[h];exact hg2
     ·exact .inr (by omega)
    cases hr:F x with
    | some r =>
     rw[hr]at hb5 ho5;have hfind:l.findSome? F=some r:=Qx hxk hprev hr
     go_wp2
     go_ret
     rw[hfind];exact⟨rfl,T6,g3,cap3,hb5,ho5,hg6⟩
    | none =>
     rw[hr]at hb5 ho5
     have hlen1:(o++[x]).length=o.length+1:=by simp
     simp only[Option.getD_none,hlen1]at hb5 ho5
     have q5:w5.cell? ⟨bo,0,none⟩=some (.slice (some ⟨g3,0,none⟩) (o.length+1) cap3):=by simp[A0,hb5]
     have f5:w5.frozen? ⟨bo,0,none⟩=false:=by simp[World.frozen?,hb5]
     have hoc:o.length+1≤cap3:=by
      rcases ho5.2 with ⟨hv,_⟩ | ⟨g',cap',cur,hv,k1,k2,k3,_⟩
      ·cases hv
      ·cases hv;exact k3
     go_wp2
     go_roundw
     case rel =>
      have hb6:=qF (j:=0) (.slice (some ⟨g3,0,none⟩) o.length cap3) hb5;refine⟨k+1,hk1,by go_num,⟨g3,cap3,hb6,?_,hg6⟩,T6.set _,fun j y hj hy=>?_⟩
      ·have hap5:bo≠g3:=fun e=>Qm (c:=o++[x]) hb5 (by rw[hlen1];exact ho5) (by rw[e];rfl)
       exact XF (qam ho5) fun k hk hkb=>qr (fun e=>hap5 (by rw[← e];exact (Option.some.inj hkb).symm))
      ·rcases D6 j k with h | h
       ·exact hprev j y h hy
       ·obtain rfl:j=k:=by omega
        rw[hxk]at hy;cases hy;exact hr
     case measure=>simp[RowKit.intOf];omega
  ·obtain rfl:k=l.length:=by omega
   have hnone:l.findSome? F=none:=Xf hprev
   go_wp2
   go_ret
   rw[hnone];exact⟨rfl,hTF,g1,cap1,hb1,ho1,hg1⟩
theorem Try.try64:∀ n,Try64 n
 | 0=>Try.try64_0
 | n+1=>Try.try64_S (Try.try64 n)
end Go.Proofs
namespace Go.AM
theorem HF:∀ (p l:List Int),p.Nodup→l.Nodup→(∀ x,x∈p→x∈l)→p∈someF p.length l
 | [],l,_,_,_=>by simp[someF]
 | y::p,l,hp,hn,h=>by
  obtain⟨p1,p2⟩:=List.nodup_cons.1 hp;refine List.mem_flatMap.2 ⟨y,h y (by simp),List.mem_map.2 ⟨p,?_,rfl⟩⟩
  exact HF p (l.erase y) p2 (hn.erase y) fun x hx=>(hn.mem_erase_iff).2 ⟨fun e=>p1 (e ▸ hx),h x (by simp[hx])⟩
def seenO (fuel:Nat) (p:List hsOp) (want:hsview) (o:List Int):Option Bool:=(jy p o).bind fun s=>(viewP fuel s).bind fun v=>chk (decide (v.JY.length=6) && v.jz.all fun q=>decide (q.2.length≤100000)) (some (sameP v want))
def viewO (fuel:Nat) (a1:List hsOp):Option (List Int×Int):=(Qw a1).bind fun ok=>bif ok then (jp fuel a1).bind fun p=>(viewP fuel p).bind fun want=>(qM fuel a1).bind fun l=>chk (decide (l.length≤999) && (l.all (wfI .i64) && (decide l.Nodup && (decide (want.JY.length=6) && (someF l.length l).all fun o=>(seenO fuel p want o).isSome)))) (some (match dfs (fun o=>(seenO fuel p want o).getD false) l l.length [] with | some o=>(o,0) | none=>([],5))) else some ([],2)
theorem Dl {n:Nat} (t:Int):∀ {m:List (Int×List Int)},(m.all fun q=>decide (q.2.length≤n))=true→(mget keq1 [] t m).length≤n
 | [],_=>A9 _
 | q::m,h=>by
  rw[List.all_cons,A1,decide_eq_true_eq]at h;unfold mget
  cases keq1 q.1 t with
  | true=>exact h.1
  | false=>exact Dl t h.2
end Go.AM
namespace Go.Proofs
open Go.RowKit Go.AM
set_option maxHeartbeats 1000000 in
theorem view30 {fuel:Nat} {a1:List hsOp} {r:List Int×Int} (h:viewO fuel a1=some r):CallOk Try.prog 30 [l44 none a1] (.tup [l3 none r.1,.int .i64 r.2]):=by
 intro M w vs hG hC hl hR
 obtain⟨v0,rfl⟩:∃ v0,vs=[v0]:=by
  match vs,hl with
  | [v0],_=>exact⟨v0,rfl⟩
 have r0:R M (l44 none a1) v0:=hR 0 _ v0 rfl rfl;clear hR hl hG;show Calls Try.prog 30 [v0].toArray w (DP M w (.tup [l3 none r.1,.int .i64 r.2]));unfold viewO at h;obtain⟨ok,hok,h⟩:=qd h;have c26:=jg (XD a1 ok hok) M w [v0] (glob0 M) hC rfl (fun j a b ha hb=>by match j,ha,hb with | 0,ha,hb=>cases ha;cases hb;exact r0);have mixed:=mixedP;have t3:=Try.underlying3;have a3:=Try.isAgg3;have z3:=Try.sizeOf3;have v3:=Try.zeroValue3;have u3:=run_underlying Try.underlying3;have t4:=Try.underlying4;have a4:=Try.isAgg4;have z4:=Try.sizeOf4;have v4:=Try.zeroValue4;have t24:=Try.underlying24;have a24:=Try.isAgg24;have z24:=Try.sizeOf24;have v24:=Try.zeroValue24;have u24:=run_underlying Try.underlying24;have t25:=Try.underlying25;have a25:=Try.isAgg25;have z25:=Try.sizeOf25;have v25:=Try.zeroValue25;have t29:=Try.underlying29;have a29:=Try.isAgg29;have z29:=Try.sizeOf29;have v29:=Try.zeroValue29;have t32:=Try.underlying32;have a32:=Try.isAgg32;have z32:=Try.sizeOf32;have v32:=Try.zeroValue32;have t90:=Try.underlying90;have a90:=Try.isAgg90;have z90:=Try.sizeOf90;have v90:=Try.zeroValue90;have u90:=run_underlying Try.underlying90;have en64:=Try.enter64
 cases ok with
 | false =>
  cases h
  go_enter Try.func30,Try.ntmps30
  go_wp2_with fail
  refine c26.mono ?_
  rintro e w1 ⟨v,M1,rfl,hB1,s1,C1,o1,r1,_⟩
  cases r1
  go_wp2
  go_ret2
  refine⟨_,M1,rfl,hB1,s1,C1,o1,?_,trivial⟩;refine .tup (vs:=[.slice none 0 0,.int .i64 2]) rfl (fun j c v hc hv=>?_)
  match j,hc,hv with
  | 0,hc,hv=>cases hc;cases hv;exact .lstn _ _ _
  | 1,hc,hv=>cases hc;cases hv;exact .int _ _
 | true =>
  simp only[cond_true]at h;obtain⟨p,hp,h⟩:=qd h;obtain⟨want,hwt,h⟩:=qd h;obtain⟨l,hcm,h⟩:=qd h;obtain⟨hck,h⟩:=qx h;simp only[A1,decide_eq_true_eq]at hck;obtain⟨hlen,hwf,hnd,hw6,hall⟩:=hck;have hr:=Option.some.inj h;clear h
  go_enter Try.func30,Try.ntmps30
  go_wp2_with fail
  refine c26.mono ?_
  rintro e w1 ⟨v,M1,rfl,hB1,s1,C1,o1,r1,_⟩
  cases r1;have c48:=jg (Jx fuel a1 p hp) M1 w1 [v0] (glob0 M1) C1 rfl (fun j a b ha hb=>by match j,ha,hb with | 0,ha,hb=>cases ha;cases hb;exact r0.mono s1)
  go_wp2_with fail
  refine c48.mono ?_
  rintro e w2 ⟨vp,M2,rfl,hB2,s2,C2,o2,r2,_⟩
  obtain⟨pa,pc,rfl,hpo⟩:=Zk (R.setLab (l':=none) r2);have C2a:Cons M2 (w2.alloc (.cells #[.slice pa p.length pc] 29)):=C2.alloc _;have c63:=Try.view63 hwt M2 (w2.alloc (.cells #[.slice pa p.length pc] 29)) [.slice pa p.length pc] (glob0 M2) C2a rfl (fun j a b ha hb=>by match j,ha,hb with | 0,ha,hb=>cases ha;cases hb;exact r2.setLab)
  go_wp2_with fail
  refine Calls.mono c63 ?_
  rintro e w3 ⟨vv,M3,rfl,hB3,s3,C3,o3,r3,_⟩
  have c51:=jg (jv fuel a1 l hcm) M3 w3 [v0] (glob0 M3) C3 rfl (fun j a b ha hb=>by match j,ha,hb with | 0,ha,hb=>cases ha;cases hb;exact r0.mono (Sub.trans s1 (Sub.trans s2 s3)));obtain⟨mo,x0,x1,x2,x3,x4,x5,hx,rfl,rmo⟩:=ZF hw6 r3
  go_wp2_with fail
  refine Calls.mono c51 ?_
  rintro e w4 ⟨lv,M4,rfl,hB4,s4,C4,o4,r4,_⟩
  obtain⟨la,lc,rfl,hlc⟩:=QN (l:=l) r4
  go_wp2_with fail
  have hnc:(((((w4.alloc (.cells #[.map mo,.int .i64 x0,.int .i64 x1,.int .i64 x2,.int .i64 x3,.int .i64 x4,.int .i64 x5] 90)).alloc (.cells #[.slice la l.length lc] 24)).alloc (.cells #[] 3)).alloc (.cells #[.slice (some ⟨w4.heap.size+1+1,0,none⟩) 0 0] 24)).alloc (.cells #[.nilFunc] 32)).heap.size=w4.heap.size+1+1+1+1+1:=by simp
  clear hnc;obtain⟨w5,ew5⟩:∃ w5,w5=(((((w4.alloc (.cells #[.map mo,.int .i64 x0,.int .i64 x1,.int .i64 x2,.int .i64 x3,.int .i64 x4,.int .i64 x5] 90)).alloc (.cells #[.slice la l.length lc] 24)).alloc (.cells #[] 3)).alloc (.cells #[.slice (some ⟨w4.heap.size+1+1,0,none⟩) 0 0] 24)).alloc (.cells #[tryV5 (w4.heap.size+1+1+1) (w4.heap.size+1) w2.heap.size w4.heap.size (w4.heap.size+1+1+1+1)] 32)):=⟨_,rfl⟩
  have z5:w5.heap.size=w4.heap.size+1+1+1+1+1:=by rw[ew5];simp
  have B45:Below w4.heap.size w4 w5:=by rw[ew5];exact (((((Below.refl _ _).alloc (A3 _) _).alloc (by simp) _).alloc (by simp;omega) _).alloc (by simp;omega) _).alloc (by simp;omega) _
  have n0:w5.heap[w4.heap.size]? = some (.cells #[.map mo,.int .i64 x0,.int .i64 x1,.int .i64 x2,.int .i64 x3,.int .i64 x4,.int .i64 x5] 90 (0,0)):=by rw[ew5,heap_alloc_old _ _ (by simp <;> omega),heap_alloc_old _ _ (by simp <;> omega),heap_alloc_old _ _ (by simp <;> omega),heap_alloc_old _ _ (by simp <;> omega)];exact heap_alloc_new _ _
  have n1:w5.heap[w4.heap.size+1]? = some (.cells #[.slice la l.length lc] 24 (0,0)):=by
   rw[ew5,heap_alloc_old _ _ (by simp <;> omega),heap_alloc_old _ _ (by simp <;> omega),heap_alloc_old _ _ (by simp <;> omega)];have:=heap_alloc_new (w4.alloc (.cells #[.map mo,.int .i64 x0,.int .i64 x1,.int .i64 x2,.int .i64 x3,.int .i64 x4,.int .i64 x5] 90)) (.cells #[.slice la l.length lc] 24)
   simpa using this
  have n2:w5.heap[w4.heap.size+1+1]? = some (.cells #[] 3 (0,0)):=by
   rw[ew5,heap_alloc_old _ _ (by simp <;> omega),heap_alloc_old _ _ (by simp <;> omega)];have:=heap_alloc_new ((w4.alloc (.cells #[.map mo,.int .i64 x0,.int .i64 x1,.int .i64 x2,.int .i64 x3,.int .i64 x4,.int .i64 x5] 90)).alloc (.cells #[.slice la l.length lc] 24)) (.cells #[] 3)
   simpa using this
  have n3:w5.heap[w4.heap.size+1+1+1]? = some (.cells #[.slice (some ⟨w4.heap.size+1+1,0,none⟩) ([]:List Int).length 0] 24 (0,0)):=by
   rw[ew5,heap_alloc_old _ _ (by simp <;> omega)];have:=heap_alloc_new (((w4.alloc (.cells #[.map mo,.int .i64 x0,.int .i64 x1,.int .i64 x2,.int .i64 x3,.int .i64 x4,.int .i64 x5] 90)).alloc (.cells #[.slice la l.length lc] 24)).alloc (.cells #[] 3)) (.cells #[.slice (some ⟨w4.heap.size+1+1,0,none⟩) 0 0] 24)
   simpa using this
  have n4:w5.heap[w4.heap.size+1+1+1+1]? = some (.cells #[tryV5 (w4.heap.size+1+1+1) (w4.heap.size+1) w2.heap.size w4.heap.size (w4.heap.size+1+1+1+1)] 32 (0,0)):=by
   have e2:((((w4.alloc (.cells #[.map mo,.int .i64 x0,.int .i64 x1,.int .i64 x2,.int .i64 x3,.int .i64 x4,.int .i64 x5] 90)).alloc (.cells #[.slice la l.length lc] 24)).alloc (.cells #[] 3)).alloc (.cells #[.slice (some ⟨w4.heap.size+1+1,0,none⟩) 0 0] 24)).heap.size=w4.heap.size+1+1+1+1:=by simp
   have e1:=heap_alloc_new ((((w4.alloc (.cells #[.map mo,.int .i64 x0,.int .i64 x1,.int .i64 x2,.int .i64 x3,.int .i64 x4,.int .i64 x5] 90)).alloc (.cells #[.slice la l.length lc] 24)).alloc (.cells #[] 3)).alloc (.cells #[.slice (some ⟨w4.heap.size+1+1,0,none⟩) 0 0] 24)) (.cells #[tryV5 (w4.heap.size+1+1+1) (w4.heap.size+1) w2.heap.size w4.heap.size (w4.heap.size+1+1+1+1)] 32);rw[e2]at e1;rw[ew5];exact e1
  have y1:=hB1.size;have y2:=hB2.size;have y3:w2.heap.size+1≤w3.heap.size:=by simpa using hB3.size
  have y4:=hB4.size
  have np:w5.heap[w2.heap.size]? = some (.cells #[.slice pa p.length pc] 29 (0,0)):=by
   rw[B45.block _ (by omega),hB4.block _ (by omega),hB3.block _ (by simp)];exact heap_alloc_new _ _
  have hno:∀ b o,(w4.heap.size≤b∨b=w2.heap.size)→M4 b o=none:=fun b o hb=>by
   cases hm:M4 b o with
   | none=>rfl
   | some u =>
    have h1:=XV (C4 _ _ _ hm)
    rcases hb with hb | rfl
    ·omega
    ·rw[o4 _ _ (by omega),o3 _ _ (by simp)]at hm;have:=XV (C2 _ _ _ hm);omega
  obtain⟨M5,eM5⟩:∃ M5:Mem,M5=fun b o=>if b=w2.heap.size∨b=w4.heap.size∨b=w4.heap.size+1∨b=w4.heap.size+1+1+1+1 then mc w5 b o else M4 b o:=⟨_,rfl⟩
  have hin:∀ b o,(b=w2.heap.size∨b=w4.heap.size∨b=w4.heap.size+1∨b=w4.heap.size+1+1+1+1)→M5 b o=mc w5 b o:=fun b o hb=>by rw[eM5];simp only[if_pos hb]
  have hout:∀ b o,¬ (b=w2.heap.size∨b=w4.heap.size∨b=w4.heap.size+1∨b=w4.heap.size+1+1+1+1)→M5 b o=M4 b o:=fun b o hb=>by rw[eM5];simp only[if_neg hb]
  have hsub:Sub M4 M5:=fun b o u hu=>by
   rw[hout b o (fun hb=>by rw[hno b o (by omega)]at hu;cases hu)];exact hu
  have C45:Cons M4 w5:=C4.below B45
  have C5:Cons M5 w5:=fun b o u hu=>by
   by_cases hb:b=w2.heap.size∨b=w4.heap.size∨b=w4.heap.size+1∨b=w4.heap.size+1+1+1+1
   ·rw[hin b o hb]at hu;exact hu
   ·rw[hout b o hb]at hu;exact C45 _ _ _ hu
  clear eM5
  obtain⟨T,eT⟩:∃ T:List Int→Bool,T=fun o=>(seenO fuel p want o).getD false:=⟨_,rfl⟩
  have hVE:VE fuel M5 (w4.heap.size+1+1+1) (w4.heap.size+1) w2.heap.size w4.heap.size (w4.heap.size+1+1+1+1) p l want T:=by
   refine⟨⟨la,lc,?_,R.mono hsub (R.setLab (l':=none) r4)⟩,⟨_,?_,rfl,((R.setLab (l':=none) r2).mono (Sub.trans s3 s4)).mono hsub⟩,⟨mo,x0,x1,x2,x3,x4,x5,hx,(r3.mono s4).mono hsub,?_,?_,?_,?_,?_,?_,?_⟩,?_,fun o=>?_,fun x hx=>List.all_eq_true.1 hwf x hx,by omega,fun o h1 h2 h3=>?_⟩
   ·rw[hin _ _ (by omega)];exact XW n1 rfl rfl
   ·rw[hin _ _ (by omega)];exact XW np rfl rfl
   ·rw[hin _ _ (by omega)];exact XW n0 rfl rfl
   ·rw[hin _ _ (by omega)];exact XW n0 rfl rfl
   ·rw[hin _ _ (by omega)];exact XW n0 rfl rfl
   ·rw[hin _ _ (by omega)];exact XW n0 rfl rfl
   ·rw[hin _ _ (by omega)];exact XW n0 rfl rfl
   ·rw[hin _ _ (by omega)];exact XW n0 rfl rfl
   ·rw[hin _ _ (by omega)];exact XW n0 rfl rfl
   ·rw[hin _ _ (by omega)];exact XW n4 rfl rfl
   ·rw[hout _ _ (by omega)];exact hno _ _ (by omega)
   ·have h4:=List.all_eq_true.1 hall o (by rw[← h1];exact HF o l h2 hnd h3);obtain⟨q,hq⟩:=Option.isSome_iff_exists.1 h4
    have hT:T o=q:=by rw[eT];simp only[hq];rfl
    unfold seenO at hq;obtain⟨s,k1,hq⟩:=qd hq;obtain⟨v,k2,hq⟩:=qd hq;obtain⟨k3,hq⟩:=qx hq;rw[A1,decide_eq_true_eq]at k3;exact⟨s,v,k1,k2,k3.1,fun t=>Dl t k3.2,by rw[hT];exact Option.some.inj hq⟩
  have hrow:w5.ownsRow (w4.heap.size+1+1) 3 1 (.slice (some ⟨w4.heap.size+1+1,0,none⟩) ([]:List Int).length 0) ([]:List Int).length (intsV []):=⟨rfl,.inr ⟨w4.heap.size+1+1,0,#[],rfl,A3 _,n2,A3 _,A9 _,rfl,rfl⟩⟩;have hcall:=Try.try64 l.length fuel M5 w5 (w4.heap.size+1+1) (w4.heap.size+1+1+1) (w4.heap.size+1) w2.heap.size w4.heap.size (w4.heap.size+1+1+1+1) (w4.heap.size+1+1) 0 p l [] want T hVE C5 .nil (fun x hx=>by cases hx) (by simp) n3 hrow (fun j=>by rw[hout _ _ (by omega)];exact hno _ _ (by omega)) (by omega);rw[← eT]at hr;have hl0:([]:List Int).length=0:=rfl;have HW5:=(show Hid (w5=_) from ew5);unfold tryV5 at HW5;clear ew5;rw[← HW5.out];refine Calls.mono hcall ?_
  rintro e w6 ⟨rfl,T6,g6,cap6,hb6,ho6,hg6⟩
  have C6:Cons M5 w6:=T6.cons C5 hVE.f (fun j=>by rw[hout _ _ (by omega)];exact hno _ _ (by omega));have B05:Below w.heap.size w w5:=(((hB1.trans (hB2.mono (by omega))).trans ((Below.refl _ w2).alloc (by omega) _)).trans ((hB3.mono (by simp;omega)).trans (hB4.mono (by omega)))).trans (B45.mono (by omega));have B06:Below w.heap.size w w6:=⟨T6.os.trans B05.os,T6.tape.trans B05.tape,T6.output.trans B05.output,A8 B05.size T6.size,fun k hk=>(T6.block k (by omega) (by omega) (by omega)).trans (B05.block k hk)⟩;have S5:Sub M M5:=Sub.trans s1 (Sub.trans s2 (Sub.trans s3 (Sub.trans s4 hsub)))
  have hold:∀ b o,b<w.heap.size→M5 b o=M b o:=fun b o hb=>by
   rw[hout b o (by omega),o4 b o (by omega),o3 b o (by simp;omega),o2 b o (by omega),o1 b o hb]
  cases hd:dfs T l l.length [] with
  | none =>
   rw[hd]at hr;subst hr
   go_wp2
   go_ret2
   refine⟨_,M5,rfl,B06,S5,C6,hold,?_,trivial⟩;refine .tup (vs:=[.slice none 0 0,.int .i64 5]) rfl (fun j c v hc hv=>?_)
   match j,hc,hv with
   | 0,hc,hv=>cases hc;cases hv;exact .lstn _ _ _
   | 1,hc,hv=>cases hc;cases hv;exact .int _ _
  | some o =>
   rw[hd]at hr hb6 ho6;subst hr;simp only[Option.getD_some]at hb6 ho6
   have q6:w6.cell? ⟨w4.heap.size+1+1+1,0,none⟩=some (.slice (some ⟨g6,0,none⟩) o.length cap6):=by simp[A0,hb6]
   obtain⟨N,hN,hNR,hNb⟩:=Yv ho6
   have hNb':∀ b j u,N b j=some u→b=g6:=fun b j u hu=>by
    have:=hNb b j u hu
    simpa[Value.ownBlock] using this.symm
   have hMg:∀ j,M5 g6 j=none:=fun j=>by
    rcases hg6 with rfl | h
    ·rw[hout _ _ (by omega)];exact hno _ _ (by omega)
    ·rw[hout _ _ (by omega)];exact hno _ _ (by omega)
   go_wp2
   go_ret2
   refine⟨_,mblk M5 N g6,rfl,B06,Sub.trans S5 (Yg hMg),Yy C6 hN,fun b j hb=>?_,?_,trivial⟩
   ·unfold mblk;rw[if_neg (by rcases hg6 with rfl | h <;> omega)];exact hold b j hb
   ·refine .tup (vs:=[.slice (some ⟨g6,0,none⟩) o.length cap6,.int .i64 0]) rfl (fun j c v hc hv=>?_)
    match j,hc,hv with
    | 0,hc,hv=>cases hc;cases hv;exact hNR.mono (Nh hNb')
    | 1,hc,hv=>cases hc;cases hv;exact .int _ _
end Go.Proofs
namespace Go.AM
open Go.Proofs
theorem DB (P:List Int→Bool) {l:List Int} (hl:l.Nodup):∀ (n:Nat) (o:List Int),(l.filter fun y=>!o.contains y).length=n→dfs P l n o=((permsF n (l.filter fun y=>!o.contains y)).find? fun p=>P (o++p)).map (o++·)
  | 0,o,h=>by
    rw[List.length_eq_zero_iff.1 h];show (bif P o then some o else none)=(List.find? _ [[]]).map _;simp only[List.find?_cons,B3,List.find?_nil];cases P o <;> simp
  | n+1,o,h=>by
    have e2:permsF (n+1) (l.filter fun y=>!o.contains y)=(l.filter fun y=>!o.contains y).flatMap fun y=>(permsF n ((l.filter fun y=>!o.contains y).erase y)).map (y::·):=by
      cases hF:l.filter fun y=>!o.contains y with
      | nil=>rw[hF]at h;cases h
      | cons x r=>rfl
    rw[e2,List.find?_flatMap,XO,JJ]
    refine JX fun x hx=>?_
    cases hc:o.contains x with
    | true=>rfl
    | false =>
      have hxm:x∈l.filter fun y=>!o.contains y:=List.mem_filter.2 ⟨hx,by rw[hc];rfl⟩
      have hlen:(l.filter fun y=>!(o++[x]).contains y).length=n:=by
        rw[← Xl hl x,List.length_erase_of_mem hxm,h];rfl
      have ih:=DB P hl n (o++[x]) hlen;simp only[cN,Bool.not_false,if_true];rw[ih,XN,Xl hl]
      have e3:(fun p=>P (o++[x]++p))=fun p=>P (o++x::p):=by funext p;simp
      rw[e3];cases (permsF n (l.filter fun y=>!(o++[x]).contains y)).find? (fun p=>P (o++x::p)) <;> simp
theorem ZV (P:List Int→Bool) {l:List Int} (hl:l.Nodup):dfs P l l.length []=(permsF l.length l).find? P:=by
  have h0:(l.filter fun y=>!([]:List Int).contains y)=l:=by simp
  have:=DB P hl l.length [] (by rw[h0]);rw[this,h0]
  cases hf:(permsF l.length l).find? (fun p=>P ([]++p)) with
  | none=>simpa using hf.symm
  | some x=>simpa using hf.symm
open Go.Proofs
def goodB (x:rf5Op):Bool:=!bad6 x && !(decide (x.qb > 1) && (x.qc != 0))
theorem Zb (t:Int) (pre:List rf5Op) (x:rf5Op):ended t (pre++[x])=(ended t pre || ((x.qa == t) && decide (x.qb > 1))):=by
 unfold ended;rw[List.any_append];simp
theorem VS:∀ (r pre:List rf5Op),okFrom pre r=true↔(∀ x,x∈r→goodB x=true∧ended x.qa pre=false)∧r.Pairwise fun x y=>¬ (x.qa=y.qa∧x.qb > 1)
 | [],pre=>by simp[okFrom]
 | x::r,pre=>by
  have e:okFrom pre (x::r)=((!bad6 x && (!(decide (x.qb > 1) && (x.qc != 0)) && !ended x.qa pre)) && okFrom (pre++[x]) r):=rfl;rw[e,A1,VS r (pre++[x]),B4]
  have e2:(!bad6 x && (!(decide (x.qb > 1) && (x.qc != 0)) && !ended x.qa pre))=(goodB x && !ended x.qa pre):=by unfold goodB;rw[Bool.and_assoc]
  rw[e2];constructor
  ·rintro⟨h1,h2,h3⟩
   rw[A1,Bool.not_eq_true']at h1;refine⟨fun y hy=>?_,?_,h3⟩
   ·rcases List.mem_cons.1 hy with rfl | hy
    ·exact h1
    ·have:=(h2 y hy).2;rw[Zb,E8]at this;exact⟨(h2 y hy).1,this.1⟩
   ·intro y hy hc;have:=(h2 y hy).2;rw[Zb,E8]at this;simp[hc.1,hc.2]at this
  ·rintro⟨h1,h2,h3⟩
   refine⟨?_,fun y hy=>⟨(h1 y (by simp[hy])).1,?_⟩,h3⟩
   ·rw[A1,Bool.not_eq_true'];exact h1 x (by simp)
   ·rw[Zb,(h1 y (by simp[hy])).2,Bool.false_or,E7];have:=h2 y hy;by_cases he:x.qa=y.qa
    ·right;rw[decide_eq_false_iff_not];exact fun hk=>this ⟨he,hk⟩
    ·left;simpa using he
theorem ZG (h:List rf5Op):validB h=true↔(∀ x,x∈h→goodB x=true)∧(h.Pairwise fun x y=>¬ (x.qa=y.qa∧x.qb > 1))∧h.length≤40:=by
 unfold validB;rw[A1,decide_eq_true_eq,VS,and_assoc];refine and_congr ⟨fun h x hx=>(h x hx).1,fun h x hx=>⟨h x hx,rfl⟩⟩ Iff.rfl
theorem Hl (t k:Int):∀ (l:List rf5Op) (i:Nat),endL t k l i ≥ 0↔∃ x,x∈l∧x.qa=t∧x.qb=k
 | [],i=>by simp[endL]
 | x::l,i=>by
  have e:endL t k (x::l) i=bif (x.qa == t) && (x.qb == k) then (i:Int) else endL t k l (i+1):=rfl;rw[e];by_cases hx:x.qa=t∧x.qb=k
  ·have:((x.qa == t) && (x.qb == k))=true:=by simp[hx]
   rw[this,cond_true];exact⟨fun _=>⟨x,by simp,hx⟩,fun _=>by omega⟩
  ·have:((x.qa == t) && (x.qb == k))=false:=by simpa using hx
   rw[this,cN,Hl t k l (i+1)];constructor
   ·rintro⟨y,hy,h⟩;exact⟨y,by simp[hy],h⟩
   ·rintro⟨y,hy,h⟩
    rcases List.mem_cons.1 hy with rfl | hy
    ·exact absurd h hx
    ·exact⟨y,hy,h⟩
def doneB (h:List rf5Op) (t:Int):Bool:=decide (endL t 2 h 0 ≥ 0)
theorem ZU {h:List rf5Op} {t:Int}:doneB h t=true↔∃ x,x∈h∧x.qa=t∧x.qb=2:=by
 unfold doneB;rw[decide_eq_true_eq,Hl]
theorem UZ (h:List rf5Op):partL h=h.filter fun x=>doneB h x.qa:=rfl
theorem NG (h:List rf5Op):commL h=([1,2,3,4,5,6]:List Int).filter (doneB h):=rfl
theorem XS (c d:Int):∀ (a b:List rf5Op),confL (a++b) c d=((confL a c d || confL b c d) || a.any fun x=>b.any fun y=>clash x y && ((x.qa == c) && (y.qa == d)))
 | [],b=>by simp[confL]
 | x::a,b=>by
  show ((a++b).any _ || confL (a++b) c d)=(((a.any _ || confL a c d) || confL b c d) || ((x::a).any _));rw[XS c d a b,List.any_append,D7];generalize (a.any fun y=>clash x y && ((x.qa == c) && (y.qa == d)))=A;generalize (b.any fun y=>clash x y && ((x.qa == c) && (y.qa == d)))=B;generalize confL a c d=C;generalize confL b c d=D;generalize (a.any fun x=>b.any fun y=>clash x y && ((x.qa == c) && (y.qa == d)))=E;cases A <;> cases B <;> cases C <;> cases D <;> cases E <;> rfl
theorem Sw.conf {l m:List rf5Op} (h:Sw l m) (c d:Int):confL l c d=confL m c d:=by
 induction h with
 | refl l=>rfl
 | swap a b x y h =>
  have hc:=(QQ.1 h).2
  have hd:clash y x=false:=by rw[Uj];exact hc
  have e1:∀ f:rf5Op→Bool,(x::y::b).any f=(y::x::b).any f:=fun f=>by
   simp only[D7];rw[← D3,← D3,Bool.or_comm (f x)]
  have e2:confL (x::y::b) c d=confL (y::x::b) c d:=by
   show (((y::b).any _ || (b.any _ || confL b c d)))=((x::b).any _ || (b.any _ || confL b c d));simp only[D7,hc,hd,Bool.false_and,Bool.false_or];rw[← D3,← D3]
   congr 1
   exact Bool.or_comm ..
  rw[XS,XS,e2]
  congr 1
  congr 1
  funext z
  exact e1 _
 | trans _ _ h1 h2=>exact h1.trans h2
theorem Sw.ser {l m:List rf5Op} (h:Sw l m) (o:List Int):serV l o=serV m o:=by
 induction h with
 | refl l=>rfl
 | swap a b x y h =>
  unfold serV
  congr 1
  funext t
  rw[D4,D4]
  congr 1
  have:=(QQ.1 h).1;by_cases h1:x.qa=t
  ·have h2:¬ y.qa=t:=fun e=>this (h1.trans e.symm)
   simp[D8,h1,h2]
  ·simp[D8,h1]
 | trans _ _ h1 h2=>exact h1.trans h2
theorem Sw.perm {l m:List rf5Op} (h:Sw l m):l.Perm m:=by
 induction h with
 | refl l=>exact .refl _
 | swap a b x y h=>exact List.Perm.append_left a (List.Perm.swap y x b)
 | trans _ _ h1 h2=>exact h1.trans h2
theorem Sw.filter {l m:List rf5Op} (h:Sw l m) (P:rf5Op→Bool):Sw (l.filter P) (m.filter P):=by
 induction h with
 | refl l=>exact .refl _
 | swap a b x y h =>
  rw[D4,D4];cases hx:P x <;> cases hy:P y
  ·rw[A5 (by simp[hx]),A5 (by simp[hy]),A5 (by simp[hy]),A5 (by simp[hx])];exact .refl _
  ·rw[A5 (by simp[hx]),A6 hy,A6 hy,A5 (by simp[hx])];exact .refl _
  ·rw[A6 hx,A5 (by simp[hy]),A5 (by simp[hy]),A6 hx];exact .refl _
  ·rw[A6 hx,A6 hy,A6 hy,A6 hx];exact .swap _ _ _ _ h
 | trans _ _ h1 h2=>exact h1.trans h2
theorem Sw.done {l m:List rf5Op} (h:Sw l m):doneB l=doneB m:=by
 funext t
 rw[D5,ZU,ZU];constructor
 ·rintro⟨x,hx,h1⟩;exact⟨x,h.perm.mem_iff.1 hx,h1⟩
 ·rintro⟨x,hx,h1⟩;exact⟨x,h.perm.mem_iff.2 hx,h1⟩
theorem Sw.valid {l m:List rf5Op} (h:Sw l m):validB l=validB m:=by
 rw[D5,ZG,ZG];refine and_congr ⟨fun g x hx=>g x (h.perm.mem_iff.2 hx),fun g x hx=>g x (h.perm.mem_iff.1 hx)⟩ (and_congr ?_ (by rw[h.perm.length_eq]))
 induction h with
 | refl l=>exact Iff.rfl
 | swap a b x y h =>
  have:=(QQ.1 h).1
  have h2:¬ y.qa=x.qa:=fun e=>this e.symm
  rw[E9,E9,B4,B4,B4,B4];simp only[List.mem_cons,forall_eq_or_imp];constructor
  ·rintro⟨p1,⟨⟨p2,p3⟩,p4,p5⟩,p6⟩
   exact⟨p1,⟨⟨fun e=>h2 e.1,p4⟩,p3,p5⟩,fun z hz=>⟨(p6 z hz).2.1,(p6 z hz).1,(p6 z hz).2.2⟩⟩
  ·rintro⟨p1,⟨⟨p2,p3⟩,p4,p5⟩,p6⟩
   exact⟨p1,⟨⟨fun e=>this e.1,p4⟩,p3,p5⟩,fun z hz=>⟨(p6 z hz).2.1,(p6 z hz).1,(p6 z hz).2.2⟩⟩
 | trans _ _ h1 h2=>exact h1.trans h2
theorem Sw.part {l m:List rf5Op} (h:Sw l m):Sw (partL l) (partL m):=by
 rw[UZ,UZ,h.done];exact h.filter _
theorem Sw.comm {l m:List rf5Op} (h:Sw l m):commL l=commL m:=by rw[NG,NG,h.done]
theorem Sw.confF {l m:List rf5Op} (h:Sw l m):confL l=confL m:=funext fun c=>funext fun d=>h.conf c d
theorem Sw.order {l m:List rf5Op} (h:Sw l m):orderR l=orderR m:=by
 unfold orderR;rw[h.valid,h.comm,h.part.confF]
theorem Sw.cycle {l m:List rf5Op} (h:Sw l m):cycleR l=cycleR m:=by
 unfold cycleR;rw[h.valid,h.comm,h.part.confF]
theorem Sw.view {l m:List rf5Op} (h:Sw l m):viewR l=viewR m:=by
 unfold viewR;rw[h.valid,h.comm]
 have:(fun o=>sameV (serV (partL l) o) (partL l))=fun o=>sameV (serV (partL m) o) (partL m):=by
  funext o
  rw[h.part.ser,h.part.sameL]
 rw[this]
theorem Hy (h:List rf5Op):(viewR h).1.length≤100:=by
 unfold viewR;split
 ·rw[ZV _ (Ja h)];split
  ·rename_i o ho;have hm:=List.mem_of_find?_eq_some ho;have:=((Zi (Ja h) (A3 _) o).1 hm).length_eq;have:=Qk h;simp only;omega
  ·simp
 ·simp
def qaN (fuel:Nat) (a1:(List hsOp)):Option ((List Int)×Int):=viewO fuel a1
def NoAb (q:List rf5Op):Prop:=∀ x,x∈q→x.qb≠3
theorem qch {q:List rf5Op} (h:NoAb q) (t:Int):decide (endL t 3 q 0 ≥ 0)=false:=by
 rw[decide_eq_false_iff_not,Hl]
 rintro⟨x,hx,_,h3⟩
 exact h x hx h3
theorem qcr {q:List rf5Op} (h:NoAb q) (i:Nat) (x p:rf5Op):wins q i x p=wrB x.qc p:=by
 unfold wins wrB;rw[qch h];simp
theorem VW (it:Int):∀ (l:List rf5Op) (s:Int→Int),lastS s l it=scanF (wrB it) (s it) l
 | [],s=>rfl
 | x::l,s=>by
  show lastS (stepW s x) l it=scanF (wrB it) (bif wrB it x then x.qa else s it) l;rw[VW it l];rfl
theorem qcE {q pre r:List rf5Op} {x:rf5Op} (h:NoAb q) (hq:q=pre++x::r) (h0:x.qb=0):fromAt q pre.length x=lastS s0 pre x.qc:=by
 unfold fromAt
 have:(x.qb != 0)=false:=by rw[h0];rfl
 have htk:q.take pre.length=pre:=by rw[hq,List.take_left]
 rw[this,cN,htk,Vg (W':=wrB x.qc) fun p _=>qcr h _ x p,VW];have:=UR (wrB x.qc) pre.reverse;rw[List.reverse_reverse]at this;exact this.symm
def last6 (f:Int→Int):List Int:=[f 0,f 1,f 2,f 3,f 4,f 5]
theorem Dc (t:Int) (pre:List rf5Op) (x:rf5Op) (s:Int→Int):readsW t (pre++[x]) s=readsW t pre s++(bif rdB t x then [lastS s pre x.qc] else []):=by
 rw[Qo];show readsW t pre s++((bif rdB t x then [lastS s pre x.qc] else [])++[])=_;rw[B3]
theorem UJ {q:List rf5Op} (hq:NoAb q) (hi:∀ x,x∈q→0≤x.qc∧x.qc≤5):∀ (r pre:List rf5Op) (m:List (Int×List Int)),q=pre++r→(∀ t,mget keq1 [] t m=readsW t pre s0)→(∀ p,p∈m→p.2.length≤pre.length) →
  ∃ m',viewF (r.map cv) (fromL q r pre.length) m (last6 (lastS s0 pre))=⟨m',last6 (lastS s0 q)⟩∧(∀ t,mget keq1 [] t m'=readsW t q s0)∧∀ p,p∈m'→p.2.length≤q.length
 | [],pre,m,he,hm,hl=>by
  rw[B3]at he;subst he;exact⟨m,rfl,hm,hl⟩
 | x::r,pre,m,he,hm,hl=>by
  have hx:=hi x (by rw[he];simp)
  have e1:viewF ((x::r).map cv) (fromL q (x::r) pre.length) m (last6 (lastS s0 pre))=viewF (r.map cv) (fromL q r (pre++[x]).length) (vstep m (cv x) (fromAt q pre.length x)) (lstep (last6 (lastS s0 pre)) (cv x)):=by
   rw[A2,A7];rfl
  have e2:lstep (last6 (lastS s0 pre)) (cv x)=last6 (lastS s0 (pre++[x])):=by
   rw[XI];show lstep (last6 (lastS s0 pre)) (cv x)=last6 (stepW (lastS s0 pre) x);unfold lstep stepW wrB last6;show (bif x.qb == 1 then ([_,_,_,_,_,_]:List Int).set x.qc.toNat x.qa else _)=_
   cases x.qb == 1 with
   | false=>rfl
   | true =>
    have h6:x.qc=0∨x.qc=1∨x.qc=2∨x.qc=3∨x.qc=4∨x.qc=5:=by omega
    rcases h6 with h | h | h | h | h | h <;> rw[h] <;> rfl
  rw[e1,e2];refine UJ hq hi r (pre++[x]) _ (by rw[he];simp) (fun t=>?_) (fun p hp=>?_)
  ·rw[Dc,← hm t];unfold vstep;show mget keq1 [] t (bif x.qb == 0 then mset keq1 x.qa (mget keq1 [] x.qa m++[fromAt q pre.length x]) m else m)=_;unfold rdB;by_cases h0:x.qb=0
   ·have b0:(x.qb == 0)=true:=by simp[h0]
    rw[b0,cond_true,YV,qcE hq he h0,Bool.and_true];by_cases ht:t=x.qa
    ·subst ht;simp
    ·have:(x.qa == t)=false:=by rw[beq_eq_false_iff_ne];exact fun e=>ht e.symm
     rw[if_neg ht,this,cN,B3]
   ·have b0:(x.qb == 0)=false:=beq_eq_false_iff_ne.2 h0;rw[b0,Bool.and_false,cN,cN,B3]
  ·unfold vstep at hp;rw[A2,A7]
   have hold:∀ p,p∈m→p.2.length≤pre.length+1:=fun p hp=>Nat.le_succ_of_le (hl p hp)
   have hget:(mget keq1 [] x.qa m).length≤pre.length:=by
    have:∀ (m:List (Int×List Int)),(∀ p,p∈m→p.2.length≤pre.length)→(mget keq1 [] x.qa m).length≤pre.length:=by
     intro m
     induction m with
     | nil=>intro _;exact A9 _
     | cons y m ih =>
      intro h;unfold mget
      cases keq1 y.1 x.qa with
      | true=>exact h y (by simp)
      | false=>exact ih fun p hp=>h p (by simp[hp])
    exact this m hl
   cases hk:((cv x).qb == 0) with
   | false=>rw[hk]at hp;exact hold p hp
   | true =>
    rw[hk,cond_true]at hp
    have:∀ (m:List (Int×List Int)) (k:Int) (v:List Int),(∀ p,p∈m→p.2.length≤pre.length+1)→v.length≤pre.length+1→∀ p,p∈mset keq1 k v m→p.2.length≤pre.length+1:=by
     intro m k v
     induction m with
     | nil =>
      intro _ hv p hp
      have:p=(k,v):=by simpa[mset] using hp
      rw[this];exact hv
     | cons y m ih =>
      intro h hv p hp;unfold mset at hp
      cases hyk:keq1 y.1 k with
      | true =>
       rw[hyk,cond_true]at hp
       rcases List.mem_cons.1 hp with rfl | hp
       ·exact hv
       ·exact h p (by simp[hp])
      | false =>
       rw[hyk,cN]at hp
       rcases List.mem_cons.1 hp with rfl | hp
       ·exact h _ (by simp)
       ·exact ih (fun p hp=>h p (by simp[hp])) hv p hp
    refine this m _ _ hold ?_ p hp;rw[A2,A7];exact Nat.succ_le_succ hget
structure SeenAs (q:List rf5Op) (v:hsview):Prop where
 reads:∀ t,mget keq1 [] t v.jz=readsW t q s0
 last:v.JY=last6 (lastS s0 q)
 len:∀ p,p∈v.jz→p.2.length≤q.length
theorem UI {q:List rf5Op} (H:Hist q) (hq:NoAb q):∃ v,viewP bigFuel (q.map cv)=some v∧SeenAs q v:=by
 have hl:=H.len;obtain⟨m',h1,h2,h3⟩:=UJ hq H.item q [] [] rfl (fun t=>rfl) (fun p hp=>by cases hp);refine⟨⟨m',last6 (lastS s0 q)⟩,?_,h2,rfl,h3⟩;unfold viewP;rw[qce H,A4]
 have hck:(decide ((q.map cv).length≤100000) && (decide ((fromL q q 0).length=(q.map cv).length) && (q.map cv).all okV))=true:=by
  simp only[A1,decide_eq_true_eq,D9,Nr,B5];refine⟨by omega,trivial,fun x hx=>?_⟩;obtain⟨y,hy,rfl⟩:=List.mem_map.1 hx;have ht:=H.txn y hy;have hi:=H.item y hy;show (wfI .i64 y.qa && (!(y.qb == 1) || (decide (0≤y.qc) && decide (y.qc<6))))=true;rw[wf6 (by omega) (by omega),decide_eq_true hi.1,decide_eq_true (by omega)];simp
 rw[hck,qH];exact congrArg some h1
theorem qbM {p q:List rf5Op} {v w:hsview} (hv:SeenAs p v) (hw:SeenAs q w):sameP v w=sameV p q:=by
 unfold sameP sameV;rw[hv.last,hw.last];simp only[hv.reads,hw.reads]
 congr 1
theorem qac (t:Int) (K:List hsOp→Option (List hsOp)):∀ (r:List rf5Op) (k:Nat) (v:List hsOp),v.length+r.length≤50000→qv t K (r.map cv) k v=K (v++(r.filter fun x=>x.qa == t).map cv)
 | [],k,v,_=>by rw[List.map_nil,qv.eq_1];simp
 | x::r,k,v,hl=>by
  have hl:v.length+(r.length+1)≤50000:=hl;rw[List.map_cons,qv.eq_2];unfold jq;show (bif x.qa == t then _ else _)=_;rw[D8]
  cases hx:x.qa == t with
  | true =>
   rw[cond_true,capS (by omega) (by simp;omega),qH,qac t K r (k+1) _ (by simp;omega)];simp
  | false =>
   rw[cN,qac t K r (k+1) _ (by omega)];simp
theorem qbJ {q:List rf5Op} (hq:q.length≤1000) (K:List hsOp→Option (List hsOp)):∀ (r:List Int) (k:Nat) (v:List hsOp),v.length+r.length * 1000≤40000→qq (q.map cv) K r k v=K (v++(serV q r).map cv)
 | [],k,v,_=>by rw[qq.eq_1];simp[serV]
 | t::r,k,v,hl=>by
  have hl:v.length+(r.length+1) * 1000≤40000:=hl;rw[qq.eq_2,JD (by rw[D9];omega),qH,qac t _ q 0 v (by omega)];unfold qL;have:=E0 (fun x:rf5Op=>x.qa == t) q;rw[qbJ hq K r (k+1) _ (by simp;omega)];have e:serV q (t::r)=(q.filter fun x=>x.qa == t)++serV q r:=rfl;rw[e];simp
theorem qab {q:List rf5Op} (hq:q.length≤1000) {o:List Int} (ho:o.length≤6):jy (q.map cv) o=some ((serV q o).map cv):=by
 unfold jy;rw[JD (by omega),qH,qbJ hq _ o 0 [] (by simp;omega)];simp[qw]
theorem HK {q:List rf5Op} {o:List Int} {x:rf5Op} (h:x∈serV q o):x∈q:=by
 obtain⟨t,_,h⟩:=List.mem_flatMap.1 h;exact (List.mem_filter.1 h).1
theorem HT (q:List rf5Op):∀ o:List Int,(serV q o).length≤o.length * q.length
 | []=>A9 _
 | t::o=>by
  have e:serV q (t::o)=(q.filter fun x=>x.qa == t)++serV q o:=rfl;have h1:=E0 (fun x:rf5Op=>x.qa == t) q;have h2:=HT q o;rw[e,A2,List.length_cons,Nat.succ_mul];omega
theorem Dw {q r:List rf5Op} (H:Hist q) (hl:r.length≤1000) (hm:∀ x,x∈r→x∈q):Hist r :=
 ⟨hl,fun x hx=>H.txn x (hm x hx),fun x hx=>H.kind x (hm x hx),fun x hx=>H.item x (hm x hx),fun x hx=>H.zero x (hm x hx)⟩
theorem UY {h:List rf5Op} (hv:validB h=true):NoAb (partL h):=by
 intro x hx h3;obtain⟨h1,h2⟩:=List.mem_filter.1 hx;obtain⟨y,hy,e1,e2⟩:=ZU.1 (show doneB h x.qa=true from h2);have hp:=((ZG h).1 hv).2.1
 have hne:x≠y:=fun e=>by rw[e,e2]at h3;cases h3
 obtain⟨i,hi⟩:=List.mem_iff_getElem?.1 h1;obtain⟨j,hj⟩:=List.mem_iff_getElem?.1 hy;obtain⟨hi1,hi2⟩:=List.getElem?_eq_some_iff.1 hi;obtain⟨hj1,hj2⟩:=List.getElem?_eq_some_iff.1 hj
 rcases Nat.lt_trichotomy i j with hlt | heq | hlt
 ·have:=List.pairwise_iff_getElem.1 hp i j hi1 hj1 hlt;rw[hi2,hj2]at this;exact this ⟨e1.symm,by omega⟩
 ·subst heq;rw[hi2]at hj2;exact hne hj2
 ·have:=List.pairwise_iff_getElem.1 hp j i hj1 hi1 hlt;rw[hi2,hj2]at this;exact this ⟨e1,by omega⟩
theorem qbK {q:List rf5Op} (H:Hist q) (hq:NoAb q) (h40:q.length≤100) {want:hsview} (hw:SeenAs q want) {o:List Int} (ho:o.length≤6):seenO bigFuel (q.map cv) want o=some (sameV (serV q o) q):=by
 have hl:=HT q o;have h6:o.length * q.length≤6 * 100:=Nat.mul_le_mul ho h40;obtain⟨v,h1,h2⟩:=UI (Dw H (by omega) (fun x hx=>HK hx):Hist (serV q o)) (fun x hx=>hq x (HK hx));unfold seenO;rw[qab H.len ho,A4,h1,A4]
 have hck:(decide (v.JY.length=6) && v.jz.all fun q=>decide (q.2.length≤100000))=true:=by
  rw[A1,decide_eq_true_eq,B5];refine⟨by rw[h2.last];rfl,fun p hp=>?_⟩;have:=h2.len p hp;rw[decide_eq_true_eq];omega
 rw[hck,qH,qbM h2 hw]
theorem VD (h:List rf5Op):qaN bigFuel ((h.take 43).map cv)=some (viewR h):=by
 unfold qaN viewO viewR;rw[YQ,A4]
 cases hv:validB h with
 | false=>rfl
 | true =>
  obtain⟨H,hlen⟩:=Zr hv;have htk:h.take 43=h:=List.take_of_length_le (by omega);have hp40:(partL h).length≤100:=A8 (E0 _ _) (by omega)
  have HP:Hist (partL h):=Dw H (by omega) fun x hx=>(List.mem_filter.1 hx).1
  obtain⟨want,h1,h2⟩:=UI HP (UY hv);have hl6:=Qk h
  have hseen:∀ o:List Int,o.length≤6→seenO bigFuel ((partL h).map cv) want o=some (sameV (serV (partL h) o) (partL h)):=fun o ho=>qbK HP (UY hv) hp40 h2 ho
  rw[htk,cond_true,ZP H,A4,h1,A4,JE H,A4]
  have hck:(decide ((commL h).length≤999) && ((commL h).all (wfI .i64) && (decide (commL h).Nodup && (decide (want.JY.length=6) && (someF (commL h).length (commL h)).all fun o=>(seenO bigFuel ((partL h).map cv) want o).isSome))))=true:=by
   simp only[A1,decide_eq_true_eq,B5];refine⟨by omega,Hq,Ja h,by rw[h2.last];rfl,fun o ho=>?_⟩;rw[hseen o (by rw[(ZH _ _ o ho).1];exact hl6)];rfl
  rw[hck,qH,if_pos rfl,ZV _ (Ja h),ZV _ (Ja h)]
  have hfind:(permsF (commL h).length (commL h)).find? (fun o=>(seenO bigFuel ((partL h).map cv) want o).getD false)=(permsF (commL h).length (commL h)).find? fun o=>sameV (serV (partL h) o) (partL h):=by
   refine Ud fun o ho=>?_
   have hp:=(Zi (Ja h) (A3 _) o).1 ho;rw[hseen o (by rw[hp.length_eq];exact hl6)];rfl
  rw[hfind]
  try (cases (permsF (commL h).length (commL h)).find? (fun o=>sameV (serV (partL h) o) (partL h)) <;> rfl)
end Go.AM
namespace Go.AM
end Go.AM
namespace Go.Proofs
open Go.RowKit Go.AM
theorem qba {M:Mem} {l:List rf5Op} {v:Value} (h:R M (l43 none l) v):∃ a cap,v=.slice a l.length cap∧∀ i x,l[i]? = some x→∃ b off,a=some ⟨b,off,none⟩∧M b (off+i * 3)=some (.int .i64 x.qa)∧M b (off+i * 3+1)=some (.int .i64 x.qb)∧M b (off+i * 3+2)=some (.int .i64 x.qc):=by
 obtain⟨a,cap,rfl,hc⟩:=Ni h;refine⟨a,cap,by rw[D9],fun i x hx=>?_⟩;obtain⟨b,off,rfl,hcell⟩:=hc i (YE x) (by simp[hx]);obtain⟨u0,h0,r0⟩:=hcell 0 _ rfl;obtain⟨u1,h1,r1⟩:=hcell 1 _ rfl;obtain⟨u2,h2,r2⟩:=hcell 2 _ rfl;cases r0;cases r1;cases r2;exact⟨b,off,rfl,h0,h1,h2⟩
end Go.Proofs
