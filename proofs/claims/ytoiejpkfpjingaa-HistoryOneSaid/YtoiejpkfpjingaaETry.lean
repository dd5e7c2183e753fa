import Derived.Test.YtoiejpkfpjingaaEView
import Derived.Test.YtoiejpkfpjingaaASimJ
import Derived.Test.YtoiejpkfpjingaaEMap
set_option linter.all false
set_option maxRecDepth 100000
open Go.World renaming cell?→A0
open List renaming getElem_toArray→A1, getElem_cons_succ→A2, getElem_cons_zero→A3, setIfInBounds_toArray→A4, set_cons_zero→A5, set_cons_succ→A6
open Nat renaming le_trans→A7
namespace Go.AM
theorem DZ (b:List Int):∀ (a pre b':List Int),b=pre++b'→a.length=b'.length→qR b Jf a pre.length=some (a == b')
 | [],pre,b',_,hl=>by
  have:b'=[]:=List.length_eq_zero_iff.1 hl.symm;subst this;rw[qR.eq_1];rfl
 | x::a,pre,y::b',hb,hl=>by
  have h:idx b ((pre.length:Nat):Int)=some y:=by
   unfold idx;rw[if_pos (Int.natCast_nonneg _),Int.toNat_natCast,hb];simp
  have ih:=DZ b a (pre++[y]) b' (by rw[hb];simp) (by simpa using hl);rw[List.length_append,List.length_singleton]at ih;rw[qR.eq_2,h];simp only[Option.bind_some];rw[ih];show _=some ((x == y) && (a == b'));cases hxy:x == y <;> simp[bne,hxy]
theorem qbY {a b:List Int} (ha:a.length≤100000):jE a b=some (a == b):=by
 unfold jE;have hck:lenOk a=true:=Nat.ble_eq_true_of_le (by omega);rw[hck];by_cases h:a.length=b.length
 ·have:((a.length:Int) != (b.length:Int))=false:=by rw[h];simp
  rw[this,cN];exact DZ b a [] b rfl h
 ·have:((a.length:Int) != (b.length:Int))=true:=by simp;omega
  rw[this,cond_true]
  have:(a == b)=false:=by
   rw[beq_eq_false_iff_ne];intro e;exact h (by rw[e])
  rw[this]
def sameP (a b:hsview):Bool:=(([1,2,3,4,5,6]:List Int).all fun t=>mget keq1 [] t a.jK == mget keq1 [] t b.jK) && (a.Qk == b.Qk)
end Go.AM
namespace Go.Proofs
open Go.RowKit Go.AM
theorem qbR {M:Mem} {ks vs:List AV} {v:Value} (h:R M (.mpv ks vs) v):∃ mo,v=.map mo:=by
 generalize hx:AV.mpv ks vs=x at h
 cases h <;> first | exact⟨_,rfl⟩ | cases hx
theorem Vd {M:Mem} {a:hsview} {v:Value} (hl:a.Qk.length=6) (h:R M (viewAV a) v):∃ mo x0 x1 x2 x3 x4 x5,a.Qk=[x0,x1,x2,x3,x4,x5]∧v=.agg #[.map mo,.int .i64 x0,.int .i64 x1,.int .i64 x2,.int .i64 x3,.int .i64 x4,.int .i64 x5]∧R M (mpE (AV.int .i64) lI a.jK) (.map mo):=by
 obtain⟨x0,x1,x2,x3,x4,x5,hx⟩:=six hl;unfold viewAV at h;rw[hx]at h
 cases h with
 | agg hl hc =>
  rename_i vs
  match vs,hl with
  | [u,u0,u1,u2,u3,u4,u5],_ =>
   have h0:=hc 0 _ _ rfl rfl;have h1:=hc 1 _ _ rfl rfl;have h2:=hc 2 _ _ rfl rfl;have h3:=hc 3 _ _ rfl rfl;have h4:=hc 4 _ _ rfl rfl;have h5:=hc 5 _ _ rfl rfl;have h6:=hc 6 _ _ rfl rfl;obtain⟨mo,rfl⟩:=qbR h0;cases h1;cases h2;cases h3;cases h4;cases h5;cases h6;exact⟨mo,x0,x1,x2,x3,x4,x5,hx,rfl,h0⟩
theorem DA {M:Mem} {m:List (Int×List Int)} {mv:Value} (hm:R M (mpE (AV.int .i64) lI m) mv) {t:Int} (ht:wfI .i64 t=true) (w:World) (hC:Cons M w):∃ v,(Instr.lookup 87 mv (.int .i64 t) false).run Try.prog w=.ok v w∧R M (lI (mget keq1 [] t m)) v:=by
 have hk:(AV.int .i64 t).keyV=some (.int .i64 t):=by simp only[AV.keyV,ht]
 have hr:=JY (P:=Try.prog) (t:=87) (kt:=3) (e:=24) (F:=AV.int .i64) (G:=lI) (eq:=keq1) (l:=m) (k:=t) (z:=[]) (by rw[hk];rfl) (by kernel_rfl) (fun x=>by kernel_rfl) (fun x y=>qbp x y) (by kernel_rfl);exact DN (kt:=3) (e:=24) (w:=w) hC hm (by kernel_rfl) hk hr
theorem qdx {x0 x1 x2 x3 x4 x5 y0 y1 y2 y3 y4 y5:Int} (w:World):(Op.equalIn 10000 88 (.agg #[.int .i64 x0,.int .i64 x1,.int .i64 x2,.int .i64 x3,.int .i64 x4,.int .i64 x5]) (.agg #[.int .i64 y0,.int .i64 y1,.int .i64 y2,.int .i64 y3,.int .i64 y4,.int .i64 y5])).run Try.prog w=.ok ([x0,x1,x2,x3,x4,x5] == [y0,y1,y2,y3,y4,y5]) w:=by
 obtain⟨i,hi,hsz⟩:∃ i,Try.prog.info? 3=some i∧i.size=1:=by
  have h:=Try.infoInt
  cases hi:Try.prog.info? 3 with
  | none=>rw[hi]at h;cases h
  | some i =>
   rw[hi]at h;simp only[Option.map_some,Option.some.injEq,Prod.mk.injEq]at h;exact⟨i,rfl,h.2.1⟩
 have hco:Try.prog.cellsOf 3=1:=by unfold Program.cellsOf;rw[hi];exact hsz
 have rx:∀ (l:List Int) (j:Nat) c v,(l.map (AV.int .i64))[j]? = some c→(l.map (Value.int .i64))[j]? = some v→R (fun _ _=>none) c v:=fun l j c v hc hv=>by
  rw[List.getElem?_map,Option.map_eq_some_iff]at hc hv;obtain⟨a,h1,rfl⟩:=hc;obtain⟨b,h2,rfl⟩:=hv;rw[h1]at h2;cases h2;exact .int _ _
 have hq:=qal .i64 6 [x0,x1,x2,x3,x4,x5] [y0,y1,y2,y3,y4,y5] rfl rfl;rw[show (10000:Nat)=9999+1 from rfl,run_equalIn_array w 9999 _ _ Try.underlying88 hi,hco,List.range_eq_range'];exact ZS (d:=9998) (k:=0) (by kernel_rfl) (rfl) (rfl) (rx [x0,x1,x2,x3,x4,x5]) (rx [y0,y1,y2,y3,y4,y5]) 6 0 _ hq
set_option maxHeartbeats 2000000 in
theorem Try.same66 {a b:hsview} (ha:a.Qk.length=6) (hb:b.Qk.length=6) (hal:∀ t,(mget keq1 [] t a.jK).length≤100000):CallOk Try.prog 66 [viewAV a,viewAV b] (.bool (sameP a b)):=by
 intro M w vs hG hC hl hR
 obtain⟨v0,v1,rfl⟩:∃ v0 v1,vs=[v0,v1]:=by
  match vs,hl with
  | [v0,v1],_=>exact⟨v0,v1,rfl⟩
 have r0:R M (viewAV a) v0:=hR 0 _ v0 rfl rfl;have r1:R M (viewAV b) v1:=hR 1 _ v1 rfl rfl;clear hR hl hG;show Calls Try.prog 66 [v0,v1].toArray w (Hm M w (.bool (sameP a b)));obtain⟨ma,x0,x1,x2,x3,x4,x5,hxa,rfl,rma⟩:=Vd ha r0;obtain⟨mb,y0,y1,y2,y3,y4,y5,hxb,rfl,rmb⟩:=Vd hb r1;clear r0 r1;have mixed:=mixedP;have t3:=Try.underlying3;have a3:=Try.isAgg3;have z3:=Try.sizeOf3;have v3:=Try.zeroValue3;have u3:=run_underlying Try.underlying3;have t4:=Try.underlying4;have a4:=Try.isAgg4;have z4:=Try.sizeOf4;have v4:=Try.zeroValue4;have t24:=Try.underlying24;have a24:=Try.isAgg24;have z24:=Try.sizeOf24;have v24:=Try.zeroValue24;have u24:=run_underlying Try.underlying24;have t87:=Try.underlying87;have a87:=Try.isAgg87;have z87:=Try.sizeOf87;have v87:=Try.zeroValue87;have u87:=run_underlying Try.underlying87;have t88:=Try.underlying88;have a88:=Try.isAgg88;have z88:=Try.sizeOf88;have v88:=Try.zeroValue88;have u88:=run_underlying Try.underlying88;have t90:=Try.underlying90;have a90:=Try.isAgg90;have z90:=Try.sizeOf90;have v90:=Try.zeroValue90;have u90:=run_underlying Try.underlying90;obtain⟨w0,ew0⟩:∃ w0,w0=(w.alloc (.cells #[.map ma,.int .i64 x0,.int .i64 x1,.int .i64 x2,.int .i64 x3,.int .i64 x4,.int .i64 x5] 90)).alloc (.cells #[.map mb,.int .i64 y0,.int .i64 y1,.int .i64 y2,.int .i64 y3,.int .i64 y4,.int .i64 y5] 90):=⟨_,rfl⟩
 have z0:w0.heap.size=w.heap.size+1+1:=by rw[ew0];simp
 have C0:Cons M w0:=by rw[ew0];exact (hC.alloc _).alloc _
 have B0:Below w.heap.size w w0:=by rw[ew0];exact ((Below.refl _ _).alloc (Nat.le_refl _) _).alloc (by simp) _
 have n0:w0.heap[w.heap.size]? = some (.cells #[.map ma,.int .i64 x0,.int .i64 x1,.int .i64 x2,.int .i64 x3,.int .i64 x4,.int .i64 x5] 90 (0,0)):=by
  rw[ew0,heap_alloc_old _ _ (by simp)];exact heap_alloc_new _ _
 have n1:w0.heap[w.heap.size+1]? = some (.cells #[.map mb,.int .i64 y0,.int .i64 y1,.int .i64 y2,.int .i64 y3,.int .i64 y4,.int .i64 y5] 90 (0,0)):=by
  rw[ew0];have:=heap_alloc_new (w.alloc (.cells #[.map ma,.int .i64 x0,.int .i64 x1,.int .i64 x2,.int .i64 x3,.int .i64 x4,.int .i64 x5] 90)) (.cells #[.map mb,.int .i64 y0,.int .i64 y1,.int .i64 y2,.int .i64 y3,.int .i64 y4,.int .i64 y5] 90)
  simpa using this
 have HW:=(show Hid (w0=_) from ew0);clear ew0
 go_enter Try.func66,Try.ntmps66
 go_wp2
 rw[← HW.out]
 go_loopw [5] (fun i wr=>∃ k:Nat,1≤k∧k≤7∧i=.int .i64 k∧(∀ j:Int,1≤j→j<k→mget keq1 [] j a.jK=mget keq1 [] j b.jK)∧Below w0.heap.size w0 wr)
  (fun i _=>8 - (RowKit.intOf i).toNat)
 case atStart=>exact⟨1,Nat.le_refl _,by omega,rfl,fun j h1 h2=>by omega,Below.refl _ _⟩
 case round =>
  obtain⟨k,h1,h7,rfl,hk,hB⟩:=hrel;have Cr:=C0.below hB;have n0:=(hB.block _ (by omega)).trans n0;have n1:=(hB.block _ (by omega)).trans n1
  have p0:wr.cell? ⟨w.heap.size,0,none⟩=some (.map ma):=by simp[A0,n0]
  have p1:wr.cell? ⟨w.heap.size+1,0,none⟩=some (.map mb):=by simp[A0,n1]
  by_cases hk6:k≤6
  ·have hwf:wfI .i64 (k:Int)=true:=by
    unfold wfI Lit.wf;simp[IntKind.min,IntKind.max,IntKind.signed,IntKind.bits];omega
   obtain⟨va,la,ra⟩:=DA rma hwf wr Cr;obtain⟨vb,lb,rb⟩:=DA rmb hwf wr Cr
   have i0:(k:Int)≤6:=by omega
   have c24:=Xl (Qq _ _ _ (qbY (a:=mget keq1 [] (k:Int) a.jK) (b:=mget keq1 [] (k:Int) b.jK) (hal _))) M wr [va,vb] (glob0 M) Cr rfl (fun j c d hc hd=>by match j,hc,hd with | 0,hc,hd=>(cases hc;cases hd;exact ra) | 1,hc,hd=>(cases hc;cases hd;exact rb))
   go_wp2_with fail
   refine Calls.mono c24 ?_
   rintro e w2 ⟨u,M2,rfl,hB2,_,_,_,ru,_⟩
   obtain rfl:u=.bool (mget keq1 [] (k:Int) a.jK == mget keq1 [] (k:Int) b.jK):=by cases ru;rfl
   have B2:=hB.trans (hB2.mono (by have:=hB.size;omega))
   cases he:(mget keq1 [] (k:Int) a.jK == mget keq1 [] (k:Int) b.jK) with
   | false =>
    go_wp2
    go_ret
    refine⟨_,M,rfl,B0.trans (B2.mono (by omega)),Sub.refl _,C0.below B2,fun _ _ _=>rfl,?_,trivial⟩
    have:sameP a b=false:=by
     unfold sameP;rw[Bool.and_eq_false_iff];left;rw[List.all_eq_false];refine⟨(k:Int),?_,by rw[he];decide⟩
     have:(k:Int)=1∨(k:Int)=2∨(k:Int)=3∨(k:Int)=4∨(k:Int)=5∨(k:Int)=6:=by omega
     simpa using this
    rw[this];exact .bool _
   | true =>
    go_wp2
    go_roundw
    case rel =>
     refine⟨k+1,by omega,by omega,by go_num,fun j h1 h2=>?_,B2⟩
     rcases Int.lt_or_le j k with h3 | h3
     ·exact hk j h1 h3
     ·have:j=k:=by omega
      rw[this];exact eq_of_beq he
    case measure=>simp[RowKit.intOf];omega
  ·obtain rfl:k=7:=by omega
   have hall:(([1,2,3,4,5,6]:List Int).all fun t=>mget keq1 [] t a.jK == mget keq1 [] t b.jK)=true:=by
    rw[List.all_eq_true];intro t ht
    have ht:t=1∨t=2∨t=3∨t=4∨t=5∨t=6:=by simpa using ht
    rw[hk t (by omega) (by omega)];simp
   have cx0:wr.cell? ⟨w.heap.size,1,none⟩=some (.int .i64 x0):=by simp[A0,n0]
   have cx1:wr.cell? ⟨w.heap.size,2,none⟩=some (.int .i64 x1):=by simp[A0,n0]
   have cx2:wr.cell? ⟨w.heap.size,3,none⟩=some (.int .i64 x2):=by simp[A0,n0]
   have cx3:wr.cell? ⟨w.heap.size,4,none⟩=some (.int .i64 x3):=by simp[A0,n0]
   have cx4:wr.cell? ⟨w.heap.size,5,none⟩=some (.int .i64 x4):=by simp[A0,n0]
   have cx5:wr.cell? ⟨w.heap.size,6,none⟩=some (.int .i64 x5):=by simp[A0,n0]
   have cy0:wr.cell? ⟨w.heap.size+1,1,none⟩=some (.int .i64 y0):=by simp[A0,n1]
   have cy1:wr.cell? ⟨w.heap.size+1,2,none⟩=some (.int .i64 y1):=by simp[A0,n1]
   have cy2:wr.cell? ⟨w.heap.size+1,3,none⟩=some (.int .i64 y2):=by simp[A0,n1]
   have cy3:wr.cell? ⟨w.heap.size+1,4,none⟩=some (.int .i64 y3):=by simp[A0,n1]
   have cy4:wr.cell? ⟨w.heap.size+1,5,none⟩=some (.int .i64 y4):=by simp[A0,n1]
   have cy5:wr.cell? ⟨w.heap.size+1,6,none⟩=some (.int .i64 y5):=by simp[A0,n1]
   have heq:=qdx (x0:=x0) (x1:=x1) (x2:=x2) (x3:=x3) (x4:=x4) (x5:=x5) (y0:=y0) (y1:=y1) (y2:=y2) (y3:=y3) (y4:=y4) (y5:=y5) wr
   have hv:sameP a b=([x0,x1,x2,x3,x4,x5] == [y0,y1,y2,y3,y4,y5]):=by unfold sameP;rw[hall,hxa,hxb,Bool.true_and]
   generalize ([x0,x1,x2,x3,x4,x5] == [y0,y1,y2,y3,y4,y5])=bb at heq hv
   go_wp2
   go_ret
   refine⟨_,M,rfl,B0.trans (hB.mono (by omega)),Sub.refl _,Cr,fun _ _ _=>rfl,?_,trivial⟩;rw[hv];exact .bool _
end Go.Proofs
namespace Go.AM
def dfs (P:List Int→Bool) (l:List Int):Nat→List Int→Option (List Int)
 | 0,o=>bif P o then some o else none
 | n+1,o=>l.findSome? fun t=>bif o.contains t then none else dfs P l n (o++[t])
end Go.AM
namespace Go.Proofs
open Go.RowKit Go.AM
open Go.ChangeMaps (setBlock)
theorem Hz (w:World) (base:Nat) (v:Value) (l:List Int) (x:Int) (hown:w.ownsRow base 3 1 v l.length (intsV l)) {B:Nat} {fz:Nat×Nat} (hx:w.heap[B]? = some (.cells #[.int .i64 x] 3 fz)) (hlen:l.length≤1000000000) (hb:base≤w.heap.size) (ty:TypeId) (c0:Nat) :
  ∃ g cap w',(Builtin.append_ #[24,24] ty #[v,.slice (some ⟨B,0,none⟩) 1 c0]).run Try.prog w=.ok (.slice (some ⟨g,0,none⟩) (l.length+1) cap) w'∧w'.ownsRow base 3 1 (.slice (some ⟨g,0,none⟩) (l.length+1) cap) (l.length+1) (intsV (l++[x]))∧w.grownBy w' v.ownBlock∧(v.ownBlock=some g∨g=w.heap.size)∧g<w'.heap.size:=by
 obtain⟨i0,hi,hz0,hz1,hz2⟩:=info_parts Try.infoInt;have h:=run_append_lies (P:=Try.prog) w 24 ty base 3 i0 (.int .i64 0) 1 8 Try.underlying24 hi hz0 hz1 hz2 rfl (by omega) v l.length (intsV l) hown ⟨B,0,none⟩ 1 c0 [.int .i64 x] rfl (World.news_of_block hx) (by simp[Value.oneCell']) (by omega) (by unfold maxLen;omega) (by omega) hb _ rfl;rw[ZM];exact h
theorem VP {ops:Array Oper} {rest:List Oper} {o:Oper} {a:Act} {w:World} {Q:Exit→Act→World→Prop} (hgd:o.guard=none) (s x:Operand) (ho:o.op=.call { callee:=.builtin .append,args:=#[s,x],argTypes:=#[24,24] }) {base:Nat} {v:Value} {l:List Int} {f:Int} {B c0:Nat} {fz:Nat×Nat}
  (hs:a.eval s=v) (hx:a.eval x=.slice (some ⟨B,0,none⟩) 1 c0) (hown:w.ownsRow base 3 1 v l.length (intsV l)) (hb:w.heap[B]? = some (.cells #[.int .i64 f] 3 fz)) (hlen:l.length≤1000000000) (hbase:base≤w.heap.size)
  (h:∀ g cap w',w'.ownsRow base 3 1 (.slice (some ⟨g,0,none⟩) (l.length+1) cap) (l.length+1) (intsV (l++[f]))→w.grownBy w' v.ownBlock→(v.ownBlock=some g∨g=w.heap.size)→g<w'.heap.size→wpList Try.prog ops Q rest (a.put o.dst (.slice (some ⟨g,0,none⟩) (l.length+1) cap)) w'):wpList Try.prog ops Q (o::rest) a w:=by
 obtain⟨g,cap,w',hr,h2,h3,h4,h5⟩:=Hz w base v l f hown hb hlen hbase o.type c0
 refine wpList_plain hgd fun K hK=>?_
 unfold Oper.wp execOp;simp only[ho,resolve,invoke,builtin,Sem.run_bind,Sem.run_pure,Result.andThen_ok,List.map_toArray,List.map_cons,List.map_nil,hs,hx,hr];exact hK _ _ (h g cap w' h2 h3 h4 h5)
theorem qaM {w:World} {base g cap:Nat} {c:List Int} {t:Int} (h:w.ownsRow base 3 1 (.slice (some ⟨g,0,none⟩) (c.length+1) cap) (c.length+1) (intsV (c++[t]))):w.ownsRow base 3 1 (.slice (some ⟨g,0,none⟩) c.length cap) c.length (intsV c):=by
 obtain⟨e1,e2⟩:=h;refine⟨by simp[intsV],.inr ?_⟩
 rcases e2 with ⟨hv,_⟩ | ⟨g2,cap2,cur,hv,k1,k2,k3,k4,k5,k6⟩
 ·cases hv
 ·obtain⟨e3,e4⟩:g=g2∧cap=cap2:=by
   simp only[Value.slice.injEq,Option.some.injEq,Addr.mk.injEq]at hv;exact⟨hv.1.1,hv.2.2⟩
  subst e3;subst e4;refine⟨g,cap,cur,rfl,k1,k2,by omega,k4,k5,?_⟩;have h1:=congrArg (List.take c.length) k6;rw[List.take_take,Nat.min_eq_left (by omega)]at h1;rw[Nat.mul_one,h1];simp[intsV]
structure TF (w:World) (bo g:Nat) (w':World):Prop where
 os:w'.os=w.os
 tape:w'.tape=w.tape
 output:w'.output=w.output
 size:w.heap.size≤w'.heap.size
 block:∀ k,k<w.heap.size→k≠bo→k≠g→w'.heap[k]? = w.heap[k]?
theorem TF.refl (w:World) (bo g:Nat):TF w bo g w:=⟨rfl,rfl,rfl,Nat.le_refl _,fun _ _ _ _=>rfl⟩
theorem TF.below {w w1 w2:World} {bo g:Nat} (h:TF w bo g w1) (hB:Below w1.heap.size w1 w2):TF w bo g w2 :=
 ⟨hB.os.trans h.os,hB.tape.trans h.tape,hB.output.trans h.output,A7 h.size hB.size,fun k hk h1 h2=>by
  have:=h.size
  rw[hB.block k (by omega),h.block k hk h1 h2]⟩
theorem TF.trans {w w1 w2:World} {bo g g1:Nat} (h:TF w bo g w1) (k:TF w1 bo g1 w2) (hg:g1=g∨w.heap.size≤g1):TF w bo g w2 :=
 ⟨k.os.trans h.os,k.tape.trans h.tape,k.output.trans h.output,A7 h.size k.size,fun j hj h1 h2=>by
  have:=h.size
  rw[k.block j (by omega) h1 (by rcases hg with e | e <;> omega),h.block j hj h1 h2]⟩
theorem TF.set {w w1:World} {bo g:Nat} (h:TF w bo g w1) (u:Value):TF w bo g (w1.setCell ⟨bo,0,none⟩ u) :=
 ⟨h.os,h.tape,h.output,by rw[QR];exact h.size,fun k hk h1 h2=>by rw[jc h1,h.block k hk h1 h2]⟩
theorem TF.grown {w w1 w2:World} {bo g g1:Nat} (h:TF w bo g w1) (k:w1.grownBy w2 (some g1)) (hg:g1=g∨w.heap.size≤g1):TF w bo g w2 :=
 ⟨k.os.trans h.os,k.tape.trans h.tape,k.output.trans h.output,A7 h.size k.size,fun j hj h1 h2=>by
  have:=h.size
  rw[k.block j (by omega) (fun e=>by rcases hg with e1 | e1 <;> (cases e;omega)),h.block j hj h1 h2]⟩
theorem TF.cons {M:Mem} {w w':World} {bo g:Nat} (h:TF w bo g w') (hC:Cons M w) (hb:∀ o,M bo o=none) (hg:∀ o,M g o=none):Cons M w' :=
 hC.of_blocks fun b o u hu hl=>h.block b hl (fun e=>by rw[e,hb]at hu;cases hu) (fun e=>by rw[e,hg]at hu;cases hu)
def tryV5 (bo bl bp bw bt:Nat):Value:=.func (.func 64) #[] #[.pointer (some ⟨bo,0,none⟩),.pointer (some ⟨bl,0,none⟩),.pointer (some ⟨bp,0,none⟩),.pointer (some ⟨bw,0,none⟩),.pointer (some ⟨bt,0,none⟩)]
structure VE (fuel:Nat) (M:Mem) (bo bl bp bw bt:Nat) (p:List hsOp) (l:List Int) (want:hsview) (T:List Int→Bool):Prop where
 lv:∃ a cap,M bl 0=some (.slice a l.length cap)∧R M (.lst 3 1 none (cL l)) (.slice a l.length cap)
 pv:∃ pv,M bp 0=some pv∧isTup pv=false∧R M (l44 none p) pv
 wv:∃ mo x0 x1 x2 x3 x4 x5,want.Qk=[x0,x1,x2,x3,x4,x5]∧R M (viewAV want) (.agg #[.map mo,.int .i64 x0,.int .i64 x1,.int .i64 x2,.int .i64 x3,.int .i64 x4,.int .i64 x5])∧M bw 0=some (.map mo)∧M bw 1=some (.int .i64 x0)∧M bw 2=some (.int .i64 x1)∧M bw 3=some (.int .i64 x2)∧M bw 4=some (.int .i64 x3)∧M bw 5=some (.int .i64 x4)∧M bw 6=some (.int .i64 x5)
 g:M bt 0=some (tryV5 bo bl bp bw bt)
 f:∀ o,M bo o=none
 wf:∀ x,x∈l→wfI .i64 x=true
 len:l.length≤1000
 tst:∀ o:List Int,o.length=l.length→o.Nodup→(∀ x,x∈o→x∈l)→∃ s v,jJ p o=some s∧viewP fuel s=some v∧v.Qk.length=6∧(∀ t,(mget keq1 [] t v.jK).length≤100000)∧sameP v want=T o
def TryPost (base:Nat) (w:World) (bo g:Nat) (o:List Int) (res:Option (List Int)) (e:Ending) (w':World):Prop :=
 e=.returned (.bool res.isSome)∧TF w bo g w'∧∃ g' cap',w'.heap[bo]? = some (.cells #[.slice (some ⟨g',0,none⟩) (res.getD o).length cap'] 24 (0,0))∧w'.ownsRow base 3 1 (.slice (some ⟨g',0,none⟩) (res.getD o).length cap') (res.getD o).length (intsV (res.getD o))∧(g'=g∨w.heap.size≤g')
def Try64 (n:Nat):Prop:=∀ (fuel:Nat) (M:Mem) (w:World) (base bo bl bp bw bt g cap:Nat) (p:List hsOp) (l o:List Int) (want:hsview) (T:List Int→Bool),VE fuel M bo bl bp bw bt p l want T→Cons M w→o.Nodup→(∀ x,x∈o→x∈l)→o.length+n=l.length →
 w.heap[bo]? = some (.cells #[.slice (some ⟨g,0,none⟩) o.length cap] 24 (0,0))→w.ownsRow base 3 1 (.slice (some ⟨g,0,none⟩) o.length cap) o.length (intsV o)→(∀ j,M g j=none)→base≤w.heap.size →
 Calls Try.prog 64 #[.pointer (some ⟨bo,0,none⟩),.pointer (some ⟨bl,0,none⟩),.pointer (some ⟨bp,0,none⟩),.pointer (some ⟨bw,0,none⟩),.pointer (some ⟨bt,0,none⟩)] w (TryPost base w bo g o (dfs T l n o))
def mblk (M N:Mem) (g:Nat):Mem:=fun b o=>if b=g then N b o else M b o
theorem Uu {M N:Mem} {g:Nat} (h:∀ o,M g o=none):Sub M (mblk M N g):=fun b o u hu=>by
 unfold mblk;rw[if_neg (fun e=>by rw[e,h]at hu;cases hu)];exact hu
theorem NJ {M N:Mem} {g:Nat} (h:∀ b o u,N b o=some u→b=g):Sub N (mblk M N g):=fun b o u hu=>by
 unfold mblk;rw[if_pos (h b o u hu)];exact hu
theorem NK {M N:Mem} {w:World} {g:Nat} (hM:Cons M w) (hN:Cons N w):Cons (mblk M N g) w:=fun b o u hu=>by
 unfold mblk at hu;split at hu
 ·exact hN _ _ _ hu
 ·exact hM _ _ _ hu
theorem Try.enter64:∀ args w,(callFunc 64 args).run Try.prog w=.ok (.enter 64 args) w:=fun args w=>by
 have h := Try.func64;have h1 : Try.f64.name ≠ "runtime.NumGoroutine" := of_decide_eq_true (by kernel_rfl)
 have h2:Try.f64.body≠none:=fun e=>absurd (show Try.f64.body.isNone=false by kernel_rfl) (by rw[e];decide)
 simp[callFunc,h,h1,h2]
set_option maxHeartbeats 1000000 in
theorem Try.try64_0:Try64 0:=by
 intro fuel M w base bo bl bp bw bt g cap p l o want T hV hC hn hs hlen hbo hown hMg hb;obtain⟨la,lc,l0,rl⟩:=hV.lv;obtain⟨pv,p0,ptu,rp⟩:=hV.pv;obtain⟨mo,x0,x1,x2,x3,x4,x5,hwl,rw0,m0,m1,m2,m3,m4,m5,m6⟩:=hV.wv;obtain⟨s,v,hse,hvw,hv6,hvl,hT⟩:=hV.tst o (by omega) hn hs;have hll:=hV.len;have res:dfs T l 0 o=bif T o then some o else none:=rfl
 have hD:(dfs T l 0 o).getD o=o:=by rw[res];cases T o <;> rfl
 have hS:(dfs T l 0 o).isSome=T o:=by rw[res];cases T o <;> rfl
 unfold TryPost;rw[hD,hS];clear res hD hS;obtain⟨N,hN,hNR,hNb⟩:=YR hown
 have hNb':∀ b j u,N b j=some u→b=g:=fun b j u hu=>by
  have:=hNb b j u hu
  simpa[Value.ownBlock] using this.symm
 have hlo:o.length=l.length:=by omega
 rw[hlo]at hbo hown hNR ⊢;clear hlo
 have KS:∀ w',Cons M w'→w'.heap[bo]? = w.heap[bo]?→w'.cell? ⟨bp,0,none⟩=some pv∧w'.cell? ⟨bo,0,none⟩=some (.slice (some ⟨g,0,none⟩) l.length cap)∧w'.cell? ⟨bw,0,none⟩=some (.map mo)∧w'.cell? ⟨bw,1,none⟩=some (.int .i64 x0)∧w'.cell? ⟨bw,2,none⟩=some (.int .i64 x1)∧w'.cell? ⟨bw,3,none⟩=some (.int .i64 x2)∧w'.cell? ⟨bw,4,none⟩=some (.int .i64 x3)∧w'.cell? ⟨bw,5,none⟩=some (.int .i64 x4)∧w'.cell? ⟨bw,6,none⟩=some (.int .i64 x5):=fun w' h hbk=>by
  rw[hbo]at hbk;exact⟨qH (h _ _ _ p0) ptu,by simp[A0,hbk],qH (h _ _ _ m0) rfl,qH (h _ _ _ m1) rfl,qH (h _ _ _ m2) rfl,qH (h _ _ _ m3) rfl,qH (h _ _ _ m4) rfl,qH (h _ _ _ m5) rfl,qH (h _ _ _ m6) rfl⟩
 have K0:=KS w.drew hC rfl;have ql:=qH (hC _ _ _ l0) rfl;have qo:=K0.2.1;have hC':=NK (g:=g) hC hN;have c65:=Xl (Yt p o s hse) (mblk M N g) w.drew [pv,.slice (some ⟨g,0,none⟩) l.length cap] (glob0 _) hC' rfl (fun j a b ha hb=>by match j,ha,hb with | 0,ha,hb=>(cases ha;cases hb;exact rp.mono (Uu hMg)) | 1,ha,hb=>(cases ha;cases hb;exact hNR.mono (NJ hNb')));have sM:=Uu (N:=N) hMg;have mixed:=mixedP;have t3:=Try.underlying3;have a3:=Try.isAgg3;have z3:=Try.sizeOf3;have v3:=Try.zeroValue3;have u3:=run_underlying Try.underlying3;have t4:=Try.underlying4;have a4:=Try.isAgg4;have z4:=Try.sizeOf4;have v4:=Try.zeroValue4;have t24:=Try.underlying24;have a24:=Try.isAgg24;have z24:=Try.sizeOf24;have v24:=Try.zeroValue24;have u24:=run_underlying Try.underlying24;have t29:=Try.underlying29;have a29:=Try.isAgg29;have z29:=Try.sizeOf29;have v29:=Try.zeroValue29;have u29:=run_underlying Try.underlying29;have t90:=Try.underlying90;have a90:=Try.isAgg90;have z90:=Try.sizeOf90;have v90:=Try.zeroValue90;have u90:=run_underlying Try.underlying90;have t32:=Try.underlying32;have a32:=Try.isAgg32;have z32:=Try.sizeOf32;have v32:=Try.zeroValue32;have qo':w.cell? ⟨bo,0,none⟩=some (.slice (some ⟨g,0,none⟩) l.length cap):=qo
 go_enter Try.func64,Try.ntmps64
 go_wp2
 refine wp_region_held_drew (S:=(fun w'=>w'.cell? ⟨bp,0,none⟩=some pv∧w'.cell? ⟨bo,0,none⟩=some (.slice (some ⟨g,0,none⟩) l.length cap)∧w'.cell? ⟨bw,0,none⟩=some (.map mo)∧w'.cell? ⟨bw,1,none⟩=some (.int .i64 x0)∧w'.cell? ⟨bw,2,none⟩=some (.int .i64 x1)∧w'.cell? ⟨bw,3,none⟩=some (.int .i64 x2)∧w'.cell? ⟨bw,4,none⟩=some (.int .i64 x3)∧w'.cell? ⟨bw,5,none⟩=some (.int .i64 x4)∧w'.cell? ⟨bw,6,none⟩=some (.int .i64 x5))) (by kernel_rfl) K0 (fun hHeld=>?_);refine wpAnyH_take (i:=0) (v:=pv) rfl (by kernel_rfl) (by kernel_rfl) (by kernel_rfl) (fun _ _ _ h=>h) (Or.inl ⟨by kernel_rfl,fun w' hw'=>?_⟩) hHeld ?_
 ·obtain⟨p0,p1,p2,p3,p4,p5,p6,p7,p8⟩:=hw';go_simp
 simp only[Act.put,A1,A2,A3,A4,A5,A6];refine wpAnyH_take (i:=1) (v:=.slice (some ⟨g,0,none⟩) l.length cap) rfl (by kernel_rfl) (by kernel_rfl) (by kernel_rfl) (fun _ _ _ h=>h) (Or.inl ⟨by kernel_rfl,fun w' hw'=>?_⟩) hHeld ?_
 ·obtain⟨p0,p1,p2,p3,p4,p5,p6,p7,p8⟩:=hw';go_simp
 simp only[Act.put,A1,A2,A3,A4,A5,A6];refine wpAnyH_take (i:=4) (v:=.agg #[.map mo,.int .i64 x0,.int .i64 x1,.int .i64 x2,.int .i64 x3,.int .i64 x4,.int .i64 x5]) rfl (by kernel_rfl) (by kernel_rfl) (by kernel_rfl) (fun _ _ _ h=>h) (Or.inl ⟨by kernel_rfl,fun w' hw'=>?_⟩) hHeld ?_
 ·obtain⟨p0,p1,p2,p3,p4,p5,p6,p7,p8⟩:=hw';go_simp
 simp only[Act.put,A1,A2,A3,A4,A5,A6];refine wpAnyH_ready (rs:=[2]) (by kernel_rfl) (by simp) (AllReadyH.cons rfl (fun K hK=>?_) AllReadyH.nil);rw[if_pos (by kernel_rfl)];go_simp
 go_at_call 65
 refine c65.mono ?_
 rintro e w1 ⟨sv,M1,rfl,hB1,s1,C1,o1,r1,_⟩
 have CM1:Cons M w1:=fun b j u hu=>C1 _ _ _ (s1 _ _ _ (sM _ _ _ hu))
 have hblt:=lt_of_block hbo;have k1:w1.heap[bo]? = w.heap[bo]?:=hB1.block bo hblt;have K1:=KS w1 CM1 k1;have c63:=Try.view63 hvw M1 w1 [sv] (glob0 M1) C1 rfl (fun j a b ha hb=>by match j,ha,hb with | 0,ha,hb=>(cases ha;cases hb;exact R.setLab (l':=none) r1))
 go_wp2_with fail
 refine hK.out _ _ K1 (fun hHeld=>?_);clear hK K;refine wpAnyH_ready (rs:=[3]) (by kernel_rfl) (by simp) (AllReadyH.cons rfl (fun K hK=>?_) AllReadyH.nil);rw[if_pos (by kernel_rfl)];go_simp
 go_at_call 63
 refine c63.mono ?_
 rintro e w2 ⟨vv,M2,rfl,hB2,s2,C2,o2,r2,_⟩
 have CM2:Cons M w2:=fun b j u hu=>C2 _ _ _ (s2 _ _ _ (s1 _ _ _ (sM _ _ _ hu)))
 have z1:=hB1.size;have z1':w.heap.size≤w1.heap.size:=z1;have k2:w2.heap[bo]? = w.heap[bo]?:=(hB2.block bo (by omega)).trans k1;have K2:=KS w2 CM2 k2;have c66:=Try.same66 hv6 (by rw[hwl];rfl) hvl M2 w2 [vv,.agg #[.map mo,.int .i64 x0,.int .i64 x1,.int .i64 x2,.int .i64 x3,.int .i64 x4,.int .i64 x5]] (glob0 M2) C2 rfl (fun j a b ha hb=>by match j,ha,hb with | 0,ha,hb=>(cases ha;cases hb;exact r2) | 1,ha,hb=>(cases ha;cases hb;exact rw0.mono (sM.trans (s1.trans s2))))
 go_wp2_with fail
 refine hK.out _ _ K2 (fun hHeld=>?_);clear hK K;refine wpAnyH_ready (rs:=[5]) (by kernel_rfl) (by simp) (AllReadyH.cons rfl (fun K hK=>?_) AllReadyH.nil);rw[if_pos (by kernel_rfl)];go_simp
 go_at_call 66
 refine c66.mono ?_
 rintro e w3 ⟨u,M3,rfl,hB3,s3,C3,o3,r3,_⟩
 obtain rfl:u=.bool (T o):=by rw[hT]at r3;cases r3;rfl
 have z2:=hB2.size
 have CM3:Cons M w3:=fun b j u hu=>C3 _ _ _ (s3 _ _ _ (s2 _ _ _ (s1 _ _ _ (sM _ _ _ hu))))
 have k3:w3.heap[bo]? = w.heap[bo]?:=(hB3.block bo (by omega)).trans k2;have K3:=KS w3 CM3 k3
 go_wp2_with fail
 refine hK.out _ _ K3 (fun hHeld=>?_);clear hK K;refine wpAnyH_take (i:=6) (v:=.bool (T o)) rfl (by kernel_rfl) (by kernel_rfl) (by kernel_rfl) (fun _ _ _ h=>h) (Or.inl ⟨by kernel_rfl,fun w' hw'=>?_⟩) hHeld ?_
 ·obtain⟨p0,p1,p2,p3,p4,p5,p6,p7,p8⟩:=hw';go_simp
 simp only[Act.put,A1,A2,A3,A4,A5,A6];refine wpAnyH_done (by kernel_rfl) ?_ _
 go_wp2
 go_ret
 have hB:Below w.heap.size w w3:=(Below.trans (b:=w1) (show Below w.heap.size w w1 from⟨hB1.os,hB1.tape,hB1.output,hB1.size,hB1.block⟩) (hB2.mono (by omega))).trans (hB3.mono (by omega));refine⟨rfl,(TF.refl w bo g).below hB,g,cap,k3.trans hbo,?_,.inl rfl⟩;obtain⟨q1,q2⟩:=hown;refine⟨q1,?_⟩
 rcases q2 with hn | ⟨g2,cap2,cur,hv,hb',hgg,rest⟩
 ·exact .inl hn
 ·exact .inr ⟨g2,cap2,cur,hv,hb',by rw[hB.block g2 (lt_of_block hgg)];exact hgg,rest⟩
end Go.Proofs
