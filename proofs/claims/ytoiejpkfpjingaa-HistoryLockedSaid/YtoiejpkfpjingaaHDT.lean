import Derived.Test.YtoiejpkfpjingaaELkL
import Derived.Test.YtoiejpkfpjingaaASimK
import Derived.Test.YtoiejpkfpjingaaELkD
import Derived.Laws.EntriesVeiled
import Derived.Test.YtoiejpkfpjingaaChecked
import Derived.Test.YtoiejpkfpjingaaKAT
import Derived.Test.YtoiejpkfpjingaaHA1
set_option linter.all false
set_option maxRecDepth 100000
open List renaming getElem_toArray→A0, getElem_cons_succ→A1, getElem_cons_zero→A2, setIfInBounds_toArray→A3, set_cons_zero→A4, set_cons_succ→A5, length_map→A7, append_nil→B0, length_cons→C0, filter_cons_of_pos→C4, mem_cons_of_mem→C5
open Go.World renaming cell?→A6
open Nat renaming le_refl→A8, beq→A9, eq_of_beq_eq_true→B6, ble_eq_true_of_le→B7
open Bool renaming and_eq_true→B5, not_eq_true'→C2
open Option renaming bind_some→B9
namespace Go.Proofs
open Go.RowKit Go.AM
open Go.ChangeMaps (setBlock)
theorem qdk (m:Nat) (s:LS) (i:Int) (o:hsOp) (l:List hsOp) (s2:LS) (h:runL m s i (o::l)=some s2):∃ s',stepL m s o i=some s'∧runL m s' (i+1) l=some s2:=qj h
theorem qaT {m:Nat} {s s':LS} {o:hsOp} {i:Int} (h:stepL m s o i=some s'):(o.qb∈s.ab∧s'=s)∨(o.qb ∉ s.ab∧((s.wt o.qb≠[]∧s'=putW s o.qb (s.wt o.qb++[(o,i)]))∨(s.wt o.qb=[]∧∃ r,goOnL m (putW s o.qb (s.wt o.qb++[(o,i)])) o.qb false=some r∧((r.2=true∧retryL m m r.1=some s')∨(r.2=false∧s'=r.1))))):=by
 unfold stepL at h;split at h
 ·rename_i h1;exact .inl ⟨h1,(Option.some.inj h).symm⟩
 ·rename_i h1;refine .inr ⟨h1,?_⟩;split at h
  ·rename_i h2;exact .inl ⟨h2,(Option.some.inj h).symm⟩
  ·rename_i h2
   have hne:s.wt o.qb=[]:=by
    cases hw:s.wt o.qb with
    | nil=>rfl
    | cons a b=>rw[hw]at h2;exact absurd (by simp) h2
   obtain⟨r,h3,h4⟩:=qj h;refine .inr ⟨hne,r,by rw[hne];exact h3,?_⟩;split at h4
   ·rename_i h5;exact .inl ⟨h5,h4⟩
   ·rename_i h5;exact .inr ⟨by simpa using h5,(Option.some.inj h4).symm⟩
set_option maxHeartbeats 8000000 in
theorem Try.lock32 {m:Nat} {h:List hsOp} {r:List hsOp×List Int×Int} (hp:lockP m h=some r):CallOk Try.prog 32 [l44 none h] (.tup [l44 none r.1,.lst 3 1 none (cL r.2.1),.int .i64 r.2.2]):=by
 intro M w vs hG hC hl hR
 obtain⟨v0,rfl⟩:∃ v0,vs=[v0]:=by
  match vs,hl with
  | [v0],_=>exact⟨v0,rfl⟩
 have r0:R M (l44 none h) v0:=hR 0 _ v0 rfl rfl;clear hR hl hG;show Calls Try.prog 32 [v0].toArray w (qea M w (.tup [l44 none r.1,.lst 3 1 none (cL r.2.1),.int .i64 r.2.2]));unfold lockP at hp;obtain⟨ok,hv,hp⟩:=qj hp;have mixed:=mixedP;have t3:=Try.underlying3;have a3:=Try.isAgg3;have z3:=Try.sizeOf3;have v3:=Try.zeroValue3;have u3:=run_underlying Try.underlying3;have t4:=Try.underlying4;have a4:=Try.isAgg4;have z4:=Try.sizeOf4;have v4:=Try.zeroValue4;have t24:=Try.underlying24;have a24:=Try.isAgg24;have z24:=Try.sizeOf24;have v24:=Try.zeroValue24;have u24:=run_underlying Try.underlying24;have t29:=Try.underlying29;have a29:=Try.isAgg29;have z29:=Try.sizeOf29;have v29:=Try.zeroValue29;have u29:=run_underlying Try.underlying29;have t44:=Try.underlying44;have a44:=Try.isAgg44;have z44:=Try.sizeOf44;have v44:=Try.zeroValue44;have u44:=run_underlying Try.underlying44;have t83:=Try.underlying83;have a83:=Try.isAgg83;have z83:=Try.sizeOf83;have v83:=Try.zeroValue83;have u83:=run_underlying Try.underlying83;have t88:=Try.underlying88;have a88:=Try.isAgg88;have z88:=Try.sizeOf88;have u88:=run_underlying Try.underlying88;have t96:=Try.underlying96;have a96:=Try.isAgg96;have z96:=Try.sizeOf96;have v96:=Try.zeroValue96;have u96:=run_underlying Try.underlying96;have t97:=Try.underlying97;have a97:=Try.isAgg97;have z97:=Try.sizeOf97;have u97:=run_underlying Try.underlying97;have t99:=Try.underlying99;have a99:=Try.isAgg99;have z99:=Try.sizeOf99;have u99:=run_underlying Try.underlying99;have t101:=Try.underlying101;have a101:=Try.isAgg101;have z101:=Try.sizeOf101;have v101:=Try.zeroValue101;have u101:=run_underlying Try.underlying101;have t102:=Try.underlying102;have a102:=Try.isAgg102;have z102:=Try.sizeOf102;have v102:=Try.zeroValue102;have u102:=run_underlying Try.underlying102;have t104:=Try.underlying104;have a104:=Try.isAgg104;have z104:=Try.sizeOf104;have v104:=Try.zeroValue104;have u104:=run_underlying Try.underlying104;have hmm:=@run_makeMap Try.prog;have c26:=qel (XK h ok hv) M w [v0] (glob0 M) hC rfl (fun j a b ha hb=>by match j,ha,hb with | 0,ha,hb=>cases ha;cases hb;exact r0)
 cases ok with
 | false =>
  cases hp
  go_enter Try.func32,Try.ntmps32
  go_wp2_with fail
  refine Calls.mono c26 ?_
  rintro e w1 ⟨v,M1,rfl,hB1,s1,C1,o1,r1,_⟩
  cases r1;clear c26
  go_wp2_with fail
  go_ret3
  refine⟨_,M1,rfl,hB1,s1,C1,o1,?_,trivial⟩;refine .tup (vs:=[.slice none 0 0,.slice none 0 0,.int .i64 2]) rfl (fun j c v hc hv=>?_)
  match j,hc,hv with
  | 0,hc,hv=>cases hc;cases hv;exact .lstn _ _ _
  | 1,hc,hv=>cases hc;cases hv;exact .lstn _ _ _
  | 2,hc,hv=>cases hc;cases hv;exact .int _ _
 | true =>
  simp only[cond_true]at hp;obtain⟨hlen,hp⟩:=qp hp;have hlen:=of_decide_eq_true hlen;obtain⟨se,hse,hp⟩:=qj hp;have hp:=Option.some.inj hp
  obtain⟨hok,hrun⟩:(∀ o∈h,OkOp o)∧runL m LS.zero 0 h=some se:=by
   split at hse
   ·rename_i h1;exact⟨h1,hse⟩
   ·cases hse
  clear hse hv;obtain⟨ha,hcap,rfl,hops⟩:=qep r0;have HP:=(show Hid _ from hp);have HRUN:=(show Hid _ from hrun);clear hp hrun r0
  go_enter Try.func32,Try.ntmps32
  go_wp2_with fail
  refine Calls.mono c26 ?_
  rintro e w1 ⟨v,M1,rfl,hB1,s1,C1,o1,r1,_⟩
  cases r1;clear c26
  go_wp2_with fail
  obtain⟨w2,ew2⟩:∃ w2,w2=(w1.alloc (.map #[] 0)).alloc (.cells #[.map none,.map none,.map none,.map none,.map none,.map none,.int .i64 0,.int .i64 0,.int .i64 0,.int .i64 0,.int .i64 0,.int .i64 0,.slice none 0 0,.slice none 0 0,.map (some w1.heap.size)] 101):=⟨_,rfl⟩
  have z2:w2.heap.size=w1.heap.size+2:=by rw[ew2];simp
  have B2:Below w1.heap.size w1 w2:=by rw[ew2];exact ((Below.refl _ _).alloc (A8 _) _).alloc (by simp) _
  have n20:w2.heap[w1.heap.size]? = some (.map #[] 0):=by rw[ew2,heap_alloc_old _ _ (by simp)];exact heap_alloc_new _ _
  have n21:w2.heap[w1.heap.size+1]? = some (.cells #[.map none,.map none,.map none,.map none,.map none,.map none,.int .i64 0,.int .i64 0,.int .i64 0,.int .i64 0,.int .i64 0,.int .i64 0,.slice none 0 0,.slice none 0 0,.map (some w1.heap.size)] 101 (0,0)):=by
   rw[ew2];have:=heap_alloc_new (w1.alloc (.map #[] 0)) (.cells #[.map none,.map none,.map none,.map none,.map none,.map none,.int .i64 0,.int .i64 0,.int .i64 0,.int .i64 0,.int .i64 0,.int .i64 0,.slice none 0 0,.slice none 0 0,.map (some w1.heap.size)] 101)
   simpa using this
  obtain⟨L0,hL0⟩:∃ L0:Nat→Nat,L0=fun k=>if k=w1.heap.size+1 then 1 else if k=w1.heap.size then 2 else 0:=⟨_,rfl⟩
  have hR0:RunB w1.heap.size (w1.heap.size+1) w2 L0 ⟨fun _=>none,.slice none 0 0,.slice none 0 0,w1.heap.size,#[],0,[]⟩ LS.zero:=by
   refine⟨n21,by rw[hL0];simp,fun k hk=>by rw[hL0];simp only;rw[if_neg (by omega),if_neg (by omega)],fun k hk=>?_,fun i hi=>.inl ⟨rfl,fun x=>rfl⟩,RowT.nil _ _ _ _ _,RowT.nil _ _ _ _ _,by rw[hL0];simp,⟨n20,⟨(MapKept.stamped_iff _ _).2 ⟨by simp,by simp,by simp⟩,Nat.zero_le _,rfl,rfl,fun j k e hk=>by simp at hk,fun j k e hk=>by simp at hk⟩,by simp,fun p hp=>(by cases hp),fun j p e hp=>by simp at hp⟩,fun t=>rfl⟩;rw[hL0]at hk;simp only at hk;by_cases e1:k=w1.heap.size+1
   ·omega
   ·rw[if_neg e1]at hk;by_cases e2:k=w1.heap.size
    ·omega
    ·rw[if_neg e2]at hk;exact absurd rfl hk
  have hlow:∀ k,k<w1.heap.size→L0 k=0:=fun k hk=>by rw[hL0];simp only;rw[if_neg (by omega),if_neg (by omega)]
  have BB:Below w.heap.size w w2:=hB1.trans (B2.mono hB1.size)
  have hC2:∀ (wx:World) (Lx:Nat→Nat),Mvs L0 Lx w2 wx→Cons M1 wx:=fun wx Lx hM=>C1.of_blocks fun b o u hu hb=>by
   rw[hM.keep b (by omega) (hlow b hb)];exact B2.block b hb
  rw[← ew2];clear ew2 n20 n21 hL0
  go_loopg [17] h.length (fun gf s17 wx=>∃ (k:Nat) (s':LS) (L':Nat→Nat) (G':Gst),s17=.int .i64 (k:Int)∧k+gf=h.length∧RunB w1.heap.size (w1.heap.size+1) wx L' G' s'∧OkK k s'∧Mvs L0 L' w2 wx∧runL m s' (k:Int) (h.drop k)=some se)
  case atStart=>exact⟨0,LS.zero,L0,_,rfl,by omega,hR0,OkK.zero,Mvs.refl _ _,HRUN.out⟩
  case round =>
   clear HRUN hR0;obtain⟨k,s,L1,G,rfl,hkg,hR,hK,hM,hrun⟩:=hrel;obtain⟨w7,rfl⟩:∃ w7,w7=wr:=⟨_,rfl⟩
   rcases Nat.lt_or_ge k h.length with hk1 | hk1
   ·obtain⟨b,off,rfl,e0,e1,e2⟩:=hops k _ (List.getElem?_eq_getElem hk1);have hxo:=hok _ (List.getElem_mem hk1);rw[List.drop_eq_getElem_cons hk1]at hrun;have hCr:=hC2 _ _ hM;have q0:=XM (hCr _ _ _ (s1 _ _ _ e0)) rfl;have q1:=XM (hCr _ _ _ (s1 _ _ _ e1)) rfl;have q2:=XM (hCr _ _ _ (s1 _ _ _ e2)) rfl;have j0:(0:Int)≤(k:Int):=Int.natCast_nonneg _
    have j1:(k:Int)<(h.length:Int):=by omega
    generalize h[k]=x at hrun q0 q1 q2 hxo e0 e1 e2;obtain⟨tx,kx,ix⟩:=x;simp only at q0 q1 q2;obtain⟨s3,hstep,hrun2⟩:=qdk m s _ _ _ _ hrun;have hK3:=hK.step (by omega) hxo hstep;have hx16:1≤tx∧tx≤6:=⟨hxo.1,hxo.2.1⟩;have hrun2:runL m s3 ((k+1:Nat):Int) (h.drop (k+1))=some se:=hrun2;have HRUN2:=(show Hid _ from hrun2);have HST:=(show Hid _ from qaT hstep);have hpush:=hK.push (by omega) hxo;have HPU:=(show Hid _ from hpush);have HXO:=(show Hid _ from hxo);obtain⟨w3,ew3⟩:∃ w3,w3=w7.alloc (.cells #[.int .i64 tx,.int .i64 kx,.int .i64 ix] 44):=⟨_,rfl⟩
    have h3:RunB w1.heap.size (w1.heap.size+1) w3 L1 G s:=by rw[ew3];exact hR.alloc _
    have M3:Mvs L1 L1 w7 w3:=by rw[ew3];exact (Mvs.refl _ _).alloc _
    have n3:w3.heap[w7.heap.size]? = some (.cells #[.int .i64 tx,.int .i64 kx,.int .i64 ix] 44 (0,0)):=by rw[ew3];exact heap_alloc_new _ _
    have hL7:L1 w7.heap.size=0:=hR.hi _ (A8 _)
    have p0:∀ d,({ w3 with drawn:=d }:World).cell? ⟨w7.heap.size,0,none⟩=some (.int .i64 tx):=fun d=>by simp[A6,n3]
    have p13:∀ d,({ w3 with drawn:=d }:World).cell? ⟨w1.heap.size+1,13,none⟩=some G.av:=fun d=>(h3.heap rfl).cell_ab
    have c39:=Try.contains_T (t:=tx) (by have:=hK.ok.abl;have:=hK.ok.tot;omega) h3.drew.ab;have HW3:=(show Hid (w3=_) from ew3);clear ew3 hrun hrun2 hstep e0 e1 e2 hxo hpush
    go_wp2_with fail
    rw[← HW3.out]
    go_still_tail 6,(by kernel_rfl)
    change wpList _ _ _ _ _ w3.drew
    go_wp2_with fail
    refine Calls.mono c39 ?_
    rintro e w4 ⟨rfl,B4⟩
    have M4:Mvs L1 L1 w7 w4:=M3.trans (Mvs.of_below B4).undrew;have h4:=h3.drew.below B4;have n4:w4.heap[w7.heap.size]? = some (.cells #[.int .i64 tx,.int .i64 kx,.int .i64 ix] 44 (0,0)):=(B4.block _ (lt_of_block n3)).trans n3;clear c39 B4 M3 h3 n3 p0 p13 q0 q1 q2;by_cases hab:tx∈s.ab
    ·have hct:s.ab.contains tx=true:=by simpa using hab
     have hse:s3=s:=by
      rcases HST.out with h | h
      ·exact h.2
      ·exact absurd hab h.1
     have HAB:=(show Hid _ from hab);rw[hct];clear hct hab
     go_wp2_with fail
     go_roundg (h.length - (k+1))
     case measure=>omega
     case rel=>exact⟨k+1,s3,L1,G,by go_num,by omega,by rw[hse];exact h4,hK3,hM.trans M4,HRUN2.out⟩
    ·have hct:s.ab.contains tx=false:=by simpa using hab
     have HST2:=(show Hid _ from (HST.out.resolve_left fun h=>hab h.1).2);rw[hct];clear hct hab HST;obtain⟨vL,hlk,hrow⟩:=h4.wt.lookup (by omega:0≤tx) hx16.2;rw[← h4.hwt tx]at hrow;obtain⟨n8,hn8⟩:∃ n8:Nat,n8=(s.wt tx).length:=⟨_,rfl⟩;rw[← hn8]at hrow;obtain⟨la,lc,rfl⟩:=hrow.form
     have p0:∀ d,({ w4 with drawn:=d }:World).cell? ⟨w7.heap.size,0,none⟩=some (.int .i64 tx):=fun d=>by simp[A6,n4]
     have p14:∀ d,({ w4 with drawn:=d }:World).cell? ⟨w1.heap.size+1,14,none⟩=some (.map (some G.gw)):=fun d=>(h4.heap rfl).cell_wt
     have hlk4:=hlk w4.drew h4.wt.at';have HN8:=(show Hid _ from hn8);clear hn8
     go_wp2_with fail
     go_still_tail 9,(by kernel_rfl)
     change wpList _ _ _ _ _ w4.drew
     go_wp2_with fail
     obtain⟨w5,ew5⟩:∃ w5,w5=w4.drew:=⟨_,rfl⟩;rw[← ew5]
     have h5:RunB w1.heap.size (w1.heap.size+1) w5 L1 G s:=by rw[ew5];exact h4.drew
     have M5:Mvs L1 L1 w7 w5:=by rw[ew5];exact M4.drew
     have n5:w5.heap[w7.heap.size]? = some (.cells #[.int .i64 tx,.int .i64 kx,.int .i64 ix] 44 (0,0)):=by rw[ew5];exact n4
     have hrow5:RowT w5 L1 (20+tx.toNat) 104 4 (.slice la n8 lc) n8 (heldC (s.wt tx)):=by rw[ew5];exact hrow
     clear ew5 h4 M4 n4 hrow p0 p14 hlk4;obtain⟨vL,evL⟩:∃ vL,vL=Value.slice la n8 lc:=⟨_,rfl⟩;rw[← evL]at hlk hrow5;have HVL:=(show Hid _ from evL);clear evL;obtain⟨w6,ew6⟩:∃ w6,w6=(w5.alloc (.cells #[.int .i64 tx,.int .i64 kx,.int .i64 ix,.int .i64 (k:Int)] 104)).drew:=⟨_,rfl⟩
     have h6:RunB w1.heap.size (w1.heap.size+1) w6 L1 G s:=by rw[ew6];exact (h5.alloc _).drew
     have M6:Mvs L1 L1 w7 w6:=by rw[ew6];exact (M5.alloc _).drew
     have n6:w6.heap[w7.heap.size]? = some (.cells #[.int .i64 tx,.int .i64 kx,.int .i64 ix] 44 (0,0)):=by rw[ew6];exact (heap_alloc_old w5 _ (lt_of_block n5)).trans n5
     have m6:w6.heap[w5.heap.size]? = some (.cells #[.int .i64 tx,.int .i64 kx,.int .i64 ix,.int .i64 (k:Int)] 104 (0,0)):=by rw[ew6];exact heap_alloc_new w5 _
     have hrow6:RowT w6 L1 (20+tx.toNat) 104 4 vL n8 (heldC (s.wt tx)):=by rw[ew6];exact hrow5.kept (fun k hk _=>heap_alloc_old w5 _ hk) (fun _ _ e=>e)
     have hi6:=h6.hi
     have hnl:n8≤1000000000:=by rw[HN8.out];have:=hK.ok.wlen tx;omega
     have W6:=(show Hid (w6=_) from ew6);have hlk6:=hlk w6 h6.wt.at';have K0:w5.drew.cell? ⟨w1.heap.size+1,14,none⟩=some (.map (some G.gw))∧(Instr.lookup 96 (.map (some G.gw)) (.int .i64 tx) false).run Try.prog w5.drew=.ok vL w5.drew∧w5.drew.cell? ⟨w7.heap.size,0,none⟩=some (.int .i64 tx)∧w5.drew.cell? ⟨w7.heap.size,1,none⟩=some (.int .i64 kx)∧w5.drew.cell? ⟨w7.heap.size,2,none⟩=some (.int .i64 ix):=⟨h5.drew.cell_wt,hlk w5.drew h5.wt.at',by show w5.cell? _=_;simp[A6,n5],by show w5.cell? _=_;simp[A6,n5],by show w5.cell? _=_;simp[A6,n5]⟩;have K6:w6.cell? ⟨w1.heap.size+1,14,none⟩=some (.map (some G.gw))∧(Instr.lookup 96 (.map (some G.gw)) (.int .i64 tx) false).run Try.prog w6=.ok vL w6∧w6.cell? ⟨w7.heap.size,0,none⟩=some (.int .i64 tx)∧w6.cell? ⟨w7.heap.size,1,none⟩=some (.int .i64 kx)∧w6.cell? ⟨w7.heap.size,2,none⟩=some (.int .i64 ix):=⟨h6.cell_wt,hlk6,by simp[A6,n6],by simp[A6,n6],by simp[A6,n6]⟩;rw[ew6]at hrow6 hi6 m6 K6;rw[← HVL.out];clear ew6 hlk6;refine UC (S:=fun w'=>w'.cell? ⟨w1.heap.size+1,14,none⟩=some (.map (some G.gw))∧(Instr.lookup 96 (.map (some G.gw)) (.int .i64 tx) false).run Try.prog w'=.ok vL w'∧w'.cell? ⟨w7.heap.size,0,none⟩=some (.int .i64 tx)∧w'.cell? ⟨w7.heap.size,1,none⟩=some (.int .i64 kx)∧w'.cell? ⟨w7.heap.size,2,none⟩=some (.int .i64 ix)) 18 (by kernel_rfl) K0 (fun hHeld=>?_);refine qQ (i:=0) (v:=.pointer (some ⟨w1.heap.size+1,0,none⟩)) rfl (by kernel_rfl) (fun _ _ _ h=>h) (by kernel_rfl) (fun w' hw'=>?_) hHeld ?_
     ·obtain⟨p0,p1,p2,p3,p4⟩:=hw';go_simp
     simp only[Act.put,A0,A1,A2,A3,A4,A5];refine qQ (i:=1) (v:=.pointer (some ⟨w1.heap.size+1,0,none⟩)) rfl (by kernel_rfl) (fun _ _ _ h=>h) (by kernel_rfl) (fun w' hw'=>?_) hHeld ?_
     ·obtain⟨p0,p1,p2,p3,p4⟩:=hw';go_simp
     simp only[Act.put,A0,A1,A2,A3,A4,A5];refine qQ (i:=2) (v:=.pointer (some ⟨w1.heap.size+1,14,none⟩)) rfl (by kernel_rfl) (fun _ _ _ h=>h) (by kernel_rfl) (fun w' hw'=>?_) hHeld ?_
     ·obtain⟨p0,p1,p2,p3,p4⟩:=hw';go_simp
     simp only[Act.put,A0,A1,A2,A3,A4,A5];refine qQ (i:=3) (v:=.map (some G.gw)) rfl (by kernel_rfl) (fun _ _ _ h=>h) (by kernel_rfl) (fun w' hw'=>?_) hHeld ?_
     ·obtain⟨p0,p1,p2,p3,p4⟩:=hw';go_simp
     simp only[Act.put,A0,A1,A2,A3,A4,A5];refine qQ (i:=4) (v:=.pointer (some ⟨w7.heap.size,0,none⟩)) rfl (by kernel_rfl) (fun _ _ _ h=>h) (by kernel_rfl) (fun w' hw'=>?_) hHeld ?_
     ·obtain⟨p0,p1,p2,p3,p4⟩:=hw';go_simp
     simp only[Act.put,A0,A1,A2,A3,A4,A5];refine qQ (i:=5) (v:=.int .i64 tx) rfl (by kernel_rfl) (fun _ _ _ h=>h) (by kernel_rfl) (fun w' hw'=>?_) hHeld ?_
     ·obtain⟨p0,p1,p2,p3,p4⟩:=hw';go_simp
     simp only[Act.put,A0,A1,A2,A3,A4,A5];refine qQ (i:=6) (v:=.pointer (some ⟨w1.heap.size+1,0,none⟩)) rfl (by kernel_rfl) (fun _ _ _ h=>h) (by kernel_rfl) (fun w' hw'=>?_) hHeld ?_
     ·obtain⟨p0,p1,p2,p3,p4⟩:=hw';go_simp
     simp only[Act.put,A0,A1,A2,A3,A4,A5];refine qQ (i:=7) (v:=.pointer (some ⟨w1.heap.size+1,0,none⟩)) rfl (by kernel_rfl) (fun _ _ _ h=>h) (by kernel_rfl) (fun w' hw'=>?_) hHeld ?_
     ·obtain⟨p0,p1,p2,p3,p4⟩:=hw';go_simp
     simp only[Act.put,A0,A1,A2,A3,A4,A5];refine qQ (i:=8) (v:=.pointer (some ⟨w1.heap.size+1,14,none⟩)) rfl (by kernel_rfl) (fun _ _ _ h=>h) (by kernel_rfl) (fun w' hw'=>?_) hHeld ?_
     ·obtain⟨p0,p1,p2,p3,p4⟩:=hw';go_simp
     simp only[Act.put,A0,A1,A2,A3,A4,A5];refine qQ (i:=9) (v:=.map (some G.gw)) rfl (by kernel_rfl) (fun _ _ _ h=>h) (by kernel_rfl) (fun w' hw'=>?_) hHeld ?_
     ·obtain⟨p0,p1,p2,p3,p4⟩:=hw';go_simp
     simp only[Act.put,A0,A1,A2,A3,A4,A5];refine qQ (i:=10) (v:=.pointer (some ⟨w7.heap.size,0,none⟩)) rfl (by kernel_rfl) (fun _ _ _ h=>h) (by kernel_rfl) (fun w' hw'=>?_) hHeld ?_
     ·obtain⟨p0,p1,p2,p3,p4⟩:=hw';go_simp
     simp only[Act.put,A0,A1,A2,A3,A4,A5];refine qQ (i:=11) (v:=.int .i64 tx) rfl (by kernel_rfl) (fun _ _ _ h=>h) (by kernel_rfl) (fun w' hw'=>?_) hHeld ?_
     ·obtain⟨p0,p1,p2,p3,p4⟩:=hw';go_simp
     simp only[Act.put,A0,A1,A2,A3,A4,A5];refine qQ (i:=12) (v:=vL) rfl (by kernel_rfl) (fun _ _ _ h=>h) (by kernel_rfl) (fun w' hw'=>?_) hHeld ?_
     ·obtain⟨p0,p1,p2,p3,p4⟩:=hw';go_simp
     simp only[Act.put,A0,A1,A2,A3,A4,A5];refine qQ (i:=13) (v:=.agg #[.int .i64 tx,.int .i64 kx,.int .i64 ix]) rfl (by kernel_rfl) (fun _ _ _ h=>h) (by kernel_rfl) (fun w' hw'=>?_) hHeld ?_
     ·obtain⟨p0,p1,p2,p3,p4⟩:=hw';go_simp
     simp only[Act.put,A0,A1,A2,A3,A4,A5];refine qQ (i:=14) (v:=.int .i64 (k:Int)) rfl (by kernel_rfl) (fun _ _ _ h=>h) (by kernel_rfl) (fun w' hw'=>?_) hHeld ?_
     ·obtain⟨p0,p1,p2,p3,p4⟩:=hw';go_simp
     simp only[Act.put,A0,A1,A2,A3,A4,A5];refine qQ (i:=15) (v:=.agg #[.int .i64 tx,.int .i64 kx,.int .i64 ix,.int .i64 (k:Int)]) rfl (by kernel_rfl) (fun _ _ _ h=>h) (by kernel_rfl) (fun w' hw'=>?_) hHeld ?_
     ·obtain⟨p0,p1,p2,p3,p4⟩:=hw';go_simp
     simp only[Act.put,A0,A1,A2,A3,A4,A5];refine Xi (i:=16) (by kernel_rfl) rfl rfl (fun K hK=>?_);rw[if_pos (by kernel_rfl)];go_simp;refine hK.out _ _ K6 (fun hHeld=>?_);clear hK K;refine Xi (i:=17) (by kernel_rfl) rfl rfl (fun K hK=>?_);refine Ui (f:=⟨tx,kx,ix⟩) (k:=(k:Int)) (role:=20+tx.toNat) (by rfl) (.tmp 50) (.tmp 54) (by rfl) (by omega) (by rfl) (by rfl) hrow6 hi6 m6 hnl ?_;intro g9 off9 cap9 w9 L9 r9 g9';rw[← W6.out]at g9';have hb9:∀ k,k<w6.heap.size→L1 k≠20+tx.toNat→w9.heap[k]? = w6.heap[k]?:=g9'.oth;have nb9:w9.heap[w1.heap.size+1]? = some (.cells (Jl G s) 101 (0,0)):=(hb9 _ h6.lt (by rw[h6.lbr];omega)).trans h6.blk;have no9:w9.heap[w7.heap.size]? = some (.cells #[.int .i64 tx,.int .i64 kx,.int .i64 ix] 44 (0,0)):=(hb9 _ (lt_of_block n6) (by rw[hL7];omega)).trans n6;have ng9:w9.heap[G.gw]? = some (.map G.es G.ck):=(hb9 _ h6.wt.lt (by rw[h6.lgw];omega)).trans h6.wt.at';have K9:w9.cell? ⟨w1.heap.size+1,14,none⟩=some (.map (some G.gw))∧(Instr.lookup 96 (.map (some G.gw)) (.int .i64 tx) false).run Try.prog w9=.ok vL w9∧w9.cell? ⟨w7.heap.size,0,none⟩=some (.int .i64 tx)∧w9.cell? ⟨w7.heap.size,1,none⟩=some (.int .i64 kx)∧w9.cell? ⟨w7.heap.size,2,none⟩=some (.int .i64 ix):=⟨by simp[A6,nb9,Jl],hlk w9 ng9,by simp[A6,no9],by simp[A6,no9],by simp[A6,no9]⟩;refine hK.out _ _ K9 (fun hHeld=>?_);clear hK K
     have r9:RowT w9 L9 (20+tx.toNat) 104 4 (.slice (some ⟨g9,off9,none⟩) (n8+1) cap9) (s.wt tx++[((⟨tx,kx,ix⟩:hsOp),(k:Int))]).length (heldC (s.wt tx++[((⟨tx,kx,ix⟩:hsOp),(k:Int))])):=by
      rw[qax,List.length_append,← HN8.out];exact r9
     obtain⟨o10,G10,hup10,hput10⟩:=h6.putW hx16.1 hx16.2 g9' r9;have hup:=hup10 w9 rfl;obtain⟨h10,M10⟩:=hput10 w9 rfl;obtain⟨w10,ew10⟩:∃ w10,w10=setBlock w9 G.gw o10:=⟨_,rfl⟩;rw[← ew10]at h10 M10;have n10:w10.heap[w7.heap.size]? = some (.cells #[.int .i64 tx,.int .i64 kx,.int .i64 ix] 44 (0,0)):=(M10.keep _ (lt_of_block n6) hL7).trans n6;have M10':Mvs L1 L9 w7 w10:=M6.trans M10;have EW10:=(show Hid (w10=_) from ew10);clear ew10;refine UD (by kernel_rfl) rfl (by kernel_rfl) (fun K hK=>?_);rw[if_pos (by kernel_rfl)];go_simp;refine hK _ _ ?_;rw[← EW10.out];clear hK K K0 K6 K9 hHeld no9 nb9 ng9 hb9 hup hup10 hput10 r9 g9' hrow5 hrow6 h5 h6 M5 M6 M10 n5 n6 m6 hi6 hlk
     have p10:w10.cell? ⟨w7.heap.size,0,none⟩=some (.int .i64 tx):=by simp[A6,n10]
     obtain⟨s10,es10⟩:∃ s10:LS,s10=putW s tx (s.wt tx++[((⟨tx,kx,ix⟩:hsOp),(k:Int))]):=⟨_,rfl⟩;rw[← es10]at h10
     have hok10:OkK (k+1) s10:=by rw[es10];exact HPU.out
     rcases Nat.eq_zero_or_pos n8 with hz | hz
     ·have hw0:s.wt tx=[]:=List.eq_nil_of_length_eq_zero (by rw[← HN8.out];exact hz)
      obtain⟨r,hgo,hr2⟩:∃ r,goOnL m s10 tx false=some r∧((r.2=true∧retryL m m r.1=some s3)∨(r.2=false∧s3=r.1)):=by
       rw[es10]
       rcases HST2.out with h | h
       ·exact absurd hw0 h.1
       ·exact h.2
      have c69:=Try.goOn69 h10 hok10.ok (by omega) hx16.1 hx16.2 hgo;have hok11:=OkS.goOn m _ _ _ _ hok10.ok hgo;clear es10 hw0 hgo HN8 hnl;subst hz
      go_wp2_with fail
      refine Calls.mono c69 ?_
      rintro e w11 ⟨rfl,L11,G11,h11,M11⟩
      have M11':Mvs L1 L11 w7 w11:=M10'.trans M11;clear c69 M11 M10' h10 n10 p10;obtain⟨s11,b11⟩:=r
      rcases hr2 with ⟨rfl,hre⟩ | ⟨rfl,hre⟩
      ·have c70:=Try.retry70 h11 hok11 (by omega) hre;clear hre
       go_wp2_with fail
       refine Calls.mono c70 ?_
       rintro e w12 ⟨rfl,⟨L12,G12,h12,M12⟩,_⟩
       have M12':Mvs L1 L12 w7 w12:=M11'.trans M12;clear c70 M12
       go_wp2_with fail
       go_roundg (h.length - (k+1))
       case measure=>omega
       case rel=>exact⟨k+1,s3,L12,G12,by go_num,by omega,h12,hK3,hM.trans M12',HRUN2.out⟩
      ·have HRE:=(show Hid _ from hre);clear hre
       go_wp2_with fail
       go_roundg (h.length - (k+1))
       case measure=>omega
       case rel=>exact⟨k+1,s3,L11,G11,by go_num,by omega,by rw[HRE.out];exact h11,hK3,hM.trans M11',HRUN2.out⟩
     ·have hw0:s.wt tx≠[]:=fun e=>by have:=HN8.out;rw[e]at this;simp at this;omega
      have hs3:s3=s10:=by
       rw[es10]
       rcases HST2.out with h | h
       ·exact h.2
       ·exact absurd h.1 hw0
      have HS3:=(show Hid _ from hs3)
      have hz2:(0:Int)<(n8:Int):=by omega
      have hz3:decide ((0:Int)<(n8:Int))=true:=dT hz2;clear es10 hw0 HN8 hs3
      go_wp2_with fail
      go_roundg (h.length - (k+1))
      case measure=>omega
      case rel=>exact⟨k+1,s3,L9,G10,by go_num,by omega,by rw[HS3.out];exact h10,hK3,hM.trans M10',HRUN2.out⟩
   ·have hke:k=h.length:=by omega
    subst hke;rw[List.drop_length]at hrun;have hse:s=se:=Option.some.inj hrun;subst hse
    have p12:∀ d,({ w7 with drawn:=d }:World).cell? ⟨w1.heap.size+1,12,none⟩=some G.dv:=fun d=>(hR.heap rfl).cell_done
    have p13:∀ d,({ w7 with drawn:=d }:World).cell? ⟨w1.heap.size+1,13,none⟩=some G.av:=fun d=>(hR.heap rfl).cell_ab
    have p12':w7.cell? ⟨w1.heap.size+1,12,none⟩=some G.dv:=p12 _;have p13':w7.cell? ⟨w1.heap.size+1,13,none⟩=some G.av:=p13 _
    have BF:Below w.heap.size w w7:=BB.trans (hM.below (B:=w.heap.size) (by have:=hB1.size;omega) fun k hk=>by
     rcases Nat.lt_or_ge k w1.heap.size with e | e
     ·exact absurd (hlow k e) hk
     ·have:=hB1.size;omega)
    have HRR:=(show Hid _ from hR);clear hrun hR
    go_wp2_with fail
    go_quiet (fail)
    go_wp2_with fail
    go_ret3
    obtain⟨wF,ewF⟩:∃ wF,wF=w7.drewN nq:=⟨_,rfl⟩
    have hRF:RunB w1.heap.size (w1.heap.size+1) wF L1 G s:=by rw[ewF];exact HRR.out.drewN nq
    have BF2:Below w.heap.size w wF:=by rw[ewF];exact⟨BF.os,BF.tape,BF.output,BF.size,BF.block⟩
    have hlo:∀ role,role≠0→∀ k,L1 k=role→w.heap.size≤k:=fun role h0 k hk=>by
     have:=hRF.lo k (by omega);have:=hB1.size;omega
    rw[← HP.out];refine⟨_,mtail M w.heap.size wF,rfl,by rw[← ewF];exact BF2,qdC hC BF2 (A8 _),by rw[← ewF];exact qcu hC BF2,fun b o hb=>Ds hb,?_,trivial⟩;refine .tup (vs:=[G.dv,G.av,.int .i64 0]) rfl (fun j c v hc hv=>?_)
    match j,hc,hv with
    | 0,hc,hv=>cases hc;cases hv;exact hRF.done.opsR (hlo 3 (by decide))
    | 1,hc,hv=>cases hc;cases hv;exact hRF.ab.intsR (hlo 4 (by decide))
    | 2,hc,hv=>cases hc;cases hv;exact .int _ _
end Go.Proofs
namespace Go.AM
open Go.Proofs
theorem qeC (n:Nat) (s:LS) (t:Int) (rel:Bool) {p:hsOp×Int} {rest:List (hsOp×Int)} (hw:s.wt t=p::rest) (hs:¬ Stuck s p.1):goOnL (n+1) s t rel=goOnL n (doL s t p.1 rest) t (rel || decide (1<p.1.qh)):=by
 conv=>lhs;unfold goOnL
 rw[hw];simp only;rw[if_neg hs]
theorem qaF (s:LS) (t:Int) (o:hsOp) (rest:List (hsOp×Int)):(doL s t o rest).wt=fun x=>if x=t then rest else s.wt x:=by
 unfold doL putW;split
 ·unfold takeL;split <;> rfl
 ·rfl
theorem Vs:∀ (n:Nat) (s:LS) (t:Int) (rel:Bool),(s.wt t).length<n→∃ r,goOnL n s t rel=some r
 | 0,_,_,_,h=>by omega
 | n+1,s,t,rel,h=>by
  unfold goOnL
  cases hw:s.wt t with
  | nil=>exact⟨_,rfl⟩
  | cons p rest =>
   simp only;split
   ·split
    ·exact⟨_,rfl⟩
    ·exact⟨_,rfl⟩
   ·refine Vs n _ _ _ ?_;rw[qaF];simp only[if_true];rw[hw]at h;simp at h;omega
theorem qeV {s s':LS} (h:∀ t,(s'.wt t).length≤(s.wt t).length):wtot s'≤wtot s:=by
 have h1:=h 1;have h2:=h 2;have h3:=h 3;have h4:=h 4;have h5:=h 5;have h6:=h 6;unfold wtot;omega
theorem Ha:∀ (n:Nat) (s:LS) (t:Int) (rel:Bool) (r:LS×Bool),goOnL n s t rel=some r→∀ x,(r.1.wt x).length≤(s.wt x).length
 | 0,_,_,_,_,e=>by cases e
 | n+1,s,t,rel,r,e=>by
  rcases Vr n s t rel r e with ⟨_,rfl⟩ | ⟨p,rest,hw,⟨_,_,rfl⟩ | ⟨_,_,rfl⟩ | ⟨_,h⟩⟩
  ·exact fun _=>A8 _
  ·intro x;show (if x=t then ([]:List (hsOp×Int)) else s.wt x).length≤_;split
   ·exact Nat.zero_le _
   ·exact A8 _
  ·exact fun _=>A8 _
  ·intro x;refine Nat.le_trans (Ha n _ _ _ _ h x) ?_;rw[qaF];simp only;split
   ·rename_i hx;rw[hx,hw];simp
   ·exact A8 _
theorem UN {N:Nat} (m:Nat):∀ (n:Nat) (s:LS),OkS N s→N<m→wtot s<n→∃ s2,retryL m n s=some s2
 | 0,_,_,_,h=>by omega
 | n+1,s,hs,hm,h=>by
  unfold retryL;by_cases hb:bestL s=0
  ·rw[if_pos hb];exact⟨_,rfl⟩
  ·rw[if_neg hb];obtain⟨r,hr⟩:=Vs m s (bestL s) false (Nat.lt_of_le_of_lt (hs.wlen _) hm);rw[hr,B9];refine UN m n _ (OkS.goOn m _ _ _ _ hs hr) hm ?_
   have hbest:BestL s (bestL s):=by
    unfold bestL at hb ⊢;split at hb
    ·rename_i h1;rw[dif_pos h1];exact h1.choose_spec
    ·exact absurd rfl hb
   rcases hbest with h1 | ⟨_,⟨p,rest,hw,hst⟩,_⟩
   ·exact absurd h1.1 hb
   ·have hk:=hs.wtk _ (by rw[hw];simp:s.wt (bestL s)≠[]);obtain⟨k,e1,e2⟩:=Vz (s:=s) hk.1 hk.2
    cases m with
    | zero=>cases hr
    | succ m =>
     rw[qeC m s _ _ hw hst]at hr;have h2:=qeV (Ha m _ _ _ _ hr)
     have h3:wtot (doL s (bestL s) p.1 rest)=rest.length+k:=by
      rw[← e2 rest]
      have:(doL s (bestL s) p.1 rest).wt=(putW s (bestL s) rest).wt:=by rw[qaF];rfl
      unfold wtot;rw[this]
     rw[hw]at e1;simp at e1;omega
theorem qcb {k:Nat} {s:LS} {m:Nat} (h:OkK k s) (hk:k+2<m) (hk2:k<1000000) {o:hsOp} (ho:OkOp o):∃ s2,stepL m s o k=some s2:=by
 unfold stepL;split
 ·exact⟨_,rfl⟩
 ·have hp:=h.push hk2 ho;split
  ·exact⟨_,rfl⟩
  ·rename_i hne
   have hne:s.wt o.qb=[]:=by
    cases hw:s.wt o.qb with
    | nil=>rfl
    | cons a b=>rw[hw]at hne;exact absurd (by simp) hne
   rw[hne]at hp;have hp:OkK (k+1) (putW s o.qb [(o,(k:Int))]):=hp;obtain⟨r,hr⟩:=Vs m (putW s o.qb [(o,(k:Int))]) o.qb false (Nat.lt_of_le_of_lt (hp.ok.wlen _) (by omega));rw[hr,B9];split
   ·have hr2:=OkS.goOn m _ _ _ _ hp.ok hr;exact UN m m _ hr2 (by omega) (by have:=hr2.tot;omega)
   ·exact⟨_,rfl⟩
theorem Dj {m:Nat}:∀ (l:List hsOp) (k:Nat) (s:LS),OkK k s→(∀ o,o∈l→OkOp o)→k+l.length+2<m→k+l.length<1000000→∃ s2,runL m s k l=some s2
 | [],k,s,_,_,_,_=>⟨s,rfl⟩
 | o::l,k,s,h,ho,hm,hm2=>by
  simp only[C0]at hm hm2;obtain⟨s1,h1⟩:=qcb (k:=k) (m:=m) h (by omega) (by omega) (ho o (.head _));have h2:=h.step (by omega) (ho o (.head _)) h1;obtain⟨s2,h3⟩:=Dj (m:=m) l (k+1) s1 h2 (fun x hx=>ho x (.tail _ hx)) (by omega) (by omega);refine⟨s2,?_⟩;unfold runL;rw[h1,B9];exact h3
def lkS (l:List hsOp):LS:=l.foldl (fun s o=>if o.qh≤1 then takeL s o else relL s o.qb) LS.zero
theorem Zv (l:List hsOp) (o:hsOp):lkS (l++[o])=if o.qh≤1 then takeL (lkS l) o else relL (lkS l) o.qb:=by
 unfold lkS;rw[List.foldl_append];rfl
theorem qcB {s s':LS} (h1:s.sh=s'.sh) (h2:s.ex=s'.ex) (o:hsOp) (x:Int):hindP s o x↔hindP s' o x:=by
 unfold hindP;rw[h1,h2]
theorem UF {s s':LS} (h1:s.sh=s'.sh) (h2:s.ex=s'.ex) (o:hsOp):(takeL s o).sh=(takeL s' o).sh∧(takeL s o).ex=(takeL s' o).ex:=by
 unfold takeL;split
 ·exact⟨h1,by simp only[h2]⟩
 ·exact⟨by simp only[h1],h2⟩
theorem YS {s s':LS} (h1:s.sh=s'.sh) (h2:s.ex=s'.ex) (t:Int):(relL s t).sh=(relL s' t).sh∧(relL s t).ex=(relL s' t).ex:=by
 unfold relL;exact⟨by simp only[h1],by simp only[h2]⟩
def Good (l:List hsOp):Prop:=∀ p o q,l=p++o::q→o.qh≤1→∀ x,¬ hindP (lkS p) o x
theorem Good.nil:Good []:=fun p o q h=>by simp at h
theorem NB {α:Type} {l p q:List α} {o x:α} (h:l++[o]=p++x::q):(q=[]∧p=l∧x=o)∨∃ q',q=q'++[o]∧l=p++x::q':=by
 rcases List.eq_nil_or_concat q with rfl | ⟨q',y,rfl⟩
 ·have:=List.append_inj' h (by simp);exact .inl ⟨rfl,this.1.symm,by simpa using this.2.symm⟩
 ·rw[List.concat_eq_append]at h ⊢
  have h2:l++[o]=(p++x::q')++[y]:=by rw[h];simp
  have:=List.append_inj' h2 (by simp)
  have e:o=y:=by simpa using this.2
  exact .inr ⟨q',by rw[e],this.1⟩
theorem Good.snoc {l:List hsOp} (h:Good l) {o:hsOp} (ho:o.qh≤1→∀ x,¬ hindP (lkS l) o x):Good (l++[o]):=by
 intro p x q e
 rcases NB e with ⟨_,rfl,rfl⟩ | ⟨q',_,e2⟩
 ·exact ho
 ·exact h p x q' e2
structure InvL (s:LS):Prop where
 sh:s.sh=(lkS s.done).sh
 ex:s.ex=(lkS s.done).ex
 good:Good s.done
theorem VV (s:LS) (t:Int) (o:hsOp) (rest:List (hsOp×Int)):(doL s t o rest).done=s.done++[o]:=rfl
theorem qft (s:LS) (t:Int) (o:hsOp) (rest:List (hsOp×Int)):(doL s t o rest).ab=s.ab:=by
 unfold doL putW;split
 ·unfold takeL;split <;> rfl
 ·rfl
theorem InvL.doL {s:LS} (h:InvL s) {t:Int} {o:hsOp} {rest:List (hsOp×Int)} (ht:o.qb=t) (hs:¬ Stuck s o):InvL (doL s t o rest):=by
 have hsh:(Go.AM.doL s t o rest).sh=(if o.qh≤1 then takeL s o else relL s t).sh:=rfl;have hex:(Go.AM.doL s t o rest).ex=(if o.qh≤1 then takeL s o else relL s t).ex:=rfl;refine⟨?_,?_,?_⟩
 ·rw[hsh,VV,Zv];split
  ·exact (UF h.sh h.ex o).1
  ·rw[ht];exact (YS h.sh h.ex t).1
 ·rw[hex,VV,Zv];split
  ·exact (UF h.sh h.ex o).2
  ·rw[ht];exact (YS h.sh h.ex t).2
 ·rw[VV]
  refine h.good.snoc fun hk x hx=>hs ⟨hk,x,?_⟩
  exact (qcB h.sh h.ex o x).2 hx
theorem InvL.abortL {s:LS} (h:InvL s) (t:Int):InvL (abortL s t):=by
 have hd:(Go.AM.abortL s t).done=s.done++[⟨t,3,0⟩]:=rfl
 have hk:¬ (⟨t,3,0⟩:hsOp).qh≤1:=by show ¬ (3:Int)≤1;omega
 refine⟨?_,?_,?_⟩
 ·rw[hd,Zv,if_neg hk];exact (YS h.sh h.ex t).1
 ·rw[hd,Zv,if_neg hk];exact (YS h.sh h.ex t).2
 ·rw[hd]
  exact h.good.snoc fun hk2=>absurd hk2 hk
def ofT (t:Int) (l:List hsOp):List hsOp:=l.filter fun o=>o.qb == t
theorem Yf (t:Int) (l m:List hsOp):ofT t (l++m)=ofT t l++ofT t m:=List.filter_append ..
theorem Np (t:Int) (o:hsOp):ofT t [o]=if o.qb=t then [o] else []:=by
 unfold ofT;by_cases h:o.qb=t
 ·simp[h]
 ·simp[h]
def JT (pre:List hsOp) (s:LS) (t:Int):Prop:=(t ∉ s.ab∧ofT t pre=ofT t s.done++(s.wt t).map Prod.fst)∨(t∈s.ab∧s.wt t=[]∧∃ D w E,ofT t s.done=D++[⟨t,3,0⟩]∧ofT t pre=D++w::E)
def JJ (pre:List hsOp) (s:LS):Prop:=∀ t,JT pre s t
theorem JJ.doL {pre:List hsOp} {s:LS} (h:JJ pre s) {t:Int} {p:hsOp×Int} {rest:List (hsOp×Int)} (hw:s.wt t=p::rest) (ht:p.1.qb=t):JJ pre (doL s t p.1 rest):=by
 intro x;have hx:=h x;unfold JT;rw[qft,VV,qaF,Yf,Np,ht];by_cases e:x=t
 ·subst e;simp only[if_true]
  rcases hx with ⟨h1,h2⟩ | ⟨h1,h2,_⟩
  ·exact .inl ⟨h1,by rw[h2,hw];simp⟩
  ·rw[hw]at h2;cases h2
 ·simp only[if_neg e,if_neg (Ne.symm e),B0];exact hx
theorem JJ.abortL {pre:List hsOp} {s:LS} (h:JJ pre s) {t:Int} {p:hsOp×Int} {rest:List (hsOp×Int)} (hw:s.wt t=p::rest):JJ pre (abortL s t):=by
 intro x;have hx:=h x;have hd:(Go.AM.abortL s t).done=s.done++[⟨t,3,0⟩]:=rfl;have hab:(Go.AM.abortL s t).ab=s.ab++[t]:=rfl
 have hwt:(Go.AM.abortL s t).wt=fun y=>if y=t then [] else s.wt y:=rfl
 unfold JT;rw[hd,hab,hwt,Yf,Np];by_cases e:x=t
 ·subst e;simp only[if_true]
  rcases hx with ⟨h1,h2⟩ | ⟨h1,h2,_⟩
  ·refine .inr ⟨by simp,trivial,ofT x s.done,p.1,rest.map Prod.fst,rfl,?_⟩;rw[h2,hw];rfl
  ·rw[hw]at h2;cases h2
 ·simp only[if_neg e];rw[if_neg (show ¬ (⟨t,3,0⟩:hsOp).qb=x from fun e2=>e e2.symm),B0]
  have hm:x∈s.ab++[t]↔x∈s.ab:=by simp[e]
  rw[hm];exact hx
theorem Uw {N:Nat} {pre:List hsOp}:∀ (n:Nat) (s:LS) (t:Int) (rel:Bool) (r:LS×Bool),OkS N s→InvL s→JJ pre s→goOnL n s t rel=some r→InvL r.1∧JJ pre r.1
 | 0,_,_,_,_,_,_,_,e=>by cases e
 | n+1,s,t,rel,r,hs,hi,hj,e=>by
  rcases Vr n s t rel r e with ⟨_,rfl⟩ | ⟨p,rest,hw,⟨_,_,rfl⟩ | ⟨_,_,rfl⟩ | ⟨hst,h⟩⟩
  ·exact⟨hi,hj⟩
  ·exact⟨hi.abortL t,hj.abortL hw⟩
  ·exact⟨hi,hj⟩
  ·have hp:=hs.wto t p (by rw[hw];exact .head _);exact Uw n _ _ _ _ (hs.doL hw) (hi.doL hp.2.1 hst) (hj.doL hw hp.2.1) h
theorem NI {N:Nat} {pre:List hsOp} (m:Nat):∀ (n:Nat) (s s2:LS),OkS N s→InvL s→JJ pre s→retryL m n s=some s2→InvL s2∧JJ pre s2
 | 0,_,_,_,_,_,e=>by cases e
 | n+1,s,s2,hs,hi,hj,e=>by
  rcases UM m n s s2 e with ⟨_,rfl⟩ | ⟨_,r,h1,h2⟩
  ·exact⟨hi,hj⟩
  ·obtain⟨a,b⟩:=Uw m _ _ _ _ hs hi hj h1;exact NI m n _ _ (OkS.goOn m _ _ _ _ hs h1) a b h2
theorem JJ.push {pre:List hsOp} {s:LS} (h:JJ pre s) {o:hsOp} {i:Int} (hn:o.qb ∉ s.ab):JJ (pre++[o]) (putW s o.qb (s.wt o.qb++[(o,i)])):=by
 intro x;have hx:=h x;have hd:(putW s o.qb (s.wt o.qb++[(o,i)])).done=s.done:=rfl;have hab:(putW s o.qb (s.wt o.qb++[(o,i)])).ab=s.ab:=rfl
 have hwt:(putW s o.qb (s.wt o.qb++[(o,i)])).wt=fun y=>if y=o.qb then s.wt o.qb++[(o,i)] else s.wt y:=rfl
 unfold JT;rw[hd,hab,hwt,Yf,Np];by_cases e:x=o.qb
 ·subst e;simp only[if_true]
  rcases hx with ⟨h1,h2⟩ | ⟨h1,_⟩
  ·exact .inl ⟨h1,by rw[h2];simp⟩
  ·exact absurd h1 hn
 ·simp only[if_neg e,if_neg (Ne.symm e),B0];exact hx
theorem JJ.skip {pre:List hsOp} {s:LS} (h:JJ pre s) {o:hsOp} (hn:o.qb∈s.ab):JJ (pre++[o]) s:=by
 intro x;have hx:=h x;unfold JT;rw[Yf,Np];by_cases e:o.qb=x
 ·subst e;simp only[if_true]
  rcases hx with ⟨h1,_⟩ | ⟨h1,h2,D,w,E,h3,h4⟩
  ·exact absurd hn h1
  ·exact .inr ⟨h1,h2,D,w,E++[o],h3,by rw[h4];simp⟩
 ·simp only[if_neg e,B0];exact hx
theorem qbk {s:LS} (h:InvL s) (t:Int) (l:List (hsOp×Int)):InvL (putW s t l):=⟨h.sh,h.ex,h.good⟩
theorem qdg {k:Nat} {pre:List hsOp} {s s2:LS} {m:Nat} (h:OkK k s) (hk:k<1000000) (hi:InvL s) (hj:JJ pre s) {o:hsOp} (ho:OkOp o) (e:stepL m s o k=some s2):InvL s2∧JJ (pre++[o]) s2:=by
 unfold stepL at e;split at e
 ·rename_i h1;cases e;exact⟨hi,hj.skip h1⟩
 ·rename_i h1;have hp:=h.push hk ho;have hj2:=hj.push (i:=(k:Int)) h1;split at e
  ·cases e;exact⟨qbk hi _ _,hj2⟩
  ·rename_i hne
   have hne:s.wt o.qb=[]:=by
    cases hw:s.wt o.qb with
    | nil=>rfl
    | cons a b=>rw[hw]at hne;exact absurd (by simp) hne
   rw[hne]at hp hj2;obtain⟨r,h3,h4⟩:=qj e;obtain⟨a,b⟩:=Uw m _ _ _ _ hp.ok (qbk hi _ _) hj2 h3;split at h4
   ·exact NI m m _ _ (OkS.goOn m _ _ _ _ hp.ok h3) a b h4
   ·cases h4;exact⟨a,b⟩
theorem qbc {m:Nat}:∀ (l:List hsOp) (k:Nat) (pre:List hsOp) (s s2:LS),OkK k s→InvL s→JJ pre s→(∀ o,o∈l→OkOp o)→k+l.length<1000000→runL m s k l=some s2→OkK (k+l.length) s2∧InvL s2∧JJ (pre++l) s2
 | [],k,pre,s,s2,h,hi,hj,_,_,e=>by
  cases e;exact⟨h,hi,by rw[B0];exact hj⟩
 | o::l,k,pre,s,s2,h,hi,hj,ho,hk,e=>by
  simp only[C0]at hk;obtain⟨s1,h1,h2⟩:=qj (show ((stepL m s o k).bind fun s'=>runL m s' ((k:Int)+1) l)=some s2 from e);have hs1:=h.step (by omega) (ho o (.head _)) h1;obtain⟨a,b⟩:=qdg h (by omega) hi hj (ho o (.head _)) h1;obtain⟨c1,c2,c3⟩:=qbc l (k+1) (pre++[o]) s1 s2 hs1 a b (fun x hx=>ho x (.tail _ hx)) (by omega) h2;refine⟨?_,c2,by rw[List.append_assoc]at c3;exact c3⟩;rw[C0,show k+(l.length+1)=k+1+l.length by omega];exact c1
theorem JJ.zero:JJ [] LS.zero:=fun t=>.inl ⟨by simp[LS.zero],rfl⟩
theorem InvL.zero:InvL LS.zero:=⟨rfl,rfl,Good.nil⟩
end Go.AM
namespace Go.AM
variable {P:Program} {n:Nat} {α:Type} {enc:α→AV}
def Flat (enc:α→AV):Prop:=∀ x,(enc x).one=true∧(enc x).strip=enc x∧(enc x).cells=[enc x]
theorem XX:Flat AV.bool:=fun _=>⟨rfl,rfl,rfl⟩
theorem Flat.all (h:Flat enc) (l:List α):(l.map enc).all AV.one=true:=by
 rw[List.all_map,List.all_eq_true]
 exact fun x _=>(h x).1
theorem Flat.strips (h:Flat enc) (l:List α):(l.map enc).map AV.strip=l.map enc:=by
 rw[List.map_map]
 exact List.map_congr_left fun x _=>(h x).2.1
def cutS (P:Program) (t:TypeId):Bool:=match tSize P t with
 | some sz=>A9 sz 1 && !tAgg P t && (P.underlying t).isSome
 | none=>false
def cutW (P:Program) (t:TypeId) (sz:Nat):Bool:=match tSize P t with
 | some s=>A9 s sz && tAgg P t && (P.underlying t).isSome
 | none=>false
theorem qfu {t:TypeId} {l:List α} {off:Nat} {e:α} (hF:Flat enc) (hc:cutS P t=true) (h:l[off]? = some e):cut P t (l.map enc) off=some (enc e):=by
 unfold cutS at hc;split at hc
 ·rename_i sz hs;simp only[B5,C2]at hc;obtain⟨⟨h1,h2⟩,h3⟩:=hc;obtain rfl:=B6 h1;have hlt:=(List.getElem?_eq_some_iff.1 h).1;unfold cut;rw[hs];have e1:Nat.ble (off+1) (l.map enc).length=true:=B7 (by rw[A7];exact hlt)
  have e2:(l.map enc)[off]? = some (enc e):=by rw[List.getElem?_map,h];rfl
  simp only[e1,h3,h2,e2,(hF e).1,Bool.and_self]
 ·cases hc
theorem qeK {t sz:Nat} {l:List α} {off:Nat} (hF:Flat enc) (hc:cutW P t sz=true) (h:off+sz≤l.length):cut P t (l.map enc) off=some (.agg (((l.drop off).take sz).map enc)):=by
 unfold cutW at hc;split at hc
 ·rename_i s hs;simp only[B5]at hc;obtain⟨⟨h1,h2⟩,h3⟩:=hc;obtain rfl:=B6 h1;unfold cut;rw[hs];have e1:Nat.ble (off+s) (l.map enc).length=true:=B7 (by rw[A7];exact h);simp only[e1,h3,h2,Bool.and_self];rw[← List.map_drop,← List.map_take,hF.strips]
 ·cases hc
theorem DM {t sz:Nat} {l:List α} (hF:Flat enc) (hc:cutW P t sz=true) (h:l.length=sz):cut P t (l.map enc) 0=some (.agg (l.map enc)):=by
 rw[qeK hF hc (by omega),List.drop_zero,List.take_of_length_le (by omega)]
def setPre (P:Program) (all:List Oper) (o:Oper) (env:Env):Option (Nat×Nat×AV×List AV×Nat) :=
 match awanted all o env with
 | some true=>match o.op with
  | .store t p x=>match o.dst,aop env p,aop env x,tSize P t with
   | none,some (.pb s off),some v,some sz=>match look env s with
    | some (.hob 3 [] cs)=>some (s,off,v,cs,sz)
    | _=>none
   | _,_,_,_=>none
  | _=>none
 | _=>none
theorem UI {all:List Oper} {o:Oper} {env:Env} {s off:Nat} {v:AV} {cs:List AV} {sz:Nat} (h:setPre P all o env=some (s,off,v,cs,sz)):awanted all o env=some true∧isEff o.op=true∧isApp o.op=false∧look env s=some (.hob 3 [] cs) ∧
  (v.one=true→v.cells.length=sz→astep P n o env=putCell s env off v)∧(∀ c2,v=.agg c2→c2.length=sz→astep P n o env=putRow s env off c2):=by
 unfold setPre at h
 split at h <;> try cases h
 rename_i hw
 split at h <;> try cases h
 rename_i t p x ho
 split at h <;> try cases h
 rename_i hd hp hx hs
 split at h <;> try cases h
 rename_i hl;refine⟨hw,by rw[ho];rfl,by rw[ho];rfl,hl,fun h1 hc=>?_,fun c2 hv hc=>?_⟩
 ·unfold astep;rw[ho];simp only[hd,hp,hx,hs]
  have:A9 v.cells.length sz=true:=by rw[hc];exact Nat.beq_refl _
  simp only[this]
  cases v <;> first | (simp only[hl];done) | cases h1
 ·subst hv;unfold astep;rw[ho];simp only[hd,hp,hx,hs]
  have:A9 (AV.agg c2).cells.length sz=true:=by show A9 c2.length sz=true;rw[hc];exact Nat.beq_refl _
  simp only[this]
theorem WO.eff {draw:Bool} {all ops:List Oper} {Q:Env→Prop} {en e1:Env} {o:Oper} (hw:awanted all o en=some true) (hei:isEff o.op=true) (hap:isApp o.op=false) (hst:astep P n o en=some e1) (h:WO P n draw all ops Q e1):WO P n draw all (o::ops) Q en:=by
 refine WO.step (e1:=e1) ?_ h;unfold step1;rw[hw]
 cases draw with
 | true =>
  refine Xt (YV hap) ?_;unfold astepD;simp only[hei,hst]
 | false=>exact hst
theorem WO.setA {draw:Bool} {all ops:List Oper} {Q:Env→Prop} {env e1:Env} {s off:Nat} {l:List α} {x:α} (k:Nat) (hF:Flat enc) (hlt:decide (off<l.length)=true) (h:WO P n draw all (ops.drop (k+1)) Q e1)
  (hp:stepsE P n draw all k ops env (fun os e=>match os with | o::_=>setPre P all o e | []=>none)=some (s,off,enc x,l.map enc,1):=by kernel_rfl)
  (hs:stepsE P n draw all k ops env (fun os en=>some (ins s (.hob 3 [] ((l.set off x).map enc)) en))=some e1:=by kernel_rfl):WO P n draw all ops Q env:=by
 obtain⟨en,h1,h2⟩:=qU hp;obtain⟨en',h3,h4⟩:=qU hs;rw[h1]at h3;cases h3;cases h4;refine WO.steps k h1 ?_
 cases hos:ops.drop k with
 | nil=>rw[hos]at h2;cases h2
 | cons o rest =>
  rw[hos]at h2;rw[QX hos]at h;obtain⟨a1,a2,a3,a4,a5,_⟩:=UI (n:=n) h2;refine WO.eff a1 a2 a3 ?_ h;have hone:=(hF x).1;rw[a5 hone (by rw[(hF x).2.2];rfl)];unfold putCell;have:Nat.blt off (l.map enc).length=true:=B7 (by rw[A7];exact of_decide_eq_true hlt);simp only[hone,a4,this];rw[List.map_set,(hF x).2.1]
theorem WO.storeA {draw:Bool} {all ops:List Oper} {Q:Env→Prop} {env e1:Env} {s sz:Nat} {l l':List α} (k:Nat) (hF:Flat enc) (hl:decide (l.length=sz∧l'.length=sz)=true) (h:WO P n draw all (ops.drop (k+1)) Q e1)
  (hp:stepsE P n draw all k ops env (fun os e=>match os with | o::_=>setPre P all o e | []=>none)=some (s,0,.agg (l.map enc),l'.map enc,sz):=by kernel_rfl)
  (hs:stepsE P n draw all k ops env (fun os en=>some (ins s (.hob 3 [] (l.map enc)) en))=some e1:=by kernel_rfl):WO P n draw all ops Q env:=by
 obtain⟨en,h1,h2⟩:=qU hp;obtain⟨en',h3,h4⟩:=qU hs;rw[h1]at h3;cases h3;cases h4;obtain⟨hl1,hl2⟩:=of_decide_eq_true hl;refine WO.steps k h1 ?_
 cases hos:ops.drop k with
 | nil=>rw[hos]at h2;cases h2
 | cons o rest =>
  rw[hos]at h2;rw[QX hos]at h;obtain⟨a1,a2,a3,a4,_,a5⟩:=UI (n:=n) h2;refine WO.eff a1 a2 a3 ?_ h;rw[a5 _ rfl (by rw[A7];exact hl1)];unfold putRow;have:Nat.ble (0+(l.map enc).length) (l'.map enc).length=true:=B7 (by rw[A7,A7];omega);simp only[hF.all,a4,this];rw[hF.strips,List.take_zero,List.drop_eq_nil_of_le (by rw[A7,A7];omega),List.nil_append,B0]
def boxPre (all:List Oper) (o:Oper) (env:Env):Option (Nat×AV) :=
 match awanted all o env with
 | some true=>match o.op with
  | .box t x=>match o.dst,aop env x with
   | some d,some v=>match clearOf d env with
    | true=>some (d,v)
    | false=>none
   | _,_=>none
  | _=>none
 | _=>none
theorem DF {d:Nat}:∀ {en:Env},clearOf d en=true→forget d en=en
 | [],_=>rfl
 | (t,y)::r,h=>by
  simp only[clearOf,List.all_cons,B5,C2]at h;have ih:=DF (en:=r) (d:=d) (by simpa[clearOf] using h.2);unfold forget at ih ⊢
  have hk:killRef d y=y:=by unfold killRef;rw[h.1.2]
  rw[C4 (by simp[h.1.1]),List.map_cons,ih,hk]
theorem Hc {d:Nat} {x:AV}:∀ {en:Env},clearOf d en=true→forget d (ins d x en)=en
 | [],_=>by simp[forget,ins]
 | (t,y)::r,h=>by
  have h0:=h;simp only[clearOf,List.all_cons,B5,C2]at h;have ih:=Hc (x:=x) (en:=r) (d:=d) (by simpa[clearOf] using h.2)
  have hk:killRef d y=y:=by unfold killRef;rw[h.1.2]
  simp only[ins];split
  ·unfold forget at ih ⊢;rw[C4 (by simp[h.1.1]),List.map_cons,ih,hk]
  ·simp only[h.1.1];have:=DF h0;unfold forget at this ⊢;rw[List.filter_cons_of_neg (by simp)];exact this
theorem qcV {d:Nat} {x:AV} {p:Nat×AV}:∀ {en:Env},p∈ins d x en→p=(d,x)∨p∈en
 | [],h=>by simpa[ins] using h
 | (t,y)::r,h=>by
  simp only[ins]at h;split at h
  ·rcases List.mem_cons.1 h with h | h
   ·exact .inr (by rw[h];exact List.mem_cons_self ..)
   ·exact (qcV h).imp id (C5 _)
  ·split at h
   ·rcases List.mem_cons.1 h with h | h
    ·exact .inl h
    ·exact .inr (C5 _ h)
   ·rcases List.mem_cons.1 h with h | h
    ·exact .inl h
    ·exact .inr h
theorem Ve {d:Nat} {x:AV}:∀ {en:Env},look (ins d x en) d=some x
 | []=>by simp[ins,look]
 | (t,y)::r=>by
  have ih:=Ve (x:=x) (en:=r) (d:=d);simp only[ins];split
  ·rename_i hb;have:t<d:=Nat.le_of_ble_eq_true hb
   have h2:A9 t d=false:=by rw[Bool.eq_false_iff];intro hh;have:=B6 hh;omega
   simp only[look,h2];exact ih
  ·split <;> simp[look]
theorem qeG {d:Nat} {x y:AV} {en:Env} (h:(eput n (some d) x en).isSome=true):eput n (some d) y en=some (ins d y en):=by
 unfold eput at h ⊢;simp only at h ⊢;split at h
 ·rfl
 ·cases h
theorem WO.boxA {all ops:List Oper} {Q:Env→Prop} {env e1:Env} {d:Nat} {l:List α} (k:Nat) (hF:Flat enc) (hl:(!l.isEmpty)=true) (h:WO P n false all (ops.drop (k+1)) Q e1)
  (hp:stepsE P n false all k ops env (fun os e=>match os with | o::_=>boxPre all o e | []=>none)=some (d,.agg (l.map enc)):=by kernel_rfl)
  (hs:stepsE P n false all k ops env (fun os en=>match (eput n (some d) .und en).isSome,clearOf (1000000+d) en && Nat.blt d 1000000 with
   | true,true=>some (ins d (.pb (1000000+d) 0) (ins (1000000+d) (.hob 3 [] (l.map enc)) en))
   | _,_=>none)=some e1:=by kernel_rfl):WO P n false all ops Q env:=by
 obtain⟨en,h1,h2⟩:=qU hp;obtain⟨en',h3,h4⟩:=qU hs;rw[h1]at h3;cases h3;refine WO.steps k h1 ?_
 cases hos:ops.drop k with
 | nil=>rw[hos]at h2;cases h2
 | cons o rest =>
  rw[hos]at h2;rw[QX hos]at h;simp only[boxPre]at h2
  split at h2 <;> try cases h2
  rename_i hw
  split at h2 <;> try cases h2
  rename_i t x ho
  split at h2 <;> try cases h2
  rename_i hd hx
  split at h2 <;> try cases h2
  rename_i hcl
  split at h4 <;> try cases h4
  rename_i hb hc;refine WO.eff (e1:=ins d (.box (l.map enc)) en) hw (by rw[ho];rfl) (by rw[ho];rfl) ?_ (WO.mv [.arr d] ?_ h)
  ·unfold astep;rw[ho];simp only[hd,hx]
   have hne:(l.map enc).isEmpty=false:=by
    cases l with
    | nil=>cases hl
    | cons=>rfl
   have e1':(AV.agg (l.map enc)).cells=l.map enc:=rfl;rw[e1',hcl,hF.all,hne,hF.strips];show eput n (some d) _ en=_;exact qeG hb
  ·show arrBox (ins d (.box (l.map enc)) en) d=_;unfold arrBox
   have hc2:(clearOf (1000000+d) (ins d (.box (l.map enc)) en) && Nat.blt d 1000000)=true:=by
    simp only[B5]at hc ⊢;refine⟨?_,hc.2⟩;unfold clearOf;rw[List.all_eq_true];intro p hp
    rcases qcV hp with rfl | hp
    ·have:A9 d (1000000+d)=false:=by rw[Bool.eq_false_iff];intro hh;have:=B6 hh;omega
     simp[this,AV.refs]
    ·have:=hc.1;unfold clearOf at this;exact List.all_eq_true.1 this p hp
   rw[Ve,hc2];simp only;rw[Hc hcl,hF.strips]
theorem WO.one {all ops:List Oper} {Q:Env→Prop} {en e1:Env} {o:Oper} (hw:awanted all o en=some true) (hst:astep P n o en=some e1) (h:WO P n false all ops Q e1):WO P n false all (o::ops) Q en:=by
 refine WO.step (e1:=e1) ?_ h;unfold step1;rw[hw];exact hst
end Go.AM
namespace Go.AM
def edgeB (es:List (ql×Bool)) (a b:Int):Bool:=mget qB false ⟨a,b⟩ es
end Go.AM
namespace Go.Proofs
open Go.RowKit Go.AM
structure FB (w:World) (bf:Nat) (w':World):Prop where
 os:w'.os=w.os
 tape:w'.tape=w.tape
 output:w'.output=w.output
 size:w.heap.size≤w'.heap.size
 block:∀ k,k<w.heap.size→k≠bf→w'.heap[k]? = w.heap[k]?
 box:∃ fv,w'.heap[bf]? = some (.cells #[fv] 24 (0,0))
theorem FB.cons {M:Mem} {w w1:World} {bf:Nat} (h:FB w bf w1) (hC:Cons M w) (hf:∀ o,M bf o=none):Cons M w1 :=
 hC.of_blocks fun b o u hu hb=>h.block b hb fun e=>by rw[e,hf]at hu;cases hu
end Go.Proofs
namespace Go.AM
open Go.Proofs
def l24 (c:Option Nat) (l:List (List Int)):AV:=.lst 24 1 c (List.map (encL 3 1 (AV.int .i64)) l)
end Go.AM
