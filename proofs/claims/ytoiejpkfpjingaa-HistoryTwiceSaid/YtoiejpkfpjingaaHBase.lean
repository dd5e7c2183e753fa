import Derived.Test.YtoiejpkfpjingaaELkL
import Derived.Test.YtoiejpkfpjingaaASimJ
import Derived.Test.YtoiejpkfpjingaaELkA
import Derived.Laws.EntriesVeiled
import Derived.Test.YtoiejpkfpjingaaChecked
import Derived.Test.YtoiejpkfpjingaaKAT
import Derived.Test.YtoiejpkfpjingaaHA1
import Derived.Test.YtoiejpkfpjingaaRows
import Derived.ProofKit
import Derived.OpenShut
set_option linter.all false
set_option maxRecDepth 100000
open List renaming getElem_toArray→A0, getElem_cons_succ→A1, getElem_cons_zero→A2, setIfInBounds_toArray→A3, set_cons_zero→A4, set_cons_succ→A5, length_map→A8, append_nil→B5, length_append→C0, length_cons→C2, append_assoc→C4, map_cons→C5, map_map→C7, nil_append→C8, length_singleton→C9, take_of_length_le→D0
open Go.World renaming cell?→A6
open Option renaming bind_some→A7
open Nat renaming le_refl→A9, le_of_ble_eq_true→B6, ble_eq_true_of_le→B9
open Bool renaming and_eq_true→B0, or_eq_false_iff→C6
open Prod renaming fst→B7
namespace Go.Proofs
open Go.RowKit Go.AM
open Go.ChangeMaps (setBlock)
theorem qah (m:Nat) (s:LS) (i:Int) (o:hsOp) (l:List hsOp) (s2:LS) (h:runL m s i (o::l)=some s2):∃ s',stepL m s o i=some s'∧runL m s' (i+1) l=some s2:=ql h
theorem NT {m:Nat} {s s':LS} {o:hsOp} {i:Int} (h:stepL m s o i=some s'):(o.qb∈s.ab∧s'=s)∨(o.qb ∉ s.ab∧((s.wt o.qb≠[]∧s'=putW s o.qb (s.wt o.qb++[(o,i)]))∨(s.wt o.qb=[]∧∃ r,goOnL m (putW s o.qb (s.wt o.qb++[(o,i)])) o.qb false=some r∧((r.2=true∧retryL m m r.1=some s')∨(r.2=false∧s'=r.1))))):=by
 unfold stepL at h;split at h
 ·rename_i h1;exact .inl ⟨h1,(Option.some.inj h).symm⟩
 ·rename_i h1;refine .inr ⟨h1,?_⟩;split at h
  ·rename_i h2;exact .inl ⟨h2,(Option.some.inj h).symm⟩
  ·rename_i h2
   have hne:s.wt o.qb=[]:=by
    cases hw:s.wt o.qb with
    | nil=>rfl
    | cons a b=>rw[hw]at h2;exact absurd (by simp) h2
   obtain⟨r,h3,h4⟩:=ql h;refine .inr ⟨hne,r,by rw[hne];exact h3,?_⟩;split at h4
   ·rename_i h5;exact .inl ⟨h5,h4⟩
   ·rename_i h5;exact .inr ⟨by simpa using h5,(Option.some.inj h4).symm⟩
set_option maxHeartbeats 8000000 in
theorem Try.lock32 {m:Nat} {h:List hsOp} {r:List hsOp×List Int×Int} (hp:lockP m h=some r):CallOk Try.prog 32 [l44 none h] (.tup [l44 none r.1,.lst 3 1 none (cL r.2.1),.int .i64 r.2.2]):=by
 intro M w vs hG hC hl hR
 obtain⟨v0,rfl⟩:∃ v0,vs=[v0]:=by
  match vs,hl with
  | [v0],_=>exact⟨v0,rfl⟩
 have r0:R M (l44 none h) v0:=hR 0 _ v0 rfl rfl;clear hR hl hG;show Calls Try.prog 32 [v0].toArray w (qaO M w (.tup [l44 none r.1,.lst 3 1 none (cL r.2.1),.int .i64 r.2.2]));unfold lockP at hp;obtain⟨ok,hv,hp⟩:=ql hp;have mixed:=mixedP;have t3:=Try.underlying3;have a3:=Try.isAgg3;have z3:=Try.sizeOf3;have v3:=Try.zeroValue3;have u3:=run_underlying Try.underlying3;have t4:=Try.underlying4;have a4:=Try.isAgg4;have z4:=Try.sizeOf4;have v4:=Try.zeroValue4;have t24:=Try.underlying24;have a24:=Try.isAgg24;have z24:=Try.sizeOf24;have v24:=Try.zeroValue24;have u24:=run_underlying Try.underlying24;have t29:=Try.underlying29;have a29:=Try.isAgg29;have z29:=Try.sizeOf29;have v29:=Try.zeroValue29;have u29:=run_underlying Try.underlying29;have t44:=Try.underlying44;have a44:=Try.isAgg44;have z44:=Try.sizeOf44;have v44:=Try.zeroValue44;have u44:=run_underlying Try.underlying44;have t83:=Try.underlying83;have a83:=Try.isAgg83;have z83:=Try.sizeOf83;have v83:=Try.zeroValue83;have u83:=run_underlying Try.underlying83;have t88:=Try.underlying88;have a88:=Try.isAgg88;have z88:=Try.sizeOf88;have u88:=run_underlying Try.underlying88;have t96:=Try.underlying96;have a96:=Try.isAgg96;have z96:=Try.sizeOf96;have v96:=Try.zeroValue96;have u96:=run_underlying Try.underlying96;have t97:=Try.underlying97;have a97:=Try.isAgg97;have z97:=Try.sizeOf97;have u97:=run_underlying Try.underlying97;have t99:=Try.underlying99;have a99:=Try.isAgg99;have z99:=Try.sizeOf99;have u99:=run_underlying Try.underlying99;have t101:=Try.underlying101;have a101:=Try.isAgg101;have z101:=Try.sizeOf101;have v101:=Try.zeroValue101;have u101:=run_underlying Try.underlying101;have t102:=Try.underlying102;have a102:=Try.isAgg102;have z102:=Try.sizeOf102;have v102:=Try.zeroValue102;have u102:=run_underlying Try.underlying102;have t104:=Try.underlying104;have a104:=Try.isAgg104;have z104:=Try.sizeOf104;have v104:=Try.zeroValue104;have u104:=run_underlying Try.underlying104;have hmm:=@run_makeMap Try.prog;have c26:=qaX (YV h ok hv) M w [v0] (glob0 M) hC rfl (fun j a b ha hb=>by match j,ha,hb with | 0,ha,hb=>cases ha;cases hb;exact r0)
 cases ok with
 | false =>
  cases hp
  go_enter Try.func32,Try.ntmps32
  go_wp2_with fail
  refine Calls.mono c26 ?_
  rintro e w1 ⟨v,M1,rfl,hB1,s1,C1,o1,r1,_⟩
  cases r1;clear c26
  go_wp2_with fail
  go_ret3
  refine⟨_,M1,rfl,hB1,s1,C1,o1,?_,trivial⟩;refine .tup (vs:=[.slice none 0 0,.slice none 0 0,.int .i64 2]) rfl (fun j c v hc hv=>?_)
  match j,hc,hv with
  | 0,hc,hv=>cases hc;cases hv;exact .lstn _ _ _
  | 1,hc,hv=>cases hc;cases hv;exact .lstn _ _ _
  | 2,hc,hv=>cases hc;cases hv;exact .int _ _
 | true =>
  simp only[cond_true]at hp;obtain⟨hlen,hp⟩:=qD hp;have hlen:=of_decide_eq_true hlen;obtain⟨se,hse,hp⟩:=ql hp;have hp:=Option.some.inj hp
  obtain⟨hok,hrun⟩:(∀ o∈h,OkOp o)∧runL m LS.zero 0 h=some se:=by
   split at hse
   ·rename_i h1;exact⟨h1,hse⟩
   ·cases hse
  clear hse hv;obtain⟨ha,hcap,rfl,hops⟩:=qba r0;have HP:=(show Hid _ from hp);have HRUN:=(show Hid _ from hrun);clear hp hrun r0
  go_enter Try.func32,Try.ntmps32
  go_wp2_with fail
  refine Calls.mono c26 ?_
  rintro e w1 ⟨v,M1,rfl,hB1,s1,C1,o1,r1,_⟩
  cases r1;clear c26
  go_wp2_with fail
  obtain⟨w2,ew2⟩:∃ w2,w2=(w1.alloc (.map #[] 0)).alloc (.cells #[.map none,.map none,.map none,.map none,.map none,.map none,.int .i64 0,.int .i64 0,.int .i64 0,.int .i64 0,.int .i64 0,.int .i64 0,.slice none 0 0,.slice none 0 0,.map (some w1.heap.size)] 101):=⟨_,rfl⟩
  have z2:w2.heap.size=w1.heap.size+2:=by rw[ew2];simp
  have B2:Below w1.heap.size w1 w2:=by rw[ew2];exact ((Below.refl _ _).alloc (A9 _) _).alloc (by simp) _
  have n20:w2.heap[w1.heap.size]? = some (.map #[] 0):=by rw[ew2,heap_alloc_old _ _ (by simp)];exact heap_alloc_new _ _
  have n21:w2.heap[w1.heap.size+1]? = some (.cells #[.map none,.map none,.map none,.map none,.map none,.map none,.int .i64 0,.int .i64 0,.int .i64 0,.int .i64 0,.int .i64 0,.int .i64 0,.slice none 0 0,.slice none 0 0,.map (some w1.heap.size)] 101 (0,0)):=by
   rw[ew2];have:=heap_alloc_new (w1.alloc (.map #[] 0)) (.cells #[.map none,.map none,.map none,.map none,.map none,.map none,.int .i64 0,.int .i64 0,.int .i64 0,.int .i64 0,.int .i64 0,.int .i64 0,.slice none 0 0,.slice none 0 0,.map (some w1.heap.size)] 101)
   simpa using this
  obtain⟨L0,hL0⟩:∃ L0:Nat→Nat,L0=fun k=>if k=w1.heap.size+1 then 1 else if k=w1.heap.size then 2 else 0:=⟨_,rfl⟩
  have hR0:RunB w1.heap.size (w1.heap.size+1) w2 L0 ⟨fun _=>none,.slice none 0 0,.slice none 0 0,w1.heap.size,#[],0,[]⟩ LS.zero:=by
   refine⟨n21,by rw[hL0];simp,fun k hk=>by rw[hL0];simp only;rw[if_neg (by omega),if_neg (by omega)],fun k hk=>?_,fun i hi=>.inl ⟨rfl,fun x=>rfl⟩,RowT.nil _ _ _ _ _,RowT.nil _ _ _ _ _,by rw[hL0];simp,⟨n20,⟨(MapKept.stamped_iff _ _).2 ⟨by simp,by simp,by simp⟩,Nat.zero_le _,rfl,rfl,fun j k e hk=>by simp at hk,fun j k e hk=>by simp at hk⟩,by simp,fun p hp=>(by cases hp),fun j p e hp=>by simp at hp⟩,fun t=>rfl⟩;rw[hL0]at hk;simp only at hk;by_cases e1:k=w1.heap.size+1
   ·omega
   ·rw[if_neg e1]at hk;by_cases e2:k=w1.heap.size
    ·omega
    ·rw[if_neg e2]at hk;exact absurd rfl hk
  have hlow:∀ k,k<w1.heap.size→L0 k=0:=fun k hk=>by rw[hL0];simp only;rw[if_neg (by omega),if_neg (by omega)]
  have BB:Below w.heap.size w w2:=hB1.trans (B2.mono hB1.size)
  have hC2:∀ (wx:World) (Lx:Nat→Nat),Mvs L0 Lx w2 wx→Cons M1 wx:=fun wx Lx hM=>C1.of_blocks fun b o u hu hb=>by
   rw[hM.keep b (by omega) (hlow b hb)];exact B2.block b hb
  rw[← ew2];clear ew2 n20 n21 hL0
  go_loopg [17] h.length (fun gf s17 wx=>∃ (k:Nat) (s':LS) (L':Nat→Nat) (G':Gst),s17=.int .i64 (k:Int)∧k+gf=h.length∧RunB w1.heap.size (w1.heap.size+1) wx L' G' s'∧OkK k s'∧Mvs L0 L' w2 wx∧runL m s' (k:Int) (h.drop k)=some se)
  case atStart=>exact⟨0,LS.zero,L0,_,rfl,by omega,hR0,OkK.zero,Mvs.refl _ _,HRUN.out⟩
  case round =>
   clear HRUN hR0;obtain⟨k,s,L1,G,rfl,hkg,hR,hK,hM,hrun⟩:=hrel;obtain⟨w7,rfl⟩:∃ w7,w7=wr:=⟨_,rfl⟩
   rcases Nat.lt_or_ge k h.length with hk1 | hk1
   ·obtain⟨b,off,rfl,e0,e1,e2⟩:=hops k _ (List.getElem?_eq_getElem hk1);have hxo:=hok _ (List.getElem_mem hk1);rw[List.drop_eq_getElem_cons hk1]at hrun;have hCr:=hC2 _ _ hM;have q0:=Qs (hCr _ _ _ (s1 _ _ _ e0)) rfl;have q1:=Qs (hCr _ _ _ (s1 _ _ _ e1)) rfl;have q2:=Qs (hCr _ _ _ (s1 _ _ _ e2)) rfl;have j0:(0:Int)≤(k:Int):=Int.natCast_nonneg _
    have j1:(k:Int)<(h.length:Int):=by omega
    generalize h[k]=x at hrun q0 q1 q2 hxo e0 e1 e2;obtain⟨tx,kx,ix⟩:=x;simp only at q0 q1 q2;obtain⟨s3,hstep,hrun2⟩:=qah m s _ _ _ _ hrun;have hK3:=hK.step (by omega) hxo hstep;have hx16:1≤tx∧tx≤6:=⟨hxo.1,hxo.2.1⟩;have hrun2:runL m s3 ((k+1:Nat):Int) (h.drop (k+1))=some se:=hrun2;have HRUN2:=(show Hid _ from hrun2);have HST:=(show Hid _ from NT hstep);have hpush:=hK.push (by omega) hxo;have HPU:=(show Hid _ from hpush);have HXO:=(show Hid _ from hxo);obtain⟨w3,ew3⟩:∃ w3,w3=w7.alloc (.cells #[.int .i64 tx,.int .i64 kx,.int .i64 ix] 44):=⟨_,rfl⟩
    have h3:RunB w1.heap.size (w1.heap.size+1) w3 L1 G s:=by rw[ew3];exact hR.alloc _
    have M3:Mvs L1 L1 w7 w3:=by rw[ew3];exact (Mvs.refl _ _).alloc _
    have n3:w3.heap[w7.heap.size]? = some (.cells #[.int .i64 tx,.int .i64 kx,.int .i64 ix] 44 (0,0)):=by rw[ew3];exact heap_alloc_new _ _
    have hL7:L1 w7.heap.size=0:=hR.hi _ (A9 _)
    have p0:∀ d,({ w3 with drawn:=d }:World).cell? ⟨w7.heap.size,0,none⟩=some (.int .i64 tx):=fun d=>by simp[A6,n3]
    have p13:∀ d,({ w3 with drawn:=d }:World).cell? ⟨w1.heap.size+1,13,none⟩=some G.av:=fun d=>(h3.heap rfl).cell_ab
    have c39:=Try.contains_T (t:=tx) (by have:=hK.ok.abl;have:=hK.ok.tot;omega) h3.drew.ab;have HW3:=(show Hid (w3=_) from ew3);clear ew3 hrun hrun2 hstep e0 e1 e2 hxo hpush
    go_wp2_with fail
    rw[← HW3.out]
    go_still_tail 6,(by kernel_rfl)
    change wpList _ _ _ _ _ w3.drew
    go_wp2_with fail
    refine Calls.mono c39 ?_
    rintro e w4 ⟨rfl,B4⟩
    have M4:Mvs L1 L1 w7 w4:=M3.trans (Mvs.of_below B4).undrew;have h4:=h3.drew.below B4;have n4:w4.heap[w7.heap.size]? = some (.cells #[.int .i64 tx,.int .i64 kx,.int .i64 ix] 44 (0,0)):=(B4.block _ (lt_of_block n3)).trans n3;clear c39 B4 M3 h3 n3 p0 p13 q0 q1 q2;by_cases hab:tx∈s.ab
    ·have hct:s.ab.contains tx=true:=by simpa using hab
     have hse:s3=s:=by
      rcases HST.out with h | h
      ·exact h.2
      ·exact absurd hab h.1
     have HAB:=(show Hid _ from hab);rw[hct];clear hct hab
     go_wp2_with fail
     go_roundg (h.length - (k+1))
     case measure=>omega
     case rel=>exact⟨k+1,s3,L1,G,by go_num,by omega,by rw[hse];exact h4,hK3,hM.trans M4,HRUN2.out⟩
    ·have hct:s.ab.contains tx=false:=by simpa using hab
     have HST2:=(show Hid _ from (HST.out.resolve_left fun h=>hab h.1).2);rw[hct];clear hct hab HST;obtain⟨vL,hlk,hrow⟩:=h4.wt.lookup (by omega:0≤tx) hx16.2;rw[← h4.hwt tx]at hrow;obtain⟨n8,hn8⟩:∃ n8:Nat,n8=(s.wt tx).length:=⟨_,rfl⟩;rw[← hn8]at hrow;obtain⟨la,lc,rfl⟩:=hrow.form
     have p0:∀ d,({ w4 with drawn:=d }:World).cell? ⟨w7.heap.size,0,none⟩=some (.int .i64 tx):=fun d=>by simp[A6,n4]
     have p14:∀ d,({ w4 with drawn:=d }:World).cell? ⟨w1.heap.size+1,14,none⟩=some (.map (some G.gw)):=fun d=>(h4.heap rfl).cell_wt
     have hlk4:=hlk w4.drew h4.wt.at';have HN8:=(show Hid _ from hn8);clear hn8
     go_wp2_with fail
     go_still_tail 9,(by kernel_rfl)
     change wpList _ _ _ _ _ w4.drew
     go_wp2_with fail
     obtain⟨w5,ew5⟩:∃ w5,w5=w4.drew:=⟨_,rfl⟩;rw[← ew5]
     have h5:RunB w1.heap.size (w1.heap.size+1) w5 L1 G s:=by rw[ew5];exact h4.drew
     have M5:Mvs L1 L1 w7 w5:=by rw[ew5];exact M4.drew
     have n5:w5.heap[w7.heap.size]? = some (.cells #[.int .i64 tx,.int .i64 kx,.int .i64 ix] 44 (0,0)):=by rw[ew5];exact n4
     have hrow5:RowT w5 L1 (20+tx.toNat) 104 4 (.slice la n8 lc) n8 (heldC (s.wt tx)):=by rw[ew5];exact hrow
     clear ew5 h4 M4 n4 hrow p0 p14 hlk4;obtain⟨vL,evL⟩:∃ vL,vL=Value.slice la n8 lc:=⟨_,rfl⟩;rw[← evL]at hlk hrow5;have HVL:=(show Hid _ from evL);clear evL;obtain⟨w6,ew6⟩:∃ w6,w6=(w5.alloc (.cells #[.int .i64 tx,.int .i64 kx,.int .i64 ix,.int .i64 (k:Int)] 104)).drew:=⟨_,rfl⟩
     have h6:RunB w1.heap.size (w1.heap.size+1) w6 L1 G s:=by rw[ew6];exact (h5.alloc _).drew
     have M6:Mvs L1 L1 w7 w6:=by rw[ew6];exact (M5.alloc _).drew
     have n6:w6.heap[w7.heap.size]? = some (.cells #[.int .i64 tx,.int .i64 kx,.int .i64 ix] 44 (0,0)):=by rw[ew6];exact (heap_alloc_old w5 _ (lt_of_block n5)).trans n5
     have m6:w6.heap[w5.heap.size]? = some (.cells #[.int .i64 tx,.int .i64 kx,.int .i64 ix,.int .i64 (k:Int)] 104 (0,0)):=by rw[ew6];exact heap_alloc_new w5 _
     have hrow6:RowT w6 L1 (20+tx.toNat) 104 4 vL n8 (heldC (s.wt tx)):=by rw[ew6];exact hrow5.kept (fun k hk _=>heap_alloc_old w5 _ hk) (fun _ _ e=>e)
     have hi6:=h6.hi
     have hnl:n8≤1000000000:=by rw[HN8.out];have:=hK.ok.wlen tx;omega
     have W6:=(show Hid (w6=_) from ew6);have hlk6:=hlk w6 h6.wt.at';have K0:w5.drew.cell? ⟨w1.heap.size+1,14,none⟩=some (.map (some G.gw))∧(Instr.lookup 96 (.map (some G.gw)) (.int .i64 tx) false).run Try.prog w5.drew=.ok vL w5.drew∧w5.drew.cell? ⟨w7.heap.size,0,none⟩=some (.int .i64 tx)∧w5.drew.cell? ⟨w7.heap.size,1,none⟩=some (.int .i64 kx)∧w5.drew.cell? ⟨w7.heap.size,2,none⟩=some (.int .i64 ix):=⟨h5.drew.cell_wt,hlk w5.drew h5.wt.at',by show w5.cell? _=_;simp[A6,n5],by show w5.cell? _=_;simp[A6,n5],by show w5.cell? _=_;simp[A6,n5]⟩;have K6:w6.cell? ⟨w1.heap.size+1,14,none⟩=some (.map (some G.gw))∧(Instr.lookup 96 (.map (some G.gw)) (.int .i64 tx) false).run Try.prog w6=.ok vL w6∧w6.cell? ⟨w7.heap.size,0,none⟩=some (.int .i64 tx)∧w6.cell? ⟨w7.heap.size,1,none⟩=some (.int .i64 kx)∧w6.cell? ⟨w7.heap.size,2,none⟩=some (.int .i64 ix):=⟨h6.cell_wt,hlk6,by simp[A6,n6],by simp[A6,n6],by simp[A6,n6]⟩;rw[ew6]at hrow6 hi6 m6 K6;rw[← HVL.out];clear ew6 hlk6;refine ZH (S:=fun w'=>w'.cell? ⟨w1.heap.size+1,14,none⟩=some (.map (some G.gw))∧(Instr.lookup 96 (.map (some G.gw)) (.int .i64 tx) false).run Try.prog w'=.ok vL w'∧w'.cell? ⟨w7.heap.size,0,none⟩=some (.int .i64 tx)∧w'.cell? ⟨w7.heap.size,1,none⟩=some (.int .i64 kx)∧w'.cell? ⟨w7.heap.size,2,none⟩=some (.int .i64 ix)) 18 (by kernel_rfl) K0 (fun hHeld=>?_);refine qx (i:=0) (v:=.pointer (some ⟨w1.heap.size+1,0,none⟩)) rfl (by kernel_rfl) (fun _ _ _ h=>h) (by kernel_rfl) (fun w' hw'=>?_) hHeld ?_
     ·obtain⟨p0,p1,p2,p3,p4⟩:=hw';go_simp
     simp only[Act.put,A0,A1,A2,A3,A4,A5];refine qx (i:=1) (v:=.pointer (some ⟨w1.heap.size+1,0,none⟩)) rfl (by kernel_rfl) (fun _ _ _ h=>h) (by kernel_rfl) (fun w' hw'=>?_) hHeld ?_
     ·obtain⟨p0,p1,p2,p3,p4⟩:=hw';go_simp
     simp only[Act.put,A0,A1,A2,A3,A4,A5];refine qx (i:=2) (v:=.pointer (some ⟨w1.heap.size+1,14,none⟩)) rfl (by kernel_rfl) (fun _ _ _ h=>h) (by kernel_rfl) (fun w' hw'=>?_) hHeld ?_
     ·obtain⟨p0,p1,p2,p3,p4⟩:=hw';go_simp
     simp only[Act.put,A0,A1,A2,A3,A4,A5];refine qx (i:=3) (v:=.map (some G.gw)) rfl (by kernel_rfl) (fun _ _ _ h=>h) (by kernel_rfl) (fun w' hw'=>?_) hHeld ?_
     ·obtain⟨p0,p1,p2,p3,p4⟩:=hw';go_simp
     simp only[Act.put,A0,A1,A2,A3,A4,A5];refine qx (i:=4) (v:=.pointer (some ⟨w7.heap.size,0,none⟩)) rfl (by kernel_rfl) (fun _ _ _ h=>h) (by kernel_rfl) (fun w' hw'=>?_) hHeld ?_
     ·obtain⟨p0,p1,p2,p3,p4⟩:=hw';go_simp
     simp only[Act.put,A0,A1,A2,A3,A4,A5];refine qx (i:=5) (v:=.int .i64 tx) rfl (by kernel_rfl) (fun _ _ _ h=>h) (by kernel_rfl) (fun w' hw'=>?_) hHeld ?_
     ·obtain⟨p0,p1,p2,p3,p4⟩:=hw';go_simp
     simp only[Act.put,A0,A1,A2,A3,A4,A5];refine qx (i:=6) (v:=.pointer (some ⟨w1.heap.size+1,0,none⟩)) rfl (by kernel_rfl) (fun _ _ _ h=>h) (by kernel_rfl) (fun w' hw'=>?_) hHeld ?_
     ·obtain⟨p0,p1,p2,p3,p4⟩:=hw';go_simp
     simp only[Act.put,A0,A1,A2,A3,A4,A5];refine qx (i:=7) (v:=.pointer (some ⟨w1.heap.size+1,0,none⟩)) rfl (by kernel_rfl) (fun _ _ _ h=>h) (by kernel_rfl) (fun w' hw'=>?_) hHeld ?_
     ·obtain⟨p0,p1,p2,p3,p4⟩:=hw';go_simp
     simp only[Act.put,A0,A1,A2,A3,A4,A5];refine qx (i:=8) (v:=.pointer (some ⟨w1.heap.size+1,14,none⟩)) rfl (by kernel_rfl) (fun _ _ _ h=>h) (by kernel_rfl) (fun w' hw'=>?_) hHeld ?_
     ·obtain⟨p0,p1,p2,p3,p4⟩:=hw';go_simp
     simp only[Act.put,A0,A1,A2,A3,A4,A5];refine qx (i:=9) (v:=.map (some G.gw)) rfl (by kernel_rfl) (fun _ _ _ h=>h) (by kernel_rfl) (fun w' hw'=>?_) hHeld ?_
     ·obtain⟨p0,p1,p2,p3,p4⟩:=hw';go_simp
     simp only[Act.put,A0,A1,A2,A3,A4,A5];refine qx (i:=10) (v:=.pointer (some ⟨w7.heap.size,0,none⟩)) rfl (by kernel_rfl) (fun _ _ _ h=>h) (by kernel_rfl) (fun w' hw'=>?_) hHeld ?_
     ·obtain⟨p0,p1,p2,p3,p4⟩:=hw';go_simp
     simp only[Act.put,A0,A1,A2,A3,A4,A5];refine qx (i:=11) (v:=.int .i64 tx) rfl (by kernel_rfl) (fun _ _ _ h=>h) (by kernel_rfl) (fun w' hw'=>?_) hHeld ?_
     ·obtain⟨p0,p1,p2,p3,p4⟩:=hw';go_simp
     simp only[Act.put,A0,A1,A2,A3,A4,A5];refine qx (i:=12) (v:=vL) rfl (by kernel_rfl) (fun _ _ _ h=>h) (by kernel_rfl) (fun w' hw'=>?_) hHeld ?_
     ·obtain⟨p0,p1,p2,p3,p4⟩:=hw';go_simp
     simp only[Act.put,A0,A1,A2,A3,A4,A5];refine qx (i:=13) (v:=.agg #[.int .i64 tx,.int .i64 kx,.int .i64 ix]) rfl (by kernel_rfl) (fun _ _ _ h=>h) (by kernel_rfl) (fun w' hw'=>?_) hHeld ?_
     ·obtain⟨p0,p1,p2,p3,p4⟩:=hw';go_simp
     simp only[Act.put,A0,A1,A2,A3,A4,A5];refine qx (i:=14) (v:=.int .i64 (k:Int)) rfl (by kernel_rfl) (fun _ _ _ h=>h) (by kernel_rfl) (fun w' hw'=>?_) hHeld ?_
     ·obtain⟨p0,p1,p2,p3,p4⟩:=hw';go_simp
     simp only[Act.put,A0,A1,A2,A3,A4,A5];refine qx (i:=15) (v:=.agg #[.int .i64 tx,.int .i64 kx,.int .i64 ix,.int .i64 (k:Int)]) rfl (by kernel_rfl) (fun _ _ _ h=>h) (by kernel_rfl) (fun w' hw'=>?_) hHeld ?_
     ·obtain⟨p0,p1,p2,p3,p4⟩:=hw';go_simp
     simp only[Act.put,A0,A1,A2,A3,A4,A5];refine JP (i:=16) (by kernel_rfl) rfl rfl (fun K hK=>?_);rw[if_pos (by kernel_rfl)];go_simp;refine hK.out _ _ K6 (fun hHeld=>?_);clear hK K;refine JP (i:=17) (by kernel_rfl) rfl rfl (fun K hK=>?_);refine Zp (f:=⟨tx,kx,ix⟩) (k:=(k:Int)) (role:=20+tx.toNat) (by rfl) (.tmp 50) (.tmp 54) (by rfl) (by omega) (by rfl) (by rfl) hrow6 hi6 m6 hnl ?_;intro g9 off9 cap9 w9 L9 r9 g9';rw[← W6.out]at g9';have hb9:∀ k,k<w6.heap.size→L1 k≠20+tx.toNat→w9.heap[k]? = w6.heap[k]?:=g9'.oth;have nb9:w9.heap[w1.heap.size+1]? = some (.cells (jl G s) 101 (0,0)):=(hb9 _ h6.lt (by rw[h6.lbr];omega)).trans h6.blk;have no9:w9.heap[w7.heap.size]? = some (.cells #[.int .i64 tx,.int .i64 kx,.int .i64 ix] 44 (0,0)):=(hb9 _ (lt_of_block n6) (by rw[hL7];omega)).trans n6;have ng9:w9.heap[G.gw]? = some (.map G.es G.ck):=(hb9 _ h6.wt.lt (by rw[h6.lgw];omega)).trans h6.wt.at';have K9:w9.cell? ⟨w1.heap.size+1,14,none⟩=some (.map (some G.gw))∧(Instr.lookup 96 (.map (some G.gw)) (.int .i64 tx) false).run Try.prog w9=.ok vL w9∧w9.cell? ⟨w7.heap.size,0,none⟩=some (.int .i64 tx)∧w9.cell? ⟨w7.heap.size,1,none⟩=some (.int .i64 kx)∧w9.cell? ⟨w7.heap.size,2,none⟩=some (.int .i64 ix):=⟨by simp[A6,nb9,jl],hlk w9 ng9,by simp[A6,no9],by simp[A6,no9],by simp[A6,no9]⟩;refine hK.out _ _ K9 (fun hHeld=>?_);clear hK K
     have r9:RowT w9 L9 (20+tx.toNat) 104 4 (.slice (some ⟨g9,off9,none⟩) (n8+1) cap9) (s.wt tx++[((⟨tx,kx,ix⟩:hsOp),(k:Int))]).length (heldC (s.wt tx++[((⟨tx,kx,ix⟩:hsOp),(k:Int))])):=by
      rw[NB,C0,← HN8.out];exact r9
     obtain⟨o10,G10,hup10,hput10⟩:=h6.putW hx16.1 hx16.2 g9' r9;have hup:=hup10 w9 rfl;obtain⟨h10,M10⟩:=hput10 w9 rfl;obtain⟨w10,ew10⟩:∃ w10,w10=setBlock w9 G.gw o10:=⟨_,rfl⟩;rw[← ew10]at h10 M10;have n10:w10.heap[w7.heap.size]? = some (.cells #[.int .i64 tx,.int .i64 kx,.int .i64 ix] 44 (0,0)):=(M10.keep _ (lt_of_block n6) hL7).trans n6;have M10':Mvs L1 L9 w7 w10:=M6.trans M10;have EW10:=(show Hid (w10=_) from ew10);clear ew10;refine ZI (by kernel_rfl) rfl (by kernel_rfl) (fun K hK=>?_);rw[if_pos (by kernel_rfl)];go_simp;refine hK _ _ ?_;rw[← EW10.out];clear hK K K0 K6 K9 hHeld no9 nb9 ng9 hb9 hup hup10 hput10 r9 g9' hrow5 hrow6 h5 h6 M5 M6 M10 n5 n6 m6 hi6 hlk
     have p10:w10.cell? ⟨w7.heap.size,0,none⟩=some (.int .i64 tx):=by simp[A6,n10]
     obtain⟨s10,es10⟩:∃ s10:LS,s10=putW s tx (s.wt tx++[((⟨tx,kx,ix⟩:hsOp),(k:Int))]):=⟨_,rfl⟩;rw[← es10]at h10
     have hok10:OkK (k+1) s10:=by rw[es10];exact HPU.out
     rcases Nat.eq_zero_or_pos n8 with hz | hz
     ·have hw0:s.wt tx=[]:=List.eq_nil_of_length_eq_zero (by rw[← HN8.out];exact hz)
      obtain⟨r,hgo,hr2⟩:∃ r,goOnL m s10 tx false=some r∧((r.2=true∧retryL m m r.1=some s3)∨(r.2=false∧s3=r.1)):=by
       rw[es10]
       rcases HST2.out with h | h
       ·exact absurd hw0 h.1
       ·exact h.2
      have c69:=Try.goOn69 h10 hok10.ok (by omega) hx16.1 hx16.2 hgo;have hok11:=OkS.goOn m _ _ _ _ hok10.ok hgo;clear es10 hw0 hgo HN8 hnl;subst hz
      go_wp2_with fail
      refine Calls.mono c69 ?_
      rintro e w11 ⟨rfl,L11,G11,h11,M11⟩
      have M11':Mvs L1 L11 w7 w11:=M10'.trans M11;clear c69 M11 M10' h10 n10 p10;obtain⟨s11,b11⟩:=r
      rcases hr2 with ⟨rfl,hre⟩ | ⟨rfl,hre⟩
      ·have c70:=Try.retry70 h11 hok11 (by omega) hre;clear hre
       go_wp2_with fail
       refine Calls.mono c70 ?_
       rintro e w12 ⟨rfl,⟨L12,G12,h12,M12⟩,_⟩
       have M12':Mvs L1 L12 w7 w12:=M11'.trans M12;clear c70 M12
       go_wp2_with fail
       go_roundg (h.length - (k+1))
       case measure=>omega
       case rel=>exact⟨k+1,s3,L12,G12,by go_num,by omega,h12,hK3,hM.trans M12',HRUN2.out⟩
      ·have HRE:=(show Hid _ from hre);clear hre
       go_wp2_with fail
       go_roundg (h.length - (k+1))
       case measure=>omega
       case rel=>exact⟨k+1,s3,L11,G11,by go_num,by omega,by rw[HRE.out];exact h11,hK3,hM.trans M11',HRUN2.out⟩
     ·have hw0:s.wt tx≠[]:=fun e=>by have:=HN8.out;rw[e]at this;simp at this;omega
      have hs3:s3=s10:=by
       rw[es10]
       rcases HST2.out with h | h
       ·exact h.2
       ·exact absurd h.1 hw0
      have HS3:=(show Hid _ from hs3)
      have hz2:(0:Int)<(n8:Int):=by omega
      have hz3:decide ((0:Int)<(n8:Int))=true:=decide_eq_true hz2;clear es10 hw0 HN8 hs3
      go_wp2_with fail
      go_roundg (h.length - (k+1))
      case measure=>omega
      case rel=>exact⟨k+1,s3,L9,G10,by go_num,by omega,by rw[HS3.out];exact h10,hK3,hM.trans M10',HRUN2.out⟩
   ·have hke:k=h.length:=by omega
    subst hke;rw[List.drop_length]at hrun;have hse:s=se:=Option.some.inj hrun;subst hse
    have p12:∀ d,({ w7 with drawn:=d }:World).cell? ⟨w1.heap.size+1,12,none⟩=some G.dv:=fun d=>(hR.heap rfl).cell_done
    have p13:∀ d,({ w7 with drawn:=d }:World).cell? ⟨w1.heap.size+1,13,none⟩=some G.av:=fun d=>(hR.heap rfl).cell_ab
    have p12':w7.cell? ⟨w1.heap.size+1,12,none⟩=some G.dv:=p12 _;have p13':w7.cell? ⟨w1.heap.size+1,13,none⟩=some G.av:=p13 _
    have BF:Below w.heap.size w w7:=BB.trans (hM.below (B:=w.heap.size) (by have:=hB1.size;omega) fun k hk=>by
     rcases Nat.lt_or_ge k w1.heap.size with e | e
     ·exact absurd (hlow k e) hk
     ·have:=hB1.size;omega)
    have HRR:=(show Hid _ from hR);clear hrun hR
    go_wp2_with fail
    go_quiet (fail)
    go_wp2_with fail
    go_ret3
    obtain⟨wF,ewF⟩:∃ wF,wF=w7.drewN nq:=⟨_,rfl⟩
    have hRF:RunB w1.heap.size (w1.heap.size+1) wF L1 G s:=by rw[ewF];exact HRR.out.drewN nq
    have BF2:Below w.heap.size w wF:=by rw[ewF];exact⟨BF.os,BF.tape,BF.output,BF.size,BF.block⟩
    have hlo:∀ role,role≠0→∀ k,L1 k=role→w.heap.size≤k:=fun role h0 k hk=>by
     have:=hRF.lo k (by omega);have:=hB1.size;omega
    rw[← HP.out];refine⟨_,mtail M w.heap.size wF,rfl,by rw[← ewF];exact BF2,qas hC BF2 (A9 _),by rw[← ewF];exact DB hC BF2,fun b o hb=>UH hb,?_,trivial⟩;refine .tup (vs:=[G.dv,G.av,.int .i64 0]) rfl (fun j c v hc hv=>?_)
    match j,hc,hv with
    | 0,hc,hv=>cases hc;cases hv;exact hRF.done.opsR (hlo 3 (by decide))
    | 1,hc,hv=>cases hc;cases hv;exact hRF.ab.intsR (hlo 4 (by decide))
    | 2,hc,hv=>cases hc;cases hv;exact .int _ _
end Go.Proofs
namespace Go.AM
open Go.Proofs
theorem Hy (n:Nat) (s:LS) (t:Int) (rel:Bool) {p:hsOp×Int} {rest:List (hsOp×Int)} (hw:s.wt t=p::rest) (hs:¬ Stuck s p.1):goOnL (n+1) s t rel=goOnL n (doL s t p.1 rest) t (rel || decide (1<p.1.qh)):=by
 conv=>lhs;unfold goOnL
 rw[hw];simp only;rw[if_neg hs]
theorem ZF (s:LS) (t:Int) (o:hsOp) (rest:List (hsOp×Int)):(doL s t o rest).wt=fun x=>if x=t then rest else s.wt x:=by
 unfold doL putW;split
 ·unfold takeL;split <;> rfl
 ·rfl
theorem YI:∀ (n:Nat) (s:LS) (t:Int) (rel:Bool),(s.wt t).length<n→∃ r,goOnL n s t rel=some r
 | 0,_,_,_,h=>by omega
 | n+1,s,t,rel,h=>by
  unfold goOnL
  cases hw:s.wt t with
  | nil=>exact⟨_,rfl⟩
  | cons p rest =>
   simp only;split
   ·split
    ·exact⟨_,rfl⟩
    ·exact⟨_,rfl⟩
   ·refine YI n _ _ _ ?_;rw[ZF];simp only[if_true];rw[hw]at h;simp at h;omega
theorem qbw {s s':LS} (h:∀ t,(s'.wt t).length≤(s.wt t).length):wtot s'≤wtot s:=by
 have h1:=h 1;have h2:=h 2;have h3:=h 3;have h4:=h 4;have h5:=h 5;have h6:=h 6;unfold wtot;omega
theorem VO:∀ (n:Nat) (s:LS) (t:Int) (rel:Bool) (r:LS×Bool),goOnL n s t rel=some r→∀ x,(r.1.wt x).length≤(s.wt x).length
 | 0,_,_,_,_,e=>by cases e
 | n+1,s,t,rel,r,e=>by
  rcases YH n s t rel r e with ⟨_,rfl⟩ | ⟨p,rest,hw,⟨_,_,rfl⟩ | ⟨_,_,rfl⟩ | ⟨_,h⟩⟩
  ·exact fun _=>A9 _
  ·intro x;show (if x=t then ([]:List (hsOp×Int)) else s.wt x).length≤_;split
   ·exact Nat.zero_le _
   ·exact A9 _
  ·exact fun _=>A9 _
  ·intro x;refine Nat.le_trans (VO n _ _ _ _ h x) ?_;rw[ZF];simp only;split
   ·rename_i hx;rw[hx,hw];simp
   ·exact A9 _
theorem ZP {N:Nat} (m:Nat):∀ (n:Nat) (s:LS),OkS N s→N<m→wtot s<n→∃ s2,retryL m n s=some s2
 | 0,_,_,_,h=>by omega
 | n+1,s,hs,hm,h=>by
  unfold retryL;by_cases hb:bestL s=0
  ·rw[if_pos hb];exact⟨_,rfl⟩
  ·rw[if_neg hb];obtain⟨r,hr⟩:=YI m s (bestL s) false (Nat.lt_of_le_of_lt (hs.wlen _) hm);rw[hr,A7];refine ZP m n _ (OkS.goOn m _ _ _ _ hs hr) hm ?_
   have hbest:BestL s (bestL s):=by
    unfold bestL at hb ⊢;split at hb
    ·rename_i h1;rw[dif_pos h1];exact h1.choose_spec
    ·exact absurd rfl hb
   rcases hbest with h1 | ⟨_,⟨p,rest,hw,hst⟩,_⟩
   ·exact absurd h1.1 hb
   ·have hk:=hs.wtk _ (by rw[hw];simp:s.wt (bestL s)≠[]);obtain⟨k,e1,e2⟩:=YP (s:=s) hk.1 hk.2
    cases m with
    | zero=>cases hr
    | succ m =>
     rw[Hy m s _ _ hw hst]at hr;have h2:=qbw (VO m _ _ _ _ hr)
     have h3:wtot (doL s (bestL s) p.1 rest)=rest.length+k:=by
      rw[← e2 rest]
      have:(doL s (bestL s) p.1 rest).wt=(putW s (bestL s) rest).wt:=by rw[ZF];rfl
      unfold wtot;rw[this]
     rw[hw]at e1;simp at e1;omega
theorem Dh {k:Nat} {s:LS} {m:Nat} (h:OkK k s) (hk:k+2<m) (hk2:k<1000000) {o:hsOp} (ho:OkOp o):∃ s2,stepL m s o k=some s2:=by
 unfold stepL;split
 ·exact⟨_,rfl⟩
 ·have hp:=h.push hk2 ho;split
  ·exact⟨_,rfl⟩
  ·rename_i hne
   have hne:s.wt o.qb=[]:=by
    cases hw:s.wt o.qb with
    | nil=>rfl
    | cons a b=>rw[hw]at hne;exact absurd (by simp) hne
   rw[hne]at hp;have hp:OkK (k+1) (putW s o.qb [(o,(k:Int))]):=hp;obtain⟨r,hr⟩:=YI m (putW s o.qb [(o,(k:Int))]) o.qb false (Nat.lt_of_le_of_lt (hp.ok.wlen _) (by omega));rw[hr,A7];split
   ·have hr2:=OkS.goOn m _ _ _ _ hp.ok hr;exact ZP m m _ hr2 (by omega) (by have:=hr2.tot;omega)
   ·exact⟨_,rfl⟩
theorem UA {m:Nat}:∀ (l:List hsOp) (k:Nat) (s:LS),OkK k s→(∀ o,o∈l→OkOp o)→k+l.length+2<m→k+l.length<1000000→∃ s2,runL m s k l=some s2
 | [],k,s,_,_,_,_=>⟨s,rfl⟩
 | o::l,k,s,h,ho,hm,hm2=>by
  simp only[C2]at hm hm2;obtain⟨s1,h1⟩:=Dh (k:=k) (m:=m) h (by omega) (by omega) (ho o (.head _));have h2:=h.step (by omega) (ho o (.head _)) h1;obtain⟨s2,h3⟩:=UA (m:=m) l (k+1) s1 h2 (fun x hx=>ho x (.tail _ hx)) (by omega) (by omega);refine⟨s2,?_⟩;unfold runL;rw[h1,A7];exact h3
def lkS (l:List hsOp):LS:=l.foldl (fun s o=>if o.qh≤1 then takeL s o else relL s o.qb) LS.zero
theorem Xe (l:List hsOp) (o:hsOp):lkS (l++[o])=if o.qh≤1 then takeL (lkS l) o else relL (lkS l) o.qb:=by
 unfold lkS;rw[List.foldl_append];rfl
theorem VN {s s':LS} (h1:s.sh=s'.sh) (h2:s.ex=s'.ex) (o:hsOp) (x:Int):hindP s o x↔hindP s' o x:=by
 unfold hindP;rw[h1,h2]
theorem QO {s s':LS} (h1:s.sh=s'.sh) (h2:s.ex=s'.ex) (o:hsOp):(takeL s o).sh=(takeL s' o).sh∧(takeL s o).ex=(takeL s' o).ex:=by
 unfold takeL;split
 ·exact⟨h1,by simp only[h2]⟩
 ·exact⟨by simp only[h1],h2⟩
theorem JU {s s':LS} (h1:s.sh=s'.sh) (h2:s.ex=s'.ex) (t:Int):(relL s t).sh=(relL s' t).sh∧(relL s t).ex=(relL s' t).ex:=by
 unfold relL;exact⟨by simp only[h1],by simp only[h2]⟩
def Good (l:List hsOp):Prop:=∀ p o q,l=p++o::q→o.qh≤1→∀ x,¬ hindP (lkS p) o x
theorem Good.nil:Good []:=fun p o q h=>by simp at h
theorem Vv {α:Type} {l p q:List α} {o x:α} (h:l++[o]=p++x::q):(q=[]∧p=l∧x=o)∨∃ q',q=q'++[o]∧l=p++x::q':=by
 rcases List.eq_nil_or_concat q with rfl | ⟨q',y,rfl⟩
 ·have:=List.append_inj' h (by simp);exact .inl ⟨rfl,this.1.symm,by simpa using this.2.symm⟩
 ·rw[List.concat_eq_append]at h ⊢
  have h2:l++[o]=(p++x::q')++[y]:=by rw[h];simp
  have:=List.append_inj' h2 (by simp)
  have e:o=y:=by simpa using this.2
  exact .inr ⟨q',by rw[e],this.1⟩
theorem Good.snoc {l:List hsOp} (h:Good l) {o:hsOp} (ho:o.qh≤1→∀ x,¬ hindP (lkS l) o x):Good (l++[o]):=by
 intro p x q e
 rcases Vv e with ⟨_,rfl,rfl⟩ | ⟨q',_,e2⟩
 ·exact ho
 ·exact h p x q' e2
structure InvL (s:LS):Prop where
 sh:s.sh=(lkS s.done).sh
 ex:s.ex=(lkS s.done).ex
 good:Good s.done
theorem XV (s:LS) (t:Int) (o:hsOp) (rest:List (hsOp×Int)):(doL s t o rest).done=s.done++[o]:=rfl
theorem qbm (s:LS) (t:Int) (o:hsOp) (rest:List (hsOp×Int)):(doL s t o rest).ab=s.ab:=by
 unfold doL putW;split
 ·unfold takeL;split <;> rfl
 ·rfl
theorem InvL.doL {s:LS} (h:InvL s) {t:Int} {o:hsOp} {rest:List (hsOp×Int)} (ht:o.qb=t) (hs:¬ Stuck s o):InvL (doL s t o rest):=by
 have hsh:(Go.AM.doL s t o rest).sh=(if o.qh≤1 then takeL s o else relL s t).sh:=rfl;have hex:(Go.AM.doL s t o rest).ex=(if o.qh≤1 then takeL s o else relL s t).ex:=rfl;refine⟨?_,?_,?_⟩
 ·rw[hsh,XV,Xe];split
  ·exact (QO h.sh h.ex o).1
  ·rw[ht];exact (JU h.sh h.ex t).1
 ·rw[hex,XV,Xe];split
  ·exact (QO h.sh h.ex o).2
  ·rw[ht];exact (JU h.sh h.ex t).2
 ·rw[XV]
  refine h.good.snoc fun hk x hx=>hs ⟨hk,x,?_⟩
  exact (VN h.sh h.ex o x).2 hx
theorem InvL.abortL {s:LS} (h:InvL s) (t:Int):InvL (abortL s t):=by
 have hd:(Go.AM.abortL s t).done=s.done++[⟨t,3,0⟩]:=rfl
 have hk:¬ (⟨t,3,0⟩:hsOp).qh≤1:=by show ¬ (3:Int)≤1;omega
 refine⟨?_,?_,?_⟩
 ·rw[hd,Xe,if_neg hk];exact (JU h.sh h.ex t).1
 ·rw[hd,Xe,if_neg hk];exact (JU h.sh h.ex t).2
 ·rw[hd]
  exact h.good.snoc fun hk2=>absurd hk2 hk
def ofT (t:Int) (l:List hsOp):List hsOp:=l.filter fun o=>o.qb == t
theorem QH (t:Int) (l m:List hsOp):ofT t (l++m)=ofT t l++ofT t m:=List.filter_append ..
theorem Vl (t:Int) (o:hsOp):ofT t [o]=if o.qb=t then [o] else []:=by
 unfold ofT;by_cases h:o.qb=t
 ·simp[h]
 ·simp[h]
def JT (pre:List hsOp) (s:LS) (t:Int):Prop:=(t ∉ s.ab∧ofT t pre=ofT t s.done++(s.wt t).map B7)∨(t∈s.ab∧s.wt t=[]∧∃ D w E,ofT t s.done=D++[⟨t,3,0⟩]∧ofT t pre=D++w::E)
def JJ (pre:List hsOp) (s:LS):Prop:=∀ t,JT pre s t
theorem JJ.doL {pre:List hsOp} {s:LS} (h:JJ pre s) {t:Int} {p:hsOp×Int} {rest:List (hsOp×Int)} (hw:s.wt t=p::rest) (ht:p.1.qb=t):JJ pre (doL s t p.1 rest):=by
 intro x;have hx:=h x;unfold JT;rw[qbm,XV,ZF,QH,Vl,ht];by_cases e:x=t
 ·subst e;simp only[if_true]
  rcases hx with ⟨h1,h2⟩ | ⟨h1,h2,_⟩
  ·exact .inl ⟨h1,by rw[h2,hw];simp⟩
  ·rw[hw]at h2;cases h2
 ·simp only[if_neg e,if_neg (Ne.symm e),B5];exact hx
theorem JJ.abortL {pre:List hsOp} {s:LS} (h:JJ pre s) {t:Int} {p:hsOp×Int} {rest:List (hsOp×Int)} (hw:s.wt t=p::rest):JJ pre (abortL s t):=by
 intro x;have hx:=h x;have hd:(Go.AM.abortL s t).done=s.done++[⟨t,3,0⟩]:=rfl;have hab:(Go.AM.abortL s t).ab=s.ab++[t]:=rfl
 have hwt:(Go.AM.abortL s t).wt=fun y=>if y=t then [] else s.wt y:=rfl
 unfold JT;rw[hd,hab,hwt,QH,Vl];by_cases e:x=t
 ·subst e;simp only[if_true]
  rcases hx with ⟨h1,h2⟩ | ⟨h1,h2,_⟩
  ·refine .inr ⟨by simp,trivial,ofT x s.done,p.1,rest.map B7,rfl,?_⟩;rw[h2,hw];rfl
  ·rw[hw]at h2;cases h2
 ·simp only[if_neg e];rw[if_neg (show ¬ (⟨t,3,0⟩:hsOp).qb=x from fun e2=>e e2.symm),B5]
  have hm:x∈s.ab++[t]↔x∈s.ab:=by simp[e]
  rw[hm];exact hx
theorem ZC {N:Nat} {pre:List hsOp}:∀ (n:Nat) (s:LS) (t:Int) (rel:Bool) (r:LS×Bool),OkS N s→InvL s→JJ pre s→goOnL n s t rel=some r→InvL r.1∧JJ pre r.1
 | 0,_,_,_,_,_,_,_,e=>by cases e
 | n+1,s,t,rel,r,hs,hi,hj,e=>by
  rcases YH n s t rel r e with ⟨_,rfl⟩ | ⟨p,rest,hw,⟨_,_,rfl⟩ | ⟨_,_,rfl⟩ | ⟨hst,h⟩⟩
  ·exact⟨hi,hj⟩
  ·exact⟨hi.abortL t,hj.abortL hw⟩
  ·exact⟨hi,hj⟩
  ·have hp:=hs.wto t p (by rw[hw];exact .head _);exact ZC n _ _ _ _ (hs.doL hw) (hi.doL hp.2.1 hst) (hj.doL hw hp.2.1) h
theorem VA {N:Nat} {pre:List hsOp} (m:Nat):∀ (n:Nat) (s s2:LS),OkS N s→InvL s→JJ pre s→retryL m n s=some s2→InvL s2∧JJ pre s2
 | 0,_,_,_,_,_,e=>by cases e
 | n+1,s,s2,hs,hi,hj,e=>by
  rcases ZO m n s s2 e with ⟨_,rfl⟩ | ⟨_,r,h1,h2⟩
  ·exact⟨hi,hj⟩
  ·obtain⟨a,b⟩:=ZC m _ _ _ _ hs hi hj h1;exact VA m n _ _ (OkS.goOn m _ _ _ _ hs h1) a b h2
theorem JJ.push {pre:List hsOp} {s:LS} (h:JJ pre s) {o:hsOp} {i:Int} (hn:o.qb ∉ s.ab):JJ (pre++[o]) (putW s o.qb (s.wt o.qb++[(o,i)])):=by
 intro x;have hx:=h x;have hd:(putW s o.qb (s.wt o.qb++[(o,i)])).done=s.done:=rfl;have hab:(putW s o.qb (s.wt o.qb++[(o,i)])).ab=s.ab:=rfl
 have hwt:(putW s o.qb (s.wt o.qb++[(o,i)])).wt=fun y=>if y=o.qb then s.wt o.qb++[(o,i)] else s.wt y:=rfl
 unfold JT;rw[hd,hab,hwt,QH,Vl];by_cases e:x=o.qb
 ·subst e;simp only[if_true]
  rcases hx with ⟨h1,h2⟩ | ⟨h1,_⟩
  ·exact .inl ⟨h1,by rw[h2];simp⟩
  ·exact absurd h1 hn
 ·simp only[if_neg e,if_neg (Ne.symm e),B5];exact hx
theorem JJ.skip {pre:List hsOp} {s:LS} (h:JJ pre s) {o:hsOp} (hn:o.qb∈s.ab):JJ (pre++[o]) s:=by
 intro x;have hx:=h x;unfold JT;rw[QH,Vl];by_cases e:o.qb=x
 ·subst e;simp only[if_true]
  rcases hx with ⟨h1,_⟩ | ⟨h1,h2,D,w,E,h3,h4⟩
  ·exact absurd hn h1
  ·exact .inr ⟨h1,h2,D,w,E++[o],h3,by rw[h4];simp⟩
 ·simp only[if_neg e,B5];exact hx
theorem Hh {s:LS} (h:InvL s) (t:Int) (l:List (hsOp×Int)):InvL (putW s t l):=⟨h.sh,h.ex,h.good⟩
theorem qad {k:Nat} {pre:List hsOp} {s s2:LS} {m:Nat} (h:OkK k s) (hk:k<1000000) (hi:InvL s) (hj:JJ pre s) {o:hsOp} (ho:OkOp o) (e:stepL m s o k=some s2):InvL s2∧JJ (pre++[o]) s2:=by
 unfold stepL at e;split at e
 ·rename_i h1;cases e;exact⟨hi,hj.skip h1⟩
 ·rename_i h1;have hp:=h.push hk ho;have hj2:=hj.push (i:=(k:Int)) h1;split at e
  ·cases e;exact⟨Hh hi _ _,hj2⟩
  ·rename_i hne
   have hne:s.wt o.qb=[]:=by
    cases hw:s.wt o.qb with
    | nil=>rfl
    | cons a b=>rw[hw]at hne;exact absurd (by simp) hne
   rw[hne]at hp hj2;obtain⟨r,h3,h4⟩:=ql e;obtain⟨a,b⟩:=ZC m _ _ _ _ hp.ok (Hh hi _ _) hj2 h3;split at h4
   ·exact VA m m _ _ (OkS.goOn m _ _ _ _ hp.ok h3) a b h4
   ·cases h4;exact⟨a,b⟩
theorem Hb {m:Nat}:∀ (l:List hsOp) (k:Nat) (pre:List hsOp) (s s2:LS),OkK k s→InvL s→JJ pre s→(∀ o,o∈l→OkOp o)→k+l.length<1000000→runL m s k l=some s2→OkK (k+l.length) s2∧InvL s2∧JJ (pre++l) s2
 | [],k,pre,s,s2,h,hi,hj,_,_,e=>by
  cases e;exact⟨h,hi,by rw[B5];exact hj⟩
 | o::l,k,pre,s,s2,h,hi,hj,ho,hk,e=>by
  simp only[C2]at hk;obtain⟨s1,h1,h2⟩:=ql (show ((stepL m s o k).bind fun s'=>runL m s' ((k:Int)+1) l)=some s2 from e);have hs1:=h.step (by omega) (ho o (.head _)) h1;obtain⟨a,b⟩:=qad h (by omega) hi hj (ho o (.head _)) h1;obtain⟨c1,c2,c3⟩:=Hb l (k+1) (pre++[o]) s1 s2 hs1 a b (fun x hx=>ho x (.tail _ hx)) (by omega) h2;refine⟨?_,c2,by rw[C4]at c3;exact c3⟩;rw[C2,show k+(l.length+1)=k+1+l.length by omega];exact c1
theorem JJ.zero:JJ [] LS.zero:=fun t=>.inl ⟨by simp[LS.zero],rfl⟩
theorem InvL.zero:InvL LS.zero:=⟨rfl,rfl,Good.nil⟩
theorem NZ {m:Nat} (hm:3<m):∀ (q p:List hsOp) (s:LS),Good (p++q)→s.sh=(lkS p).sh→s.ex=(lkS p).ex→s.done=p→s.ab=[]→s.wt=(fun _=>[])→∀ i:Int,∃ s2,runL m s i q=some s2∧s2.done=p++q∧s2.ab=[]∧s2.wt=fun _=>[]
 | [],p,s,_,_,_,hd,ha,hw,i=>⟨s,rfl,by rw[hd,B5],ha,hw⟩
 | o::q,p,s,hg,h1,h2,hd,ha,hw,i=>by
  obtain⟨m2,rfl⟩:∃ m2,m=m2+2:=⟨m - 2,by omega⟩
  have hns:¬ Stuck (putW s o.qb [(o,i)]) o:=fun ⟨hk,x,hx⟩=>hg p o q rfl hk x ((VN (s:=putW s o.qb [(o,i)]) (s':=lkS p) h1 h2 o x).1 hx)
  have hwo:(putW s o.qb [(o,i)]).wt o.qb=[(o,i)]:=by show (if o.qb=o.qb then [(o,i)] else s.wt o.qb)=_;rw[if_pos rfl]
  obtain⟨sd,esd⟩:∃ sd,sd=doL (putW s o.qb [(o,i)]) o.qb o []:=⟨_,rfl⟩
  have hgo:goOnL (m2+2) (putW s o.qb [(o,i)]) o.qb false=some (sd,decide (1<o.qh)):=by
   rw[Hy (m2+1) _ _ _ hwo hns,← esd]
   have hwd:sd.wt o.qb=[]:=by rw[esd,ZF];simp
   unfold goOnL;rw[hwd];simp
  have hdwt:sd.wt=fun _=>[]:=by
   rw[esd,ZF]
   funext x
   by_cases e:x=o.qb
   ·simp[e]
   ·show (if x=o.qb then [] else (if x=o.qb then [(o,i)] else s.wt x))=[];rw[if_neg e,if_neg e,hw]
  have hdd:sd.done=p++[o]:=by rw[esd,XV];show s.done++[o]=_;rw[hd]
  have hda:sd.ab=[]:=by rw[esd,qbm];exact ha
  have hsh:sd.sh=(lkS (p++[o])).sh:=by
   rw[esd,Xe];show (if o.qh≤1 then takeL (putW s o.qb [(o,i)]) o else relL (putW s o.qb [(o,i)]) o.qb).sh=_;split
   ·exact (QO (s:=putW s o.qb [(o,i)]) (s':=lkS p) h1 h2 o).1
   ·exact (JU (s:=putW s o.qb [(o,i)]) (s':=lkS p) h1 h2 _).1
  have hex:sd.ex=(lkS (p++[o])).ex:=by
   rw[esd,Xe];show (if o.qh≤1 then takeL (putW s o.qb [(o,i)]) o else relL (putW s o.qb [(o,i)]) o.qb).ex=_;split
   ·exact (QO (s:=putW s o.qb [(o,i)]) (s':=lkS p) h1 h2 o).2
   ·exact (JU (s:=putW s o.qb [(o,i)]) (s':=lkS p) h1 h2 _).2
  have hre:retryL (m2+2) (m2+2) sd=some sd:=by
   have hb:bestL sd=0:=by
    have hB:∀ b,BestL sd b→b=0:=fun b hb=>by
     rcases hb with h | ⟨_,⟨a,r,e,_⟩,_⟩
     ·exact h.1
     ·rw[hdwt]at e;cases e
    unfold bestL;split
    ·rename_i h;exact hB _ h.choose_spec
    ·rfl
   unfold retryL;rw[if_pos hb]
  have hstep:stepL (m2+2) s o i=some sd:=by
   unfold stepL;rw[if_neg (by rw[ha];simp),if_neg (by rw[hw];simp),hgo,A7];split
   ·exact hre
   ·rfl
  obtain⟨s2,a1,a2,a3,a4⟩:=NZ hm q (p++[o]) sd (by rw[C4];exact hg) hsh hex hdd hda hdwt (i+1);refine⟨s2,?_,by rw[a2];simp,a3,a4⟩;unfold runL;rw[hstep,A7];exact a1
end Go.AM
namespace Go.AM
variable {P:Program} {n:Nat} {α:Type} {enc:α→AV}
def Flat (enc:α→AV):Prop:=∀ x,(enc x).one=true∧(enc x).strip=enc x∧(enc x).cells=[enc x]
theorem Flat.all (h:Flat enc) (l:List α):(l.map enc).all AV.one=true:=by
 rw[List.all_map,List.all_eq_true]
 exact fun x _=>(h x).1
theorem WO.one {all ops:List Oper} {Q:Env→Prop} {en e1:Env} {o:Oper} (hw:awanted all o en=some true) (hst:astep P n o en=some e1) (h:WO P n false all ops Q e1):WO P n false all (o::ops) Q en:=by
 refine WO.step (e1:=e1) ?_ h;unfold step1;rw[hw];exact hst
end Go.AM
namespace Go.AM
end Go.AM
namespace Go.Proofs
open Go.RowKit Go.AM
structure FB (w:World) (bf:Nat) (w':World):Prop where
 os:w'.os=w.os
 tape:w'.tape=w.tape
 output:w'.output=w.output
 size:w.heap.size≤w'.heap.size
 block:∀ k,k<w.heap.size→k≠bf→w'.heap[k]? = w.heap[k]?
 box:∃ fv,w'.heap[bf]? = some (.cells #[fv] 24 (0,0))
theorem FB.cons {M:Mem} {w w1:World} {bf:Nat} (h:FB w bf w1) (hC:Cons M w) (hf:∀ o,M bf o=none):Cons M w1 :=
 hC.of_blocks fun b o u hu hb=>h.block b hb fun e=>by rw[e,hf]at hu;cases hu
end Go.Proofs
namespace Go.AM
open Go.Proofs
open Go.Proofs
def bigFuel:Nat:=36893488147419103232
theorem VJ {α:Type} {l:List α} (h:l.length≤9223372036854775807):lenOk l=true:=B9 (by omega)
theorem Ju {α:Type} {x:Option α}:chk true x=x:=rfl
theorem wr {i:Int} (h1 : -9000000000000000000≤i) (h2:i≤9000000000000000000):IntKind.wrap .i64 i=i:=DS (by omega) (by omega)
theorem capS {b n:Nat} (hb:b≤1000) (hn:n≤100000):capOk b n=true:=by
 have:n * b≤100000 * 1000:=Nat.mul_le_mul hn hb;simp only[capOk,B0,Nat.ble_eq];omega
theorem wf6 {i:Int} (h1 : -1000≤i) (h2:i≤1000):wfI .i64 i=true:=by
 unfold wfI Lit.wf;simp[IntKind.min,IntKind.max,IntKind.signed,IntKind.bits];omega
theorem qbN {α:Type} {l:List α} {i:Nat} {x:α} (h:l[i]? = some x):idx l ((i:Nat):Int)=some x:=by
 unfold idx;rw[if_pos (Int.natCast_nonneg _),Int.toNat_natCast];exact h
theorem UJ {V:Type} (z v:V) (k t:Int):∀ l:List (Int×V),mget keq1 z t (mset keq1 k v l)=if k=t then v else mget keq1 z t l
 | []=>by
  unfold mset mget mget keq1;by_cases h:k=t
  ·subst h;simp
  ·have:(k == t)=false:=beq_eq_false_iff_ne.2 h;rw[this,if_neg h];rfl
 | p::r=>by
  have ih:=UJ z v k t r;unfold mset;by_cases hk:p.1=k
  ·have e1:keq1 p.1 k=true:=by unfold keq1;simp[hk]
   rw[e1];simp only[cond_true];unfold mget;have e2:keq1 (p.1,v).1 t=keq1 p.1 t:=rfl;rw[e2];by_cases h:k=t
   ·rw[if_pos h]
    have:keq1 p.1 t=true:=by unfold keq1;simp[hk,h]
    rw[this];rfl
   ·rw[if_neg h]
    have:keq1 p.1 t=false:=by unfold keq1;rw[hk];exact beq_eq_false_iff_ne.2 h
    rw[this];rfl
  ·have e1:keq1 p.1 k=false:=by unfold keq1;exact beq_eq_false_iff_ne.2 hk
   rw[e1];simp only[cond_false];unfold mget;rw[ih];by_cases hp:p.1=t
   ·have e2:keq1 p.1 t=true:=by unfold keq1;simp[hp]
    have h:¬ k=t:=fun e=>hk (by rw[hp,e])
    simp only[e2,if_neg h]
   ·have e2:keq1 p.1 t=false:=by unfold keq1;exact beq_eq_false_iff_ne.2 hp
    rw[e2];rfl
theorem Hp {V:Type} (k:Int) (v:V):∀ l:List (Int×V),(mset keq1 k v l).length≤l.length+1
 | []=>by simp[mset]
 | p::r=>by
  have:=Hp k v r;unfold mset;cases keq1 p.1 k <;> simp <;> omega
def cv (x:rf5Op):hsOp:=hsOp.mk x.qb x.qh x.qi
theorem qbI (K:List hsOp→Option (List hsOp)):∀ (r:List rf5Op) (k:Nat) (v:List hsOp),v.length=k→k≤43→Je K r k v=K (v++(r.take (43 - k)).map cv)
 | [],k,v,hv,hk=>by rw[Je.eq_1];simp
 | x::r,k,v,hv,hk=>by
  rw[Je.eq_2];by_cases h:k=43
  ·subst h;rw[decide_eq_true (by omega)];simp
  ·rw[decide_eq_false (by omega),capS (by omega) (by simp;omega)];simp only[cond_false,Ju];rw[qbI K r (k+1) _ (by simp;omega) (by omega)]
   have:43 - k=(43 - (k+1))+1:=by omega
   rw[this,List.take_succ_cons,C5,C4];rfl
theorem qbL {h:List rf5Op} (hl:lenOk h=true):VG h=some ((h.take 43).map cv):=by
 unfold VG;rw[hl,Ju,qbI _ h 0 [] rfl (by omega)];rfl
def bad6 (x:rf5Op):Bool:=decide (x.qb<1) || (decide (x.qb > 6) || (decide (x.qh<0) || (decide (x.qh > 3) || (decide (x.qi<0) || decide (x.qi > 5)))))
def ended (t:Int) (l:List rf5Op):Bool:=l.any fun p=>(p.qb == t) && decide (p.qh > 1)
def okFrom (pre:List rf5Op):List rf5Op→Bool
 | []=>true
 | x::r=>(!bad6 x && (!(decide (x.qh > 1) && (x.qi != 0)) && !ended x.qb pre)) && okFrom (pre++[x]) r
theorem chain6 {β:Type} (a z:β) (d1 d2 d3 d4 d5 d6:Bool):(bif d1 then a else bif d2 then a else bif d3 then a else bif d4 then a else bif d5 then a else bif d6 then a else z)=bif (d1 || (d2 || (d3 || (d4 || (d5 || d6))))) then a else z:=by
 cases d1 <;> cases d2 <;> cases d3 <;> cases d4 <;> cases d5 <;> cases d6 <;> rfl
def validB (h:List rf5Op):Bool:=okFrom [] h && decide (h.length≤40)
theorem UC (K:Option Bool):∀ (r:List rf5Op) (k:Nat) (pre:List rf5Op) (m:List (Int×Bool)),(∀ t,mget keq1 false t m=ended t pre)→m.length≤pre.length→pre.length+r.length≤1000 →
  qL K (r.map cv) k m=bif okFrom pre r then K else some false
 | [],k,pre,m,_,_,_=>by rw[List.map_nil,qL.eq_1];rfl
 | x::r,k,pre,m,hm,hml,hl=>by
  have hl:pre.length+(r.length+1)≤1000:=hl
  have ih:=fun m' h1 h2=>UC K r (k+1) (pre++[x]) m' h1 h2 (by simp;omega)
  rw[C5,qL.eq_2];unfold JL qM;simp only[chain6]
  have e5:decide ((cv x).qi ≥ 6)=decide (x.qi > 5):=by
   by_cases hc:x.qi > 5
   ·rw[decide_eq_true hc];exact decide_eq_true (show x.qi ≥ 6 by omega)
   ·rw[decide_eq_false hc];exact decide_eq_false (show ¬ x.qi ≥ 6 by omega)
  rw[e5];have:(decide ((cv x).qb<1) || (decide ((cv x).qb > 6) || (decide ((cv x).qh<0) || (decide ((cv x).qh > 3) || (decide ((cv x).qi<0) || decide (x.qi > 5))))))=bad6 x:=rfl;rw[this];show _=bif (!bad6 x && (!(decide (x.qh > 1) && (x.qi != 0)) && !ended x.qb pre)) && okFrom (pre++[x]) r then K else some false
  cases hb:bad6 x with
  | true =>
   simp only[cond_true];cases ((cv x).qh == 2) <;> rfl
  | false =>
   simp only[bad6,C6,decide_eq_false_iff_not]at hb;obtain⟨b1,b2,b3,b4,b5,b6⟩:=hb;have hwf:wfI .i64 (cv x).qb=true:=wf6 (by show -1000≤x.qb;omega) (by show x.qb≤1000;omega);have hml2:Nat.blt m.length 1000000000=true:=B9 (by omega);have hmt:mget keq1 false (cv x).qb m=ended x.qb pre:=hm x.qb;simp only[cond_false,hwf,Ju,hml2,hmt]
   have hstep:∀ b:Bool,b=decide (x.qh > 1)→ended x.qb pre=false→qL K (r.map cv) (k+1) (mset keq1 (cv x).qb b m)=bif okFrom (pre++[x]) r then K else some false:=by
    intro b hb2 hen;refine ih _ (fun t=>?_) (by have:=Hp x.qb b m;rw[C0,C9];show (mset keq1 x.qb b m).length≤_;omega);show mget keq1 false t (mset keq1 x.qb b m)=_;rw[UJ,hm];unfold ended at hen ⊢;rw[List.any_append,List.any_cons,List.any_nil,Bool.or_false];by_cases ht:x.qb=t
    ·subst ht;rw[if_pos rfl,hen,hb2];simp
    ·rw[if_neg ht];have:(x.qb == t)=false:=beq_eq_false_iff_ne.2 ht;rw[this];simp
   have k2:((cv x).qh == 2)=(x.qh == 2):=rfl;have k3:((cv x).qh == 3)=(x.qh == 3):=rfl;have i0:((cv x).qi != 0)=(x.qi != 0):=rfl;rw[k2,k3,i0];by_cases hk:x.qh > 1
   ·have h23:(x.qh == 2)=true∨(x.qh == 2)=false∧(x.qh == 3)=true:=by
     by_cases h2:x.qh=2
     ·left;simp[h2]
     ·right;exact⟨beq_eq_false_iff_ne.2 h2,by simp;omega⟩
    have hst:=hstep true (decide_eq_true hk).symm;rw[decide_eq_true hk]
    cases hi:(x.qi != 0) with
    | true=>rcases h23 with h2 | ⟨h2,h3⟩ <;> simp[*]
    | false =>
     cases hen:ended x.qb pre with
     | true=>rcases h23 with h2 | ⟨h2,h3⟩ <;> simp[*]
     | false =>
      have:=hst hen
      rcases h23 with h2 | ⟨h2,h3⟩ <;> simp[*]
   ·have h2:(x.qh == 2)=false:=beq_eq_false_iff_ne.2 (by omega);have h3:(x.qh == 3)=false:=beq_eq_false_iff_ne.2 (by omega);have hst:=hstep false (decide_eq_false hk).symm;rw[decide_eq_false hk,h2,h3]
    cases hen:ended x.qb pre with
    | true=>simp
    | false =>
     have:=hst hen;simp[*]
theorem Yz {h:List rf5Op} (hl:h.length≤1000):Qk (h.map cv)=some (validB h):=by
 unfold Qk validB;rw[A8];by_cases hc:h.length≤40
 ·rw[decide_eq_false (by omega),VJ (by simp;omega),decide_eq_true hc];simp only[cond_false,Ju];rw[UC _ h 0 [] [] (fun t=>rfl) (by simp) (by simp;omega)];unfold js;cases okFrom [] h <;> rfl
 ·rw[decide_eq_true (by omega),decide_eq_false hc];simp
theorem Dc {h:List rf5Op}:Qk ((h.take 43).map cv)=some (validB h):=by
 rw[Yz (by rw[List.length_take];omega)];by_cases hc:h.length≤43
 ·rw[D0 hc]
 ·unfold validB;rw[decide_eq_false (p:=h.length≤40) (by omega),decide_eq_false (p:=(h.take 43).length≤40) (by rw[List.length_take];omega)];simp
theorem VE:∀ (r pre:List rf5Op),okFrom pre r=true→∀ x,x∈r→bad6 x=false∧(x.qh > 1→x.qi=0)
 | [],pre,_,x,hx=>by cases hx
 | y::r,pre,h,x,hx=>by
  unfold okFrom at h;simp only[B0,Bool.not_eq_true']at h;obtain⟨⟨h1,h2,h3⟩,h4⟩:=h
  rcases List.mem_cons.1 hx with rfl | hx
  ·refine⟨h1,fun hk=>?_⟩;rw[decide_eq_true hk]at h2
   simpa using h2
  ·exact VE r _ h4 x hx
structure Hist (h:List rf5Op):Prop where
 len:h.length≤1000
 txn:∀ x,x∈h→1≤x.qb∧x.qb≤6
 kind:∀ x,x∈h→0≤x.qh∧x.qh≤3
 item:∀ x,x∈h→0≤x.qi∧x.qi≤5
 zero:∀ x,x∈h→x.qh > 1→x.qi=0
theorem Yj {h:List rf5Op} (hv:validB h=true):Hist h∧h.length≤40:=by
 unfold validB at hv;simp only[B0,decide_eq_true_eq]at hv;have hm:=VE h [] hv.1
 have hb:∀ x,x∈h→(1≤x.qb∧x.qb≤6)∧(0≤x.qh∧x.qh≤3)∧(0≤x.qi∧x.qi≤5):=by
  intro x hx;have:=(hm x hx).1;simp only[bad6,C6,decide_eq_false_iff_not]at this;omega
 exact⟨⟨by omega,fun x hx=>(hb x hx).1,fun x hx=>(hb x hx).2.1,fun x hx=>(hb x hx).2.2,fun x hx=>(hm x hx).2⟩,hv.2⟩
def endL (t k:Int):List rf5Op→Nat→Int
 | [],_ => -1
 | x::r,i=>bif (x.qb == t) && (x.qh == k) then (i:Int) else endL t k r (i+1)
theorem Hx {t k:Int} (hk:k > 1):∀ (r:List rf5Op) (i:Nat),(∀ x,x∈r→x.qh > 1→x.qi=0)→qT (hsOp.mk t k 0) (jJ) (r.map cv) i=some (endL t k r i)
 | [],i,_=>by rw[List.map_nil,qT.eq_1];rfl
 | x::r,i,hz=>by
  rw[C5,qT.eq_2,Hx hk r (i+1) fun y hy=>hz y (List.mem_cons_of_mem _ hy)]
  have:((t == (cv x).qb) && ((k == (cv x).qh) && (((0:Int) == (cv x).qi) && true)))=((x.qb == t) && (x.qh == k)):=by
   show ((t == x.qb) && ((k == x.qh) && (((0:Int) == x.qi) && true)))=_;rw[Bool.beq_comm (a:=t),Bool.beq_comm (a:=k)];by_cases h1:x.qh=k
   ·have:=hz x (List.mem_cons_self ..) (by omega);rw[this];simp
   ·have:(x.qh == k)=false:=beq_eq_false_iff_ne.2 h1;rw[this];simp
  rw[this];show _=some (bif (x.qb == t) && (x.qh == k) then (i:Int) else endL t k r (i+1));cases (x.qb == t) && (x.qh == k) <;> rfl
theorem qaz {h:List rf5Op} (H:Hist h) {t k:Int} (hk:k > 1):Jp (h.map cv) (hsOp.mk t k 0)=some (endL t k h 0):=by
 have:=H.len;unfold Jp;rw[VJ (by simp;omega),Ju];exact Hx hk h 0 H.zero
def endMap (f:Int→Int):List (Int×Int):=[(1,f 1),(2,f 2),(3,f 3),(4,f 4),(5,f 5),(6,f 6)]
theorem JC {h:List rf5Op} (H:Hist h) {k:Int} (hk:k > 1) (K:List (Int×Int)→Option (List (Int×Int))) {m:Nat} {v:List (Int×Int)} (t t':Int) (h1:1≤t) (h2:t≤6) (ht:t'=t+1) (hv:v.length≤10) :
  qv (h.map cv) k K (m+1) v t=qv (h.map cv) k K m (mset keq1 t (endL t k h 0) v) t':=by
 subst ht;rw[qv.eq_2,decide_eq_true h2,qaz H hk];simp only[cond_true,A7];rw[wf6 (by omega) (by omega),Ju,B9 (show v.length+1≤1000000000 by omega) |> (fun e=>show Nat.blt v.length 1000000000=true from e),Ju,wr (by omega) (by omega)]
theorem DK {h:List rf5Op} (H:Hist h) {k:Int} (hk:k > 1):jm bigFuel (h.map cv) k=some (endMap fun t=>endL t k h 0):=by
 unfold jm;have e:bigFuel=36893488147419103225+1+1+1+1+1+1+1:=rfl;rw[e,JC H hk _ 1 2 (by omega) (by omega) rfl (by simp),JC H hk _ 2 3 (by omega) (by omega) rfl (B6 rfl),JC H hk _ 3 4 (by omega) (by omega) rfl (B6 rfl),JC H hk _ 4 5 (by omega) (by omega) rfl (B6 rfl),JC H hk _ 5 6 (by omega) (by omega) rfl (B6 rfl),JC H hk _ 6 7 (by omega) (by omega) rfl (B6 rfl)];rw[qv.eq_2,decide_eq_false (by omega)];rfl
theorem qaT {l:List Int} (hm:l.Pairwise fun a b=>a≤b):sortI l=l:=by
 have h1:(sortI l).Pairwise fun a b=>decide (a≤b)=true:=List.pairwise_mergeSort (by intro a b c;simp;omega) (by intro a b;simp;omega) l
 refine List.Perm.eq_of_pairwise (le:=fun a b=>a≤b) (fun a b _ _ x y=>by omega) (h1.imp fun h=>by simpa using h) hm (List.mergeSort_perm l _)
def commL (h:List rf5Op):List Int:=([1,2,3,4,5,6]:List Int).filter fun t=>decide (endL t 2 h 0 ≥ 0)
theorem qbn (f:Int→Int):comm (endMap f)=([1,2,3,4,5,6]:List Int).filter fun t=>decide (f t ≥ 0):=by
 have:endMap f=([1,2,3,4,5,6]:List Int).map fun t=>(t,f t):=rfl
 unfold comm;rw[this,List.filter_map,C7];have e:(B7 ∘ fun t:Int=>(t,f t))=id:=rfl;rw[e,List.map_id];rfl
theorem Uo {h:List rf5Op} (H:Hist h):qY bigFuel (h.map cv)=some (commL h):=by
 unfold qY;rw[DK H (by omega)];simp only[A7];have:decide ((endMap fun t=>endL t 2 h 0).length≤1000)=true:=rfl;rw[this,Ju,qbn]
 have hp:(([1,2,3,4,5,6]:List Int).filter fun t=>decide (endL t 2 h 0 ≥ 0)).Pairwise fun a b=>a≤b:=by
  refine List.Pairwise.filter _ ?_
  decide
 rw[qaT hp];rfl
def sample:List rf5Op:=[⟨2,1,0⟩,⟨1,0,0⟩,⟨1,2,0⟩,⟨2,2,0⟩]
theorem NX:Hist sample:=(Yj (by rfl)).1
theorem qaJ:Qz bigFuel=some true:=by
 have e:[(hsOp.mk 2 1 0),(hsOp.mk 1 0 0),(hsOp.mk 1 2 0),(hsOp.mk 2 2 0)]=sample.map cv:=rfl;have hc:=Uo NX;have hcl:commL sample=[1,2]:=rfl;rw[hcl]at hc
 have ho:XS bigFuel (sample.map cv)=some ([2,1],0):=by
  unfold XS Jy;rw[hc]
  kernel_rfl
 unfold Qz;rw[e,ho];rfl
theorem UG:∀ (r pre:List rf5Op) (i:Nat) (x:rf5Op),okFrom pre r=true→r[i]? = some x→ended x.qb (pre++r.take i)=false
 | [],pre,i,x,_,hx=>by simp at hx
 | y::r,pre,0,x,h,hx=>by
  unfold okFrom at h;simp only[B0,Bool.not_eq_true']at h;simp only[List.getElem?_cons_zero,Option.some.injEq]at hx;subst hx
  simpa using h.1.2.2
 | y::r,pre,i+1,x,h,hx=>by
  unfold okFrom at h;simp only[B0]at h;have:=UG r (pre++[y]) i x h.2 (by simpa using hx)
  simpa using this
def uv (o:hsOp):rf5Op:=rf5Op.mk o.qb o.qh o.qi
theorem qbT (o:hsOp):cv (uv o)=o:=rfl
theorem qbP (x:rf5Op):uv (cv x)=x:=rfl
theorem VV (l:List hsOp):(l.map uv).map cv=l:=by
 rw[C7];exact List.map_id'' (fun o=>qbT o) l
theorem qbJ (l:List rf5Op):(l.map cv).map uv=l:=by
 rw[C7];exact List.map_id'' (fun o=>qbP o) l
def VH (l:List hsOp):Prop:=∀ p o q,l=p++o::q→OkOp o∧(1<o.qh→o.qi=0)∧∀ e,e∈p→e.qb=o.qb→e.qh≤1
theorem UF:∀ (r pre:List rf5Op),(∀ p x q,pre++r=p++x::q→pre.length≤p.length→bad6 x=false∧(x.qh > 1→x.qi=0)∧ended x.qb p=false)→okFrom pre r=true
 | [],_,_=>rfl
 | x::r,pre,h=>by
  obtain⟨h1,h2,h3⟩:=h pre x r rfl (A9 _)
  have ih:=UF r (pre++[x]) fun p y q e hl=>by
   refine h p y q (by rw[← e];simp) ?_;rw[C0,C9]at hl;omega
  unfold okFrom;rw[ih,h1,h3];by_cases hk:x.qh > 1
  ·rw[h2 hk];simp
  ·rw[decide_eq_false hk];rfl
theorem qaP {l:List hsOp} (h:VH l) (hl:l.length≤40):validB (l.map uv)=true:=by
 unfold validB;rw[decide_eq_true (by rw[A8];exact hl),Bool.and_true]
 refine UF _ [] fun p x q e _=>?_
 have e2:l=p.map cv++cv x::q.map cv:=by
  rw[C8]at e;rw[← VV l,e];simp
 obtain⟨⟨a1,a2,a3,a4,a5,a6⟩,b,c⟩:=h _ _ _ e2;refine⟨?_,b,?_⟩
 ·simp only[bad6,C6,decide_eq_false_iff_not];have a1:1≤x.qb:=a1;have a2:x.qb≤6:=a2;have a3:0≤x.qh:=a3;have a4:x.qh≤3:=a4;have a5:0≤x.qi:=a5;have a6:x.qi≤5:=a6;omega
 ·unfold ended;rw[List.any_eq_false];intro y hy;simp only[B0,beq_iff_eq,decide_eq_true_eq,not_and];intro ht;have:=c (cv y) (List.mem_map.2 ⟨y,hy,rfl⟩) ht;have:y.qh≤1:=this;omega
theorem qbv {h:List rf5Op} (hv:validB h=true):VH (h.map cv):=by
 obtain⟨H,_⟩:=Yj hv;unfold validB at hv;simp only[B0,decide_eq_true_eq]at hv;intro p o q e
 have e2:h=p.map uv++uv o::q.map uv:=by
  have:=congrArg (List.map uv) e;rw[qbJ]at this;rw[this];simp
 have hx:h[p.length]? = some (uv o):=by rw[e2,List.getElem?_append_right (by simp)];simp
 have hm:=List.mem_of_getElem? hx;have hen:=UG h [] p.length (uv o) hv.1 hx;rw[C8]at hen
 have htk:h.take p.length=p.map uv:=by rw[e2,List.take_left' (by simp)]
 rw[htk]at hen;have t:=H.txn _ hm;have k:=H.kind _ hm;have i:=H.item _ hm;refine⟨⟨t.1,t.2,k.1,k.2,i.1,i.2⟩,H.zero _ hm,fun y hy ht=>?_⟩;unfold ended at hen;rw[List.any_eq_false]at hen;have:=hen (uv y) (List.mem_map.2 ⟨y,hy,rfl⟩);simp only[B0,beq_iff_eq,decide_eq_true_eq,not_and]at this;have:=this ht;have:¬ y.qh > 1:=this;omega
theorem VH.ofT {l:List hsOp} (h:VH l) {t:Int} {p q:List hsOp} {o:hsOp} (e:ofT t l=p++o::q):OkOp o∧(1<o.qh→o.qi=0)∧o.qb=t∧∀ y,y∈p→y.qh≤1:=by
 unfold Go.AM.ofT at e;obtain⟨l1,l2,rfl,h1,h2⟩:=List.filter_eq_append_iff.1 e;obtain⟨m1,m2,rfl,h3,h4,h5⟩:=List.filter_eq_cons_iff.1 h2
 have ht:o.qb=t:=by simpa using h4
 obtain⟨a,b,c⟩:=h (l1++m1) o m2 (by simp);refine⟨a,b,ht,fun y hy=>?_⟩;rw[← h1]at hy;have hy2:=List.mem_filter.1 hy;exact c y (List.mem_append_left _ hy2.1) (by rw[ht];simpa using hy2.2)
theorem JJ.valid {pre:List hsOp} {s:LS} (hj:JJ pre s) (hv:VH pre):VH s.done:=by
 intro p o q e
 have hft:ofT o.qb s.done=ofT o.qb p++o::ofT o.qb q:=by
  rw[e,QH]
  congr 1
  unfold ofT;rw[List.filter_cons];simp
 have key:∀ y,y∈p→y.qb=o.qb→y∈ofT o.qb p:=fun y hy ht=>List.mem_filter.2 ⟨hy,by simpa using ht⟩
 rcases hj o.qb with ⟨h1,h2⟩ | ⟨h1,h2,D,w,E,h3,h4⟩
 ·rw[hft]at h2;obtain⟨a,b,_,c⟩:=hv.ofT (t:=o.qb) (p:=ofT o.qb p) (o:=o) (q:=ofT o.qb q++(s.wt o.qb).map B7) (by rw[h2];simp);exact⟨a,b,fun y hy ht=>c y (key y hy ht)⟩
 ·rw[hft]at h3;obtain⟨a,b,tw,c⟩:=hv.ofT h4
  rcases Vv h3.symm with ⟨_,e1,e2⟩ | ⟨q',e1,e2⟩
  ·have e3:o.qh=3∧o.qi=0:=by
    have:=congrArg hsOp.qh e2;have:=congrArg hsOp.qi e2;exact⟨by assumption,by assumption⟩
   refine⟨⟨by rw[← tw];exact a.1,by rw[← tw];exact a.2.1,by omega,by omega,by omega,by omega⟩,fun _=>e3.2,fun y hy ht=>?_⟩;exact c y (by rw[← e1];exact key y hy ht)
  ·rw[e2]at h4;obtain⟨a',b',_,c'⟩:=hv.ofT (t:=o.qb) (p:=ofT o.qb p) (o:=o) (q:=q'++w::E) (by rw[h4];simp);exact⟨a',b',fun y hy ht=>c' y (key y hy ht)⟩
theorem Nx {h:List rf5Op} (hv:validB h=false):lockP bigFuel ((h.take 43).map cv)=some ([],[],2):=by
 unfold lockP;rw[Dc,hv];rfl
open Classical in
theorem Hr {l:List hsOp} {m:Nat} {s:LS} (hv:Qk l=some true) (hl:l.length≤100000) (ho:∀ o,o∈l→OkOp o) (hr:runL m LS.zero 0 l=some s):lockP m l=some (s.done,s.ab,0):=by
 unfold lockP;rw[hv];simp only[A7,cond_true];rw[decide_eq_true hl,Ju,if_pos ho,hr,A7]
theorem DE {h:List rf5Op} (hv:validB h=true):∃ s,lockP bigFuel (h.map cv)=some (s.done,s.ab,0)∧OkK h.length s∧InvL s∧JJ (h.map cv) s:=by
 obtain⟨H,h40⟩:=Yj hv
 have ho:∀ o,o∈h.map cv→OkOp o:=fun o hm=>by
  obtain⟨p,q,e⟩:=List.append_of_mem hm;exact (qbv hv p o q e).1
 have hb:1000<bigFuel:=by unfold bigFuel;omega
 obtain⟨s,hs⟩:=UA (m:=bigFuel) (h.map cv) 0 LS.zero OkK.zero ho (by rw[A8];omega) (by rw[A8];omega);obtain⟨a,b,c⟩:=Hb (m:=bigFuel) (h.map cv) 0 [] LS.zero s OkK.zero InvL.zero JJ.zero ho (by rw[A8];omega) hs;rw[A8,Nat.zero_add]at a;refine⟨s,Hr ?_ (by rw[A8];omega) ho hs,a,b,c⟩;rw[Yz (by omega),hv]
theorem qax {l:List hsOp} (hv:validB (l.map uv)=true) (hg:Good l):lockP bigFuel l=some (l,[],0):=by
 obtain⟨H,h40⟩:=Yj hv;rw[A8]at h40
 have ho:∀ o,o∈l→OkOp o:=fun o hm=>by
  obtain⟨p,q,e⟩:=List.append_of_mem hm;exact (qbv hv p o q (by rw[VV];exact e)).1
 have hb:1000<bigFuel:=by unfold bigFuel;omega
 obtain⟨s,a,b,c,_⟩:=NZ (m:=bigFuel) (by omega) l [] LS.zero hg rfl rfl rfl rfl rfl 0;rw[← VV l]at *;rw[VV]at *;rw[Hr (s:=s) ?_ (by omega) ho a,b,c,C8];have:=Yz (h:=l.map uv) (by rw[A8];omega);rw[VV,hv]at this;exact this
theorem DL {h:List rf5Op} (hv:validB h=true) {s:LS} (hk:OkK h.length s) (hj:JJ (h.map cv) s):validB (s.done.map uv)=true:=by
 obtain⟨_,h40⟩:=Yj hv;exact qaP (hj.valid (qbv hv)) (by have:=hk.ok.tot;omega)
noncomputable def Vn (fuel:Nat) (a1:(List hsOp)):Option ((List hsOp)×(List Int)×Int):=lockP fuel a1
theorem ZM (fuel:Nat) (a1:(List hsOp)) (r:((List hsOp)×(List Int)×Int)) (h:Vn fuel a1=some r):Run Try.prog (.call 32 [l44 none a1] (.tup [l44 none r.1,l3 none r.2.1,I6 r.2.2])):=.ext0 (Try.lock32 h)
def jK:Option Bool :=
 (some true)
def qU (a2:(List hsOp)) (K7:(Option Bool)):List hsOp→Nat→Option Bool
 | [],k1=>K7
 | x1::r1,k1=>((idx a2 (k1:Int)).bind fun e12=>(bif (!((x1.qb == e12.qb) && ((x1.qh == e12.qh) && ((x1.qi == e12.qi) && true)))) then (some false) else (qU a2 K7 r1 (k1+1))))
def Jq (a1:(List hsOp)) (a2:(List hsOp)):Option Bool :=
 (bif ((a1.length:Int) != (a2.length:Int)) then (some false) else (chk (lenOk a1) (qU a2 (jK) a1 0)))
theorem YT (a1:(List hsOp)) (a2:(List hsOp)) (r:Bool) (h:Jq a1 a2=some r):Run Try.prog (.call 36 [l44 none a1,l44 none a2] (.bool r)):=by
 refine cW Try.func36 rfl (env0:=[(0,l44 none a1),(1,l44 none a2)]) ?_;unfold Jq at h;refine W.seq ?_;let z0:=fun t=>EN ((0,l44 none a1)::(1,l44 none a2)::t);refine W.rt (e2:=z0 []) ?_;refine W.seq<|W.sr ?_;let z1:=fun t=>z0 ((6,l44 none a1)::(7,I6 (a1.length:Int))::t);refine WO.pq 1 (jM qN a1) (e1:=z1 [])<|WO.pq 1 (jM qN a2) (e1:=z1 [(8,l44 none a2),(9,I6 (a2.length:Int))])<|WO.fn (e2:=z0 [(10,.bool ((a1.length:Int) != (a2.length:Int)))]) ?_;refine W.ch ((a1.length:Int) != (a2.length:Int)) h (fun h=>?_) (fun h=>?_)
 ·refine W.seq<|W.rt (e2:=[(4,.bool false)]) ?_;refine W.wk (e:=[(4,.bool false)]) ?_;cases h;exact W.rr
 refine W.sw (e:=z0 []) ?_;refine W.seq<|W.join (σ:=Unit) (fun s=>[]) (fun s=>(jK)=some r) (fun s h=>?_) (fun hK7=>?_)
 ·unfold jK at h;refine W.seq<|W.rt (e2:=[(4,.bool true)]) ?_;refine W.wk (e:=[(4,.bool true)]) ?_;cases h;exact W.rr
 refine W.sr<|WO.pq 1 (jM qN a1) (e1:=z0 [(11,l44 none a1),(12,I6 (a1.length:Int))]) ?_;let z2:=fun t=>z0 ((12,I6 (a1.length:Int))::t);refine WO.fn (e2:=z2 [(13,.int .i64 0)]) ?_;refine W.block ?_;obtain⟨hl1,h⟩:=qD h;refine W.wk (e:=z2 [(13,I6 ((0:Nat):Int))])<|W.range (σ:=Unit) a1 (fun k1 s=>z2 [(13,I6 (k1:Int))]) (fun r0 k0 s=>qU a2 (jK) r0 k0=some r) (fun s h=>?_) (fun x1 r1 k1 s hx1 hk1 h hN1=>?_) () h
 ·rw[qU.eq_1]at h;refine W.sr ?_;let y0:Env:=[(1,l44 none a2),(12,I6 (a1.length:Int)),(13,I6 ((a1).length:Int)),(14,.bool false)];refine WO.pq 0 (jB (Jt (l:=a1))) (e1:=((0,l44 none a1)::y0))<|WO.fn (e2:=((0,l44 none a1)::y0)) ?_;refine W.seq<|W.cF<|W.exit<|W.wk (e:=[]) ?_;exact hK7 () h
 ·rw[qU.eq_2]at h;refine W.sr ?_;let y1:Env:=[(1,l44 none a2),(12,I6 (a1.length:Int)),(13,I6 (k1:Int)),(14,.bool true)];let z3:=fun t=>EN ((0,l44 none a1)::t);refine WO.pq 0 (jB (Qc hk1)) (e1:=z3 y1)<|WO.fn (e2:=z3 y1) ?_;refine W.seq<|W.cT<|W.skip ?_;let y2:Env:=[(12,I6 (a1.length:Int)),(13,I6 (k1:Int))];refine W.wk (e:=z0 y2)<|W.seq<|W.block<|W.seq ?_;let z4:=fun t=>z0 ((5,I6 (k1:Int))::t);refine W.rt (e2:=z4 y2) ?_;refine W.sr ?_;let z5:=fun t=>z4 ((12,I6 (a1.length:Int))::(13,I6 (k1:Int))::(16,l44 none a1)::(17,I6 (k1:Int))::(18,.ptr (.agg [I6 x1.qb,I6 x1.qh,I6 x1.qi]))::t);refine WO.pq 2 (Qe (f:=qN) hx1) (e1:=z5 []) ?_;obtain⟨e12,he12,h⟩:=ql h;refine WO.pq 3 (DG (f:=qN) he12) (e1:=z5 [(19,.agg [I6 x1.qb,I6 x1.qh,I6 x1.qi]),(20,l44 none a2),(21,I6 (k1:Int)),(22,.ptr (.agg [I6 e12.qb,I6 e12.qh,I6 e12.qi]))])<|WO.fn (e2:=z2 [(13,I6 (k1:Int)),(24,.bool (!((x1.qb == e12.qb) && ((x1.qh == e12.qh) && ((x1.qi == e12.qi) && true)))))]) ?_;refine W.ch (!((x1.qb == e12.qb) && ((x1.qh == e12.qh) && ((x1.qi == e12.qi) && true)))) h (fun h=>?_) (fun h=>?_)
  ·refine W.seq<|W.rt (e2:=[(4,.bool false)]) ?_;refine W.wk (e:=[(4,.bool false)]) ?_;cases h;exact W.rr
  refine W.sw (e:=z0 y2) ?_;refine W.rg<|WO.pq 0 (jI (jH hl1 hk1)) (e1:=z2 [(13,I6 (k1:Int)),(25,I6 ((k1+1:Nat):Int))])<|WO.fn (e2:=z2 [(13,I6 ((k1+1:Nat):Int))]) ?_;exact hN1 () h
noncomputable def qW (v16:Bool):Option Bool :=
 (some v16)
noncomputable def jF (v10:Bool):Option Bool :=
 (some v10)
noncomputable def Jm (fuel:Nat) (a1:(List rf5Op)):Option Bool :=
 ((VG a1).bind fun w4=>((Vn fuel w4).bind fun w5=>(bif (w5.2.2 != 0) then (bif (w5.2.2 == 2) then ((Qz fuel).bind fun w9=>((jF) w9)) else ((jF) false)) else ((Vn fuel w5.1).bind fun w12=>(bif (w12.2.2 == 0) then ((Jq w5.1 w12.1).bind fun w14=>(bif w14 then (bif ((w12.2.1.length:Int) == 0) then ((Qz fuel).bind fun w15=>((qW) w15)) else ((qW) false)) else ((qW) false))) else ((qW) false))))))
theorem XJ (fuel:Nat) (a1:(List rf5Op)) (r:Bool) (h:Jm fuel a1=some r):Run Try.prog (.call 10 [l43 none a1] (.bool r)):=by
 refine cW Try.func10 rfl (env0:=[(0,l43 none a1)]) ?_;unfold Jm at h;refine W.seq<|W.rt (e2:=[(0,l43 none a1)]) ?_;refine W.sr ?_;obtain⟨w4,hw4,h⟩:=ql h;let z0:=fun t=>EN ((0,l43 none a1)::(9,l43 none a1)::(10,l44 (some 10) w4)::t);refine WO.ck 1 (F:=18) (l:=[l43 none a1]) (C:=[]) (r:=l44 (some 1) w4) (Dp a1 w4 hw4) (e1:=z0 []) ?_;obtain⟨w5,hw5,h⟩:=ql h;refine WO.ck 0 (F:=32) (l:=[l44 none w4]) (C:=[]) (r:=.tup [l44 none w5.1,l3 none w5.2.1,I6 w5.2.2]) (ZM fuel w4 w5 hw5) (e1:=z0 [(11,.tup [l44 none w5.1,l3 none w5.2.1,I6 w5.2.2])]) ?_;let z1:=fun t=>EN ((3,l44 none w5.1)::t);let z2:=fun t=>z1 ((5,I6 w5.2.2)::t);refine WO.fn (e2:=z2 []) ?_;refine W.seq<|W.seq ?_;let z3:=fun t=>z2 ((16,.bool (w5.2.2 != 0))::t);refine W.rt (e2:=z3 []) ?_;refine W.ch (w5.2.2 != 0) h (fun h=>?_) (fun h=>?_)
 ·refine W.seq<|W.join (σ:=(Bool)) (fun s=>[(2,.bool s)]) (fun s=>(jF) s=some r) (fun v10 h=>?_) (fun hK8=>?_)
  ·unfold jF at h;refine W.wk (e:=[(2,.bool v10)]) ?_;cases h;exact W.rr
  refine W.rg<|WO.bh 3 (fun b=>z3 [(17,I6 w5.2.2),(18,.bool b),(19,.bool b)]) (w5.2.2 == 2) h (fun h=>?_) (fun h=>?_)
  ·obtain⟨w9,hw9,h⟩:=ql h;refine WO.ck 0 (F:=21) (l:=[]) (C:=[]) (r:=.bool w9) (Yu fuel w9 hw9) (e1:=z3 [(17,I6 w5.2.2),(18,.bool true),(19,.bool true),(20,.bool w9)])<|WO.fn (e2:=[(2,.bool w9)]) ?_;exact hK8 w9 h
  refine WO.fn (e2:=[(2,.bool false)]) ?_;exact hK8 false h
 refine W.sw (e:=z1 []) ?_;refine W.sr ?_;obtain⟨w12,hw12,h⟩:=ql h;refine WO.ck 1 (F:=32) (l:=[l44 none w5.1]) (C:=[]) (r:=.tup [l44 none w12.1,l3 none w12.2.1,I6 w12.2.2]) (ZM fuel w5.1 w12 hw12) (e1:=z1 [(23,l44 none w5.1),(24,.tup [l44 none w12.1,l3 none w12.2.1,I6 w12.2.2])]) ?_;let z4:=fun t=>z1 ((5,I6 w12.2.2)::(6,l44 none w12.1)::(7,l3 none w12.2.1)::t);refine WO.fn (e2:=z4 []) ?_;refine W.seq<|W.join (σ:=(Bool)) (fun s=>[(2,.bool s)]) (fun s=>(qW) s=some r) (fun v16 h=>?_) (fun hK13=>?_)
 ·unfold qW at h;refine W.wk (e:=[(2,.bool v16)]) ?_;cases h;exact W.rr
 refine W.rg ?_;let z5:=fun t=>z4 ((28,I6 w12.2.2)::t);refine WO.bh 3 (fun b=>z5 [(29,.bool b),(30,.bool b)]) (w12.2.2 == 0) h (fun h=>?_) (fun h=>?_)
 ·obtain⟨w14,hw14,h⟩:=ql h;let z6:=fun t=>z5 ((29,.bool true)::(30,.bool true)::(31,l44 none w5.1)::(32,l44 none w12.1)::t);refine WO.ck 2 (F:=36) (l:=[l44 none w5.1,l44 none w12.1]) (C:=[]) (r:=.bool w14) (YT w5.1 w12.1 w14 hw14) (e1:=z6 [(33,.bool w14)])<|WO.bh 2 (fun b=>z6 [(33,.bool b),(34,.bool b),(35,.bool b)]) w14 h (fun h=>?_) (fun h=>?_)
  ·let z7:=fun t=>z6 ((33,.bool true)::(34,.bool true)::(35,.bool true)::(36,l3 none w12.2.1)::(37,I6 (w12.2.1.length:Int))::t);refine WO.pq 1 (jM (.int .i64) w12.2.1) (e1:=z7 [])<|WO.bh 3 (fun b=>z7 [(38,.bool b),(39,.bool b),(40,.bool b)]) ((w12.2.1.length:Int) == 0) h (fun h=>?_) (fun h=>?_)
   ·obtain⟨w15,hw15,h⟩:=ql h;refine WO.ck 0 (F:=21) (l:=[]) (C:=[]) (r:=.bool w15) (Yu fuel w15 hw15) (e1:=z7 [(38,.bool true),(39,.bool true),(40,.bool true),(41,.bool w15)])<|WO.fn (e2:=[(2,.bool w15)]) ?_;exact hK13 w15 h
   refine WO.fn (e2:=[(2,.bool false)]) ?_;exact hK13 false h
  refine WO.fn (e2:=[(2,.bool false)]) ?_;exact hK13 false h
 refine WO.fn (e2:=[(2,.bool false)]) ?_;exact hK13 false h
theorem ZU:∀ (p q:List hsOp),qU (p++q) (jK) q p.length=some true
 | p,[]=>by rw[qU.eq_1];rfl
 | p,x::q=>by
  have h:idx (p++x::q) ((p.length:Nat):Int)=some x:=qbN (by simp);rw[qU.eq_2,h];simp only[A7,beq_self_eq_true,Bool.and_true,Bool.not_true,cond_false];have:=ZU (p++[x]) q
  simpa using this
theorem HJ {l:List hsOp} (hl:l.length≤100000):Jq l l=some true:=by
 unfold Jq;rw[VJ (by omega)];simp only[bne_self_eq_false,cond_false,Ju];exact ZU [] l
theorem Zb {h:List rf5Op} (hl:lenOk h=true):Jm bigFuel h=some true:=by
 unfold Jm Vn;rw[qbL hl,A7,qaJ]
 cases hv:validB h with
 | false =>
  rw[Nx hv];rfl
 | true =>
  obtain⟨H,h40⟩:=Yj hv;rw[D0 (by omega)];obtain⟨s,e,hk,hi,hj⟩:=DE hv;have h2:=qax (DL hv hk hj) hi.good
  have hlen:s.done.length≤40:=by have:=hk.ok.tot;omega
  rw[e,A7];simp only[h2,A7,HJ (show s.done.length≤100000 by omega)];rfl
end Go.AM
namespace Go.AM
open Go.Proofs Go.Proofs.Ytoiejpkfpjingaa Go.ChangeShapes Go.WideShapes Go.ChangeAt Go.RowKit
theorem readsOp:Reads Try.prog 43 Ze (fun _=>True) :=
 Nt (P := Try.prog) (size := 3) (fs := #[Field.mk "Txn" 3 0 false "" "" 0, Field.mk "Kind" 3 1 false "" "" 8, Field.mk "Item" 3 2 false "" "" 16]) (fun b : Int × Int × Int × Unit => (⟨b.1, b.2.1, b.2.2.1⟩ : rf5Op)) (by kernel_rfl) (by kernel_rfl)
  (Xy (f:=AV.int .i64) (ok:=fun n=>(Lit.int .i64 n).wf=true) (n:=1) (off':=1) rfl (by kernel_rfl) rfl (Zz (k:=.i64) (by kernel_rfl)) (Xy (f:=AV.int .i64) (ok:=fun n=>(Lit.int .i64 n).wf=true) (n:=1) (off':=2) rfl (by kernel_rfl) rfl (Zz (k:=.i64) (by kernel_rfl)) (Xy (f:=AV.int .i64) (ok:=fun n=>(Lit.int .i64 n).wf=true) (n:=1) (off':=3) rfl (by kernel_rfl) rfl (Zz (k:=.i64) (by kernel_rfl)) (HA rfl))))
  (fun b=>rfl) (fun b h=>trivial)
theorem qan:Reads Try.prog 23 (encL 43 3 Ze) (fun l=>l.length≤maxLen∧∀ d,d∈l→True) :=
 Hf (by kernel_rfl) (by kernel_rfl) (by decide) readsOp (fun _=>rfl) (fun _=>rfl)
theorem qay {α:Type} {l:List α} (h:l.length≤maxLen):lenOk l=true:=B9 (by unfold maxLen at h;omega)
theorem own:ownKnob Try.prog.godebug=none:=by kernel_rfl
theorem mixed:Try.prog.follows .mixedOrders=true:=by kernel_rfl
theorem laid:laidOutB Try.prog=true:=by kernel_rfl
end Go.AM
