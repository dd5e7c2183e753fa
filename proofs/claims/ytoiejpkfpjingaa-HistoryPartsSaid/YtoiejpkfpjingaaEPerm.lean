import Derived.Test.YtoiejpkfpjingaaECyc2
import Derived.Laws.EntriesVeiled
import Derived.Test.YtoiejpkfpjingaaASimM
import Derived.Test.YtoiejpkfpjingaaChecked
import Derived.Test.YtoiejpkfpjingaaKAT
set_option linter.all false
set_option maxRecDepth 100000
open Nat renaming le_of_ble_eq_true→A0, le_refl→A4, ble_eq_true_of_le→B6
open Option renaming bind_some→A1, map→B5
open List renaming findSome?_cons→A2, map_cons→A6, getLast?_eq_some_getLast→A7, getLastD_eq_getLast?→A8, getElem?_range→A9, length_map→B4, append_assoc→B7, map_nil→B8, find?_cons→C7, getElem?_eq_getElem→D1, mem_cons_of_mem→D3, singleton_append→D4, length_erase_of_mem→D5, perm_cons_erase→D6
open Bool renaming and_eq_true→A3, false_eq_true→D0, or_eq_false_iff→D2
open Int renaming natCast_nonneg→A5
open Go.IntKind renaming wrap→B3
namespace Go.Proofs
open Go.RowKit Go.AM
theorem Try.clone_own {w:World} {base:Nat} {v:Value} {c:List Int} (hl:c.length≤100000) (hne:c≠[]) (h:w.ownsRow base 3 1 v c.length (intsV c)) :
  Calls Try.prog 53 #[v] w fun e w'=>∃ u N,e=.returned u∧Below w.heap.size w w'∧(∀ b o,b<w.heap.size→N b o=none)∧Cons N w'∧R N (.lst 3 1 none (cL c)) u:=by
 obtain⟨N,hN,hR,_⟩:=Vu h
 have hcap:JZ c=some c:=by
  unfold JZ
  have:capOk 8 (0+c.length)=true:=by
   simp only[capOk,A3,Nat.ble_eq];omega
  rw[this];rfl
 have hrun:=YY mixedP (XW c c hcap);refine (hrun.1 N ⟨fun _ _=>none,fun _=>0,fun _=>0⟩ w [v] (glob0 N) hN rfl (fun i c g hh=>by cases hh) (fun c c' g hh=>by cases hh) (fun j a b ha hb=>?_) (fun id x hx=>by cases hx)).mono ?_
 ·match j,ha,hb with
  | 0,ha,hb=>cases ha;cases hb;exact⟨hR,trivial⟩
 ·rintro e w' ⟨u,M',O',rfl,hB,_,hC',_,hO,_,_,hv,hs⟩
  have ho:=hs 1900000 _ rfl;obtain⟨q1,q2⟩:=hv;obtain⟨k0,k1,k2,k3⟩:=ho;have hpos:0<c.length:=List.length_pos_iff.2 hne
  rcases q2 with ⟨h0,_⟩ | ⟨g,cap,rfl,p1,p2,p3,p4⟩
  ·omega
  rcases k3 with ⟨h0,_⟩ | ⟨g',cur,r1,r2,r3,r4,r5,r6⟩
  ·exact absurd (List.map_eq_nil_iff.1 h0) hne
  have hgg:g'=g:=by rw[p1]at r1;exact (Option.some.inj r1).symm
  subst hgg
  have hge:w.heap.size≤g':=by
   rcases (hO true 1900000 g' p1).2 with h | ⟨_,h⟩
   ·exact h
   ·cases h
  obtain⟨el,fz,hb,_⟩:=r2
  have r4':c.length≤cur.size:=by simpa using r4
  have hcell:∀ j (hj:j<c.length),cur[j]? = some (.int .i64 c[j]):=fun j hj=>by
   have hjc:j<cur.size:=by omega
   have h1:=r6 j (.int .i64 c[j]) cur[j] (by rw[ZC];simp[hj]) (by simp[hjc]);rw[Array.getElem?_eq_getElem hjc,h1.int_inv]
  refine⟨_,fun b o=>if b=g' then (c[o]?).map (Value.int .i64) else none,rfl,⟨hB.os,hB.tape,hB.output,hB.size,fun k hk=>hB.block k ⟨hk,fun _ hh=>by cases hh⟩⟩,fun b o hb=>?_,fun b o u hu=>?_,?_⟩
  ·have:b≠g':=by omega
   simp[this]
  ·simp only at hu;split at hu
   ·rename_i e;subst e
    cases hco:c[o]? with
    | none=>rw[hco]at hu;cases hu
    | some x =>
     rw[hco]at hu;cases hu;obtain⟨hj,rfl⟩:=List.getElem?_eq_some_iff.1 hco;unfold mc;rw[hb];exact jS (hcell o hj) rfl
   ·cases hu
  ·refine qaH (off:=0 * 1) p3 fun j hj=>?_
   simp[hj]
theorem qdy {c:List Int} (hne:c≠[]):c[c.length - 1]? = some (c.getLastD 0):=by
 rw[← List.getLast?_eq_getElem?,A7 hne,A8,A7 hne];rfl
theorem Hf {w:World} {base g cap:Nat} {c:List Int} (h:w.ownsRow base 3 1 (.slice (some ⟨g,0,none⟩) c.length cap) c.length (intsV c)) {j:Nat} {x:Int} (hx:c[j]? = some x):w.cell? ⟨g,j,none⟩=some (.int .i64 x):=by
 have:=h.cells (g:=g) rfl j (.int .i64 x) (by simp[intsV,hx])
 rwa [JM,Nat.zero_add]at this
theorem GP.store {base:Nat} {w w1:World} {bf:Nat} {vc:Value} {c:List Int} (h:GP base w bf vc c w1) (u:Value):GP base w bf vc c (w1.setCell ⟨bf,0,none⟩ u):=by
 obtain⟨fv,hf⟩:=h.box;refine⟨h.os,h.tape,h.output,by simpa[World.setCell] using h.size,fun k hk h1 h2=>?_,ownsRow_setCell_other h.own (fun e=>XP hf h.own e.symm) u,u,one_setCell hf⟩;rw[Below.heap_setCell _ _ _ _ h1,h.block k hk h1 h2]
def mjoin (M N:Mem) (B:Nat):Mem:=fun b o=>if b<B then M b o else N b o
theorem qeh {M N:Mem} {w:World} {B:Nat} (hC:Cons M w) (hB:w.heap.size≤B):Sub M (mjoin M N B):=fun b o u hu=>by
 have:=ZN (hC _ _ _ hu);unfold mjoin;rw[if_pos (by omega)];exact hu
theorem qcP {M N:Mem} {B:Nat} (hN:∀ b o,b<B→N b o=none):Sub N (mjoin M N B):=fun b o u hu=>by
 unfold mjoin;split
 ·rename_i h;rw[hN b o h]at hu;cases hu
 ·exact hu
theorem qcQ {M N:Mem} {w:World} {B:Nat} (hM:Cons M w) (hN:Cons N w):Cons (mjoin M N B) w:=fun b o u hu=>by
 unfold mjoin at hu;split at hu
 ·exact hM _ _ _ hu
 ·exact hN _ _ _ hu
theorem qei {M N:Mem} {B b o:Nat} (h:b<B):mjoin M N B b o=M b o:=by unfold mjoin;rw[if_pos h]
set_option maxHeartbeats 4000000 in
theorem Try.grow52:∀ n,Grow52 n:=by
 intro n
 induction n with
 | zero =>
  intro E l c M w base bf be bl bg long vc hG hC hne hwc hlong hl hown hMv hbox hb;obtain⟨mv,e1,e2,e3⟩:=hG.e;obtain⟨fv,hbox⟩:=hbox;have hpos:0<c.length:=List.length_pos_iff.2 hne;obtain⟨g,cap,rfl,hbg,hgl⟩:=hown.form hpos
  have hlc:c.length=long:=by omega
  subst hlc;have hlast:wfI .i64 (c.getLastD 0)=true:=hwc _ (by rw[A8,A7 hne];exact List.getLast_mem hne);have hfst:wfI .i64 (c.headD 0)=true:=hwc _ (by cases c with | nil=>exact absurd rfl hne | cons a r=>simp)
  have hE:=fun w' h=>e3 w' h (c.getLastD 0) (c.headD 0) hlast hfst
  obtain⟨res,hres⟩:∃ res,res=growF E l 0 c:=⟨_,rfl⟩;rw[← hres]
  have hgf:res=if E (c.getLastD 0) (c.headD 0) then some c else none:=hres
  have HR:=(show Hid _ from hgf);clear hres hgf
  have hc0:c[0]? = some (c.headD 0):=by cases c with | nil=>exact absurd rfl hne | cons a r=>rfl
  have hc1:=qdy hne;have bflt:=lt_of_block hbox;obtain⟨m,hm⟩:∃ m,c.length=m+1:=⟨c.length - 1,by omega⟩
  have f1:IntKind.i64.wrap ((c.length:Int) - 1)=(m:Int):=by rw[NN (by omega) (by omega)];omega
  have m0:(0:Int)≤(m:Int):=A5 _
  have m1:(m:Int)<(c.length:Int):=by omega
  have hc1:c[m]? = some (c.getLastD 0):=by rw[← hc1];congr 1;omega
  have P1:GP base w bf (.slice (some ⟨g,0,none⟩) c.length cap) c ((w.alloc (.cells #[.slice (some ⟨g,0,none⟩) c.length cap] 24)).alloc (.cells #[.int .i64 (c.length:Nat)] 3)):=((GP.refl hown hbox).alloc _).alloc _;have b1:((w.alloc (.cells #[.slice (some ⟨g,0,none⟩) c.length cap] 24)).alloc (.cells #[.int .i64 (c.length:Nat)] 3)).cell? ⟨g,m,none⟩=some (.int .i64 (c.getLastD 0)):=Hf P1.own hc1;have HM:=(show Hid _ from hm)
  have l0:(0:Int)<(c.length:Int):=by omega
  clear hm;generalize c.getLastD 0=last at *;generalize c.headD 0=fst at *;obtain⟨w3,ew3⟩:∃ w3,w3=((w.alloc (.cells #[.slice (some ⟨g,0,none⟩) c.length cap] 24)).alloc (.cells #[.int .i64 (c.length:Nat)] 3)).alloc (.cells #[.int .i64 last] 3):=⟨_,rfl⟩
  have P3:GP base w bf (.slice (some ⟨g,0,none⟩) c.length cap) c w3:=by rw[ew3];exact P1.alloc _
  have a6:w3.heap[w.heap.size]? = some (.cells #[.slice (some ⟨g,0,none⟩) c.length cap] 24 (0,0)):=by rw[ew3,heap_alloc_old _ _ (by simp;omega),heap_alloc_old _ _ (by simp)];exact heap_alloc_new _ _
  have a9:w3.heap[w.heap.size+1+1]? = some (.cells #[.int .i64 last] 3 (0,0)):=by rw[ew3];have:=heap_alloc_new ((w.alloc (.cells #[.slice (some ⟨g,0,none⟩) c.length cap] 24)).alloc (.cells #[.int .i64 (c.length:Nat)] 3)) (.cells #[.int .i64 last] 3);simpa using this
  have C3:Cons M w3:=by rw[ew3];exact ((hC.alloc _).alloc _).alloc _
  have HW:=(show Hid (w3=_) from ew3);have hclo:=Try.clone_own (base:=base) (by omega) hne P3.own;rw[ew3]at hclo;clear ew3;have mixed:=mixedP;have t3:=Try.underlying3;have a3:=Try.isAgg3;have z3:=Try.sizeOf3;have v3:=Try.zeroValue3;have u3:=run_underlying Try.underlying3;have t4:=Try.underlying4;have a4:=Try.isAgg4;have z4:=Try.sizeOf4;have v4:=Try.zeroValue4;have t24:=Try.underlying24;have a24:=Try.isAgg24;have z24:=Try.sizeOf24;have v24:=Try.zeroValue24;have u24:=run_underlying Try.underlying24;have t55:=Try.underlying55;have a55:=Try.isAgg55;have z55:=Try.sizeOf55;have v55:=Try.zeroValue55;have t67:=Try.underlying67;have a67:=Try.isAgg67;have z67:=Try.sizeOf67;have v67:=Try.zeroValue67;have t73:=Try.underlying73;have a73:=Try.isAgg73;have z73:=Try.sizeOf73;have v73:=Try.zeroValue73;have u73:=run_underlying Try.underlying73;have HE:=(show Hid _ from hE);have HG:=(show Hid _ from hG);have HC:=(show Hid _ from hclo);have HP:=(show Hid _ from P3);have Ha6:=(show Hid _ from a6);have Ha9:=(show Hid _ from a9);clear hE e3 hG hclo P1 P3 a6 a9
  go_enter Try.func52,Try.ntmps52
  go_wp2_with fail
  refine Calls.mono HC.out ?_;rw[← HW.out]
  rintro e w2 ⟨u,N,rfl,hB,hN1,hN2,hN3⟩
  obtain⟨au,cu,rfl,hN4⟩:=XG hN3;have P4:=HP.out.below hB;obtain⟨fv4,hb4⟩:=P4.box;have d1:=free_of_one hb4;have d2:=cell_of_one hb4;have hs3:=HP.out.size;have g6:=lt_of_block Ha6.out;have g9:=lt_of_block Ha9.out;have hC2:Cons M (w2.setCell ⟨bf,0,none⟩ (.slice au c.length cu)):=(C3.below hB).setCell HG.out.f _
  have hgb:bf≠g:=fun e=>XP hb4 P4.own (by rw[e];rfl)
  have k6:(w2.setCell ⟨bf,0,none⟩ (.slice au c.length cu)).cell? ⟨w.heap.size,0,none⟩=some (.slice (some ⟨g,0,none⟩) c.length cap):=by
   refine cell_of_one (t:=24) ?_;rw[Below.heap_setCell _ _ _ _ (by simp;omega),hB.block _ g6];exact Ha6.out
  have k9:(w2.setCell ⟨bf,0,none⟩ (.slice au c.length cu)).cell? ⟨w.heap.size+1+1,0,none⟩=some (.int .i64 last):=by
   refine cell_of_one (t:=3) ?_;rw[Below.heap_setCell _ _ _ _ (by simp;omega),hB.block _ g9];exact Ha9.out
  have ke:(w2.setCell ⟨bf,0,none⟩ (.slice au c.length cu)).cell? ⟨be,0,none⟩=some mv:=je (hC2 _ _ _ e1) e2
  have kg:(w2.setCell ⟨bf,0,none⟩ (.slice au c.length cu)).cell? ⟨g,0,none⟩=some (.int .i64 fst):=by
   rw[World.cell?_setCell_far _ _ _ _ (by simpa using hgb)];exact Hf P4.own hc0
  have kl:=HE.out _ hC2;have hb5:=one_setCell (u:=.slice au c.length cu) hb4
  go_wp2
  go_region_held3 (fun w'=>w'.cell? ⟨w.heap.size,0,none⟩=some (.slice (some ⟨g,0,none⟩) c.length cap)∧w'.cell? ⟨w.heap.size+1+1,0,none⟩=some (.int .i64 last)∧w'.cell? ⟨be,0,none⟩=some mv∧w'.cell? ⟨g,0,none⟩=some (.int .i64 fst)∧(Instr.lookup 67 mv (.agg #[.int .i64 last,.int .i64 fst]) false).run Try.prog w'=.ok (.bool (E last fst)) w')
   (first | exact⟨k6,k9,ke,kg,HE.out _ hC2⟩) (fail)
  all_goals go_wp2
  all_goals go_ret
  all_goals refine⟨by rw[HR.out];cases E last fst <;> rfl,(P4.store _).drew,fun r hr=>?_⟩
  all_goals
   have hrc:r=c:=by
    rw[HR.out]at hr;split at hr
    ·exact (Option.some.inj hr).symm
    ·cases hr
   subst hrc;have hN5:∀ b o,b<w3.heap.size→N b o=none:=hN1;exact⟨mjoin M N w3.heap.size,_,qeh hC hs3,qcQ (M:=M) hC2 (hN2.setCell (fun o=>hN5 bf o (by omega)) _),fun b o hb=>qei (by omega),hb5,hN3.mono (qcP hN5)⟩
 | succ n ih =>
  intro E l c M w base bf be bl bg long vc hG hC hne hwc hlong hl hown hMv hbox hb;obtain⟨lv,q1,q2,q3⟩:=hG.lv;obtain⟨fv,hbox⟩:=hbox;have hpos:0<c.length:=List.length_pos_iff.2 hne;obtain⟨g,cap,rfl,hbg,hgl⟩:=hown.form hpos;have hgf:growF E l (n+1) c=l.findSome? (stepF E l n c):=rfl;rw[hgf];have hc1:=qdy hne;have bflt:=lt_of_block hbox;obtain⟨m,hm⟩:∃ m,c.length=m+1:=⟨c.length - 1,by omega⟩
  have f1:IntKind.i64.wrap ((c.length:Int) - 1)=(m:Int):=by rw[NN (by omega) (by omega)];omega
  have m0:(0:Int)≤(m:Int):=A5 _
  have m1:(m:Int)<(c.length:Int):=by omega
  obtain⟨last,hla⟩:∃ last,last=c.getLastD 0:=⟨_,rfl⟩
  have hc1:c[m]? = some last:=by rw[hla,← hc1];congr 1;omega
  have P1:GP base w bf (.slice (some ⟨g,0,none⟩) c.length cap) c ((w.alloc (.cells #[.slice (some ⟨g,0,none⟩) c.length cap] 24)).alloc (.cells #[.int .i64 (long:Nat)] 3)):=((GP.refl hown hbox).alloc _).alloc _;have b1:((w.alloc (.cells #[.slice (some ⟨g,0,none⟩) c.length cap] 24)).alloc (.cells #[.int .i64 (long:Nat)] 3)).cell? ⟨g,m,none⟩=some (.int .i64 last):=Hf P1.own hc1;have HM:=(show Hid _ from hm)
  have l0:(c.length:Int)≠(long:Int):=by omega
  have l1:((c.length:Int) == (long:Int))=false:=by simpa using l0
  clear hm;obtain⟨w3,ew3⟩:∃ w3,w3=((w.alloc (.cells #[.slice (some ⟨g,0,none⟩) c.length cap] 24)).alloc (.cells #[.int .i64 (long:Nat)] 3)).alloc (.cells #[.int .i64 last] 3):=⟨_,rfl⟩
  have P3:GP base w bf (.slice (some ⟨g,0,none⟩) c.length cap) c w3:=by rw[ew3];exact P1.alloc _
  have a6:w3.heap[w.heap.size]? = some (.cells #[.slice (some ⟨g,0,none⟩) c.length cap] 24 (0,0)):=by rw[ew3,heap_alloc_old _ _ (by simp;omega),heap_alloc_old _ _ (by simp)];exact heap_alloc_new _ _
  have a7:w3.heap[w.heap.size+1]? = some (.cells #[.int .i64 (long:Nat)] 3 (0,0)):=by rw[ew3,heap_alloc_old _ _ (by simp)];have:=heap_alloc_new (w.alloc (.cells #[.slice (some ⟨g,0,none⟩) c.length cap] 24)) (.cells #[.int .i64 (long:Nat)] 3);simpa using this
  have a9:w3.heap[w.heap.size+1+1]? = some (.cells #[.int .i64 last] 3 (0,0)):=by rw[ew3];have:=heap_alloc_new ((w.alloc (.cells #[.slice (some ⟨g,0,none⟩) c.length cap] 24)).alloc (.cells #[.int .i64 (long:Nat)] 3)) (.cells #[.int .i64 last] 3);simpa using this
  have C3:Cons M w3:=by rw[ew3];exact ((hC.alloc _).alloc _).alloc _
  have hlv:((w.alloc (.cells #[.slice (some ⟨g,0,none⟩) c.length cap] 24)).alloc (.cells #[.int .i64 (long:Nat)] 3)).cell? ⟨bl,0,none⟩=some lv:=je (((hC.alloc _).alloc _) _ _ _ q1) q2;have hlv3:w3.cell? ⟨bl,0,none⟩=some lv:=je (C3 _ _ _ q1) q2;obtain⟨M3,eM3⟩:∃ M3,M3=madd (madd (madd M w.heap.size (.slice (some ⟨g,0,none⟩) c.length cap)) (w.heap.size+1) (.int .i64 (long:Nat))) (w.heap.size+1+1) (.int .i64 last):=⟨_,rfl⟩
  have hold:∀ b o,b<w.heap.size→M3 b o=M b o:=fun b o hb=>by rw[eM3,jU (by omega),jU (by omega),jU (by omega)]
  have k1:M3 w.heap.size 0=some (.slice (some ⟨g,0,none⟩) c.length cap):=by rw[eM3,jU (by omega),jU (by omega),Zx]
  have k2:M3 (w.heap.size+1+1) 0=some (.int .i64 (c.getLastD 0)):=by rw[eM3,Zx,hla]
  have k3:M3 (w.heap.size+1) 0=some (.int .i64 (long:Nat)):=by rw[eM3,jU (by omega),Zx]
  have C33:Cons M3 w3:=by rw[eM3];exact XF (XF (XF C3 a6 rfl rfl) a7 rfl rfl) a9 rfl rfl
  have hsub:Sub M M3:=fun b o u hu=>by rw[hold b o (ZN (hC _ _ _ hu))];exact hu
  have hG3:GE M3 bf be bl bg E l:=by
   obtain⟨mv,e1,e2,e3⟩:=hG.e;exact⟨⟨mv,hsub _ _ _ e1,e2,fun w' h=>e3 w' fun b o u hu=>h _ _ _ (hsub _ _ _ hu)⟩,⟨lv,hsub _ _ _ q1,q2,q3.mono hsub⟩,hsub _ _ _ hG.g,fun o=>by rw[hold bf o bflt];exact hG.f o,hG.wf,hG.len⟩
  have hMv3:∀ g2,(Value.slice (some ⟨g,0,none⟩) c.length cap).ownBlock=some g2→∀ o,M3 g2 o=none:=fun g2 h2 o=>by
   have h3:=hMv g2 h2 o;cases h2;rw[hold g o hgl];exact h3
  have hst:=fun t w' hwt hC' ho' hb' hsz=>Try.step55 ih E l c M3 w' base bf be bl bg w.heap.size (w.heap.size+1+1) (w.heap.size+1) long (.slice (some ⟨g,0,none⟩) c.length cap) t hG3 hC' hne hwc hwt hlong hl ho' hMv3 hb' hsz k1 k2 k3
  have hs3:=P3.size;have hcon:=Try.containsFunc 55 Try.enter55 #[.pointer (some ⟨w.heap.size,0,none⟩),.pointer (some ⟨be,0,none⟩),.pointer (some ⟨w.heap.size+1+1,0,none⟩),.pointer (some ⟨bg,0,none⟩),.pointer (some ⟨w.heap.size+1,0,none⟩)] l lv (by have:=hG.len;omega) M3 (q3.mono hsub)
   (fun i w'=>Cons M3 w'∧GP base w3 bf (.slice (some ⟨g,0,none⟩) c.length cap) c w'∧∀ j y,j<i→l[j]? = some y→stepF E l n c y=none)
   (fun i w'=>∃ x r,l[i]? = some x∧(∀ j y,j<i→l[j]? = some y→stepF E l n c y=none)∧stepF E l n c x=some r∧GP base w3 bf (.slice (some ⟨g,0,none⟩) c.length cap) c w'∧Found M3 w3 bf r w')
   (fun i w' h=>h.1)
   (fun i x w' hx ⟨h1,h2,h3⟩=>(hst x w' (hG.wf x (List.mem_of_getElem? hx)) h1 h2.own h2.box (by have:=h2.size;omega)).mono fun e w4 ⟨e1,e2,e3⟩=>by
    cases hr:stepF E l n c x with
    | none =>
     rw[hr]at e1
     exact .inr ⟨e1,e2.cons h1 hG3.f hMv3,h2.trans e2,fun j y hj hy=>by
      rcases Nat.lt_succ_iff_lt_or_eq.1 hj with hj | rfl
      ·exact h3 j y hj hy
      ·rw[hx]at hy;cases hy;exact hr⟩
    | some r =>
     rw[hr]at e1
     exact .inl ⟨e1,x,r,hx,h3,hr,h2.trans e2,(e3 r hr).back h2.size⟩)
   w3 ⟨C33,.refl P3.own P3.box.choose_spec,fun j y hj=>absurd hj (Nat.not_lt_zero _)⟩
  have HW:=(show Hid (w3=_) from ew3);rw[ew3]at hcon hlv3;have HC:=(show Hid _ from hcon);have HP:=(show Hid _ from P3);have HG:=(show Hid _ from hG3);have HO:=(show Hid _ from hold);have HS:=(show Hid _ from hsub);clear hcon ew3 P3 hG3 hG hold hsub hst a6 a7 a9 P1 hMv hMv3 eM3 hla k2;have mixed:=mixedP;have t3:=Try.underlying3;have a3:=Try.isAgg3;have z3:=Try.sizeOf3;have v3:=Try.zeroValue3;have u3:=run_underlying Try.underlying3;have t4:=Try.underlying4;have a4:=Try.isAgg4;have z4:=Try.sizeOf4;have v4:=Try.zeroValue4;have t24:=Try.underlying24;have a24:=Try.isAgg24;have z24:=Try.sizeOf24;have v24:=Try.zeroValue24;have u24:=run_underlying Try.underlying24;have t55:=Try.underlying55;have a55:=Try.isAgg55;have z55:=Try.sizeOf55;have v55:=Try.zeroValue55;have t75:=Try.underlying75;have a75:=Try.isAgg75;have z75:=Try.sizeOf75;have v75:=Try.zeroValue75
  go_enter Try.func52,Try.ntmps52
  go_wp2_with fail
  refine Calls.mono HC.out ?_
  rintro e w' (⟨i,hi,rfl,x,r,h1,h2,h3,h4,h5⟩ | ⟨rfl,h1,h2,h3⟩)
  ·go_wp2
   go_ret
   have hf:=Yd h1 h2 h3;rw[← HW.out]at h4 h5;refine⟨by rw[hf];rfl,HP.out.trans h4,fun r' hr'=>?_⟩;rw[hf]at hr';cases hr';obtain⟨M',fv',s1,s2,s3,s4⟩:=h5;exact⟨M',fv',Sub.trans HS.out s1,s2,fun b o hb=>(s3 b o (by omega)).trans (HO.out b o hb),s4⟩
  ·go_wp2
   go_ret
   have hf:l.findSome? (stepF E l n c)=none:=YP h3;rw[← HW.out]at h2;exact⟨by rw[hf];rfl,HP.out.trans h2,fun r' hr'=>by rw[hf]at hr';cases hr'⟩
end Go.Proofs
namespace Go.AM
def cycFind (E:Int→Int→Bool) (l:List Int):Option (List Int):=(List.range (l.length+1)).findSome? fun long=>if long<2 then none else l.findSome? fun t=>growF E l (long - 1) [t]
def edgeB (es:List (qd×Bool)) (a b:Int):Bool:=mget qr false ⟨a,b⟩ es
def cycP (fuel:Nat) (a1:List hsOp):Option (List Int×Int):=(QT a1).bind fun ok=>bif ok then (Jx fuel a1).bind fun p=>(Jj p).bind fun es=>(jj fuel a1).bind fun l=>chk (decide (l.length≤999) && l.all (wfI .i64)) (some (match cycFind (edgeB es) l with | some c=>(c,0) | none=>([],5))) else some ([],2)
end Go.AM
namespace Go.Proofs
open Go.RowKit Go.AM
theorem qge {M:Mem} {es:List (qd×Bool)} {mv:Value} (hm:R M (mpE qc AV.bool es) mv):∀ w,Cons M w→∀ a b,wfI .i64 a=true→wfI .i64 b=true→(Instr.lookup 67 mv (.agg #[.int .i64 a,.int .i64 b]) false).run Try.prog w=.ok (.bool (edgeB es a b)) w:=by
 intro w hC a b ha hb
 have hk:(qc ⟨a,b⟩).keyV=some (.agg #[.int .i64 a,.int .i64 b]):=by
  simp only[qc,AV.keyV,keyVs,ha,hb]
 have hr:=jD (P:=Try.prog) (t:=67) (kt:=73) (e:=4) (F:=qc) (G:=AV.bool) (eq:=qr) (l:=es) (k:=⟨a,b⟩) (z:=false) (by rw[hk];rfl) (by kernel_rfl) (fun x=>by kernel_rfl) (fun x y=>rfl) (by kernel_rfl);obtain⟨v,h1,h2⟩:=qbJ (kt:=73) (e:=4) (w:=w) hC hm (by kernel_rfl) hk hr;cases h2;exact h1
theorem qfm {M:Mem} {ks vs:List AV} {v:Value} (h:R M (.mpv ks vs) v):∃ mo,v=.map mo:=by
 generalize hx:AV.mpv ks vs=x at h
 cases h <;> first | exact⟨_,rfl⟩ | cases hx
structure FB (w:World) (bf:Nat) (w':World):Prop where
 os:w'.os=w.os
 tape:w'.tape=w.tape
 output:w'.output=w.output
 size:w.heap.size≤w'.heap.size
 block:∀ k,k<w.heap.size→k≠bf→w'.heap[k]? = w.heap[k]?
 box:∃ fv,w'.heap[bf]? = some (.cells #[fv] 24 (0,0))
theorem FB.cons {M:Mem} {w w1:World} {bf:Nat} (h:FB w bf w1) (hC:Cons M w) (hf:∀ o,M bf o=none):Cons M w1 :=
 hC.of_blocks fun b o u hu hb=>h.block b hb fun e=>by rw[e,hf]at hu;cases hu
theorem FB.gp {w w1 w2:World} {bf base:Nat} {vc:Value} {c:List Int} {o:Obj} (h:FB w bf w1) (hv:vc.ownBlock=some w1.heap.size) (k:GP base (w1.alloc o) bf vc c w2):FB w bf w2:=by
 have hs:=h.size;have ks:=k.size;simp at ks;refine⟨k.os.trans h.os,k.tape.trans h.tape,k.output.trans h.output,by omega,fun j hj hne=>?_,k.box⟩;rw[k.block j (by simp;omega) hne (fun e=>by rw[hv]at e;simp at e;omega),heap_alloc_old _ _ (by omega),h.block j hj hne]
theorem qaO {E:Int→Int→Bool} {l:List Int} (h:∀ k,2≤k→k≤l.length→l.findSome? (fun t=>growF E l (k - 1) [t])=none):cycFind E l=none:=by
 unfold cycFind
 refine YP fun j y hj hy=>?_
 rw[List.length_range]at hj;rw[A9 hj]at hy;cases hy;split
 ·rfl
 ·exact h j (by omega) (by omega)
theorem qaN {E:Int→Int→Bool} {l c:List Int} {k:Nat} (h1:2≤k) (h2:k≤l.length) (h:∀ j,2≤j→j<k→l.findSome? (fun t=>growF E l (j - 1) [t])=none) (h3:l.findSome? (fun t=>growF E l (k - 1) [t])=some c):cycFind E l=some c:=by
 unfold cycFind;refine Yd (A9 (by omega:k<l.length+1)) (fun j y hj hy=>?_) (by rw[if_neg (by omega)];exact h3);rw[A9 (by omega)]at hy;cases hy;split
 ·rfl
 ·exact h j (by omega) hj
def qck (M:Mem) (w:World) (r:AV) (e:Ending) (w':World):Prop:=∃ v M',e=.returned v∧Below w.heap.size w w'∧Sub M M'∧Cons M' w'∧(∀ b o,b<w.heap.size→M' b o=M b o)∧R M' r v∧OwnR M' w.heap.size w' r v
set_option maxHeartbeats 4000000 in
theorem cycle19 {fuel:Nat} {a1:List hsOp} {r:List Int×Int} (h:cycP fuel a1=some r):CallOk Try.prog 19 [l44 none a1] (.tup [l3 none r.1,.int .i64 r.2]):=by
 intro M w vs hG hC hl hR
 obtain⟨v0,rfl⟩:∃ v0,vs=[v0]:=by
  match vs,hl with
  | [v0],_=>exact⟨v0,rfl⟩
 have r0:R M (l44 none a1) v0:=hR 0 _ v0 rfl rfl;clear hR hl hG;show Calls Try.prog 19 [v0].toArray w (qck M w (.tup [l3 none r.1,.int .i64 r.2]));unfold cycP at h;obtain⟨ok,hok,h⟩:=qh h;have c26:=Xp (QC a1 ok hok) M w [v0] (glob0 M) hC rfl (fun j a b ha hb=>by match j,ha,hb with | 0,ha,hb=>cases ha;cases hb;exact r0);have mixed:=mixedP;have t3:=Try.underlying3;have a3:=Try.isAgg3;have z3:=Try.sizeOf3;have v3:=Try.zeroValue3;have u3:=run_underlying Try.underlying3;have t4:=Try.underlying4;have a4:=Try.isAgg4;have z4:=Try.sizeOf4;have v4:=Try.zeroValue4;have t24:=Try.underlying24;have a24:=Try.isAgg24;have z24:=Try.sizeOf24;have v24:=Try.zeroValue24;have u24:=run_underlying Try.underlying24;have t25:=Try.underlying25;have a25:=Try.isAgg25;have z25:=Try.sizeOf25;have v25:=Try.zeroValue25;have t55:=Try.underlying55;have a55:=Try.isAgg55;have z55:=Try.sizeOf55;have v55:=Try.zeroValue55;have t67:=Try.underlying67;have a67:=Try.isAgg67;have z67:=Try.sizeOf67;have v67:=Try.zeroValue67;have en52:=Try.enter52
 cases ok with
 | false =>
  cases h
  go_enter Try.func19,Try.ntmps19
  go_wp2_with fail
  refine c26.mono ?_
  rintro e w1 ⟨v,M1,rfl,hB1,s1,C1,o1,r1,_⟩
  cases r1
  go_wp2
  go_ret2
  refine⟨_,M1,rfl,hB1,s1,C1,o1,?_,trivial⟩;refine .tup (vs:=[.slice none 0 0,.int .i64 2]) rfl (fun j c v hc hv=>?_)
  match j,hc,hv with
  | 0,hc,hv=>cases hc;cases hv;exact .lstn _ _ _
  | 1,hc,hv=>cases hc;cases hv;exact .int _ _
 | true =>
  simp only[cT]at h;obtain⟨p,hp,h⟩:=qh h;obtain⟨es,hes,h⟩:=qh h;obtain⟨l,hcm,h⟩:=qh h;obtain⟨hck,h⟩:=qw h;rw[A3,decide_eq_true_eq]at hck;obtain⟨hlen,hwf⟩:=hck;have hr:=Option.some.inj h;clear h
  go_enter Try.func19,Try.ntmps19
  go_wp2_with fail
  refine c26.mono ?_
  rintro e w1 ⟨v,M1,rfl,hB1,s1,C1,o1,r1,_⟩
  cases r1;have c48:=Xp (QZ fuel a1 p hp) M1 w1 [v0] (glob0 M1) C1 rfl (fun j a b ha hb=>by match j,ha,hb with | 0,ha,hb=>cases ha;cases hb;exact r0.mono s1)
  go_wp2_with fail
  refine c48.mono ?_
  rintro e w2 ⟨vp,M2,rfl,hB2,s2,C2,o2,r2,_⟩
  have c49:=Xp (Xb p es hes) M2 w2 [vp] (glob0 M2) C2 rfl (fun j a b ha hb=>by match j,ha,hb with | 0,ha,hb=>cases ha;cases hb;exact r2.setLab)
  go_wp2_with fail
  refine c49.mono ?_
  rintro e w3 ⟨mv,M3,rfl,hB3,s3,C3,o3,r3,_⟩
  have c51:=Xp (Jb fuel a1 l hcm) M3 w3 [v0] (glob0 M3) C3 rfl (fun j a b ha hb=>by match j,ha,hb with | 0,ha,hb=>cases ha;cases hb;exact r0.mono (Sub.trans s1 (Sub.trans s2 s3)))
  go_wp2_with fail
  refine c51.mono ?_
  rintro e w4 ⟨lv,M4,rfl,hB4,s4,C4,o4,r4,_⟩
  obtain⟨lv1,lvc,rfl,hlc⟩:=XG (l:=l) r4;obtain⟨mo,rfl⟩:=qfm r3
  have hcD:((((w4.alloc (.cells #[.map mo] 67)).alloc (.cells #[.slice lv1 l.length lvc] 24)).alloc (.cells #[.slice none 0 0] 24)).alloc (.cells #[.nilFunc] 55)).heap[w4.heap.size+1+1+1]? = some (.cells #[.nilFunc] 55 (0,0)):=by
   have:=heap_alloc_new (((w4.alloc (.cells #[.map mo] 67)).alloc (.cells #[.slice lv1 l.length lvc] 24)).alloc (.cells #[.slice none 0 0] 24)) (.cells #[.nilFunc] 55)
   simpa using this
  have hcD1:=cell_of_one hcD;have hcD2:=free_of_one hcD;obtain⟨w5,ew5⟩:∃ w5,w5=((((w4.alloc (.cells #[.map mo] 67)).alloc (.cells #[.slice lv1 l.length lvc] 24)).alloc (.cells #[.slice none 0 0] 24)).alloc (.cells #[.func (.func 52) #[] #[.pointer (some ⟨w4.heap.size+1+1,0,none⟩),.pointer (some ⟨w4.heap.size,0,none⟩),.pointer (some ⟨w4.heap.size+1,0,none⟩),.pointer (some ⟨w4.heap.size+1+1+1,0,none⟩)]] 55)):=⟨_,rfl⟩
  have a0:w5.heap[w4.heap.size]? = some (.cells #[.map mo] 67 (0,0)):=by rw[ew5,heap_alloc_old _ _ (by simp <;> omega),heap_alloc_old _ _ (by simp <;> omega),heap_alloc_old _ _ (by simp <;> omega)];exact heap_alloc_new _ _
  have a1':w5.heap[w4.heap.size+1]? = some (.cells #[.slice lv1 l.length lvc] 24 (0,0)):=by rw[ew5,heap_alloc_old _ _ (by simp <;> omega),heap_alloc_old _ _ (by simp <;> omega)];have:=heap_alloc_new (w4.alloc (.cells #[.map mo] 67)) (.cells #[.slice lv1 l.length lvc] 24);simpa using this
  have a2:w5.heap[w4.heap.size+1+1]? = some (.cells #[.slice none 0 0] 24 (0,0)):=by rw[ew5,heap_alloc_old _ _ (by simp)];have:=heap_alloc_new ((w4.alloc (.cells #[.map mo] 67)).alloc (.cells #[.slice lv1 l.length lvc] 24)) (.cells #[.slice none 0 0] 24);simpa using this
  have a3':w5.heap[w4.heap.size+1+1+1]? = some (.cells #[growV (w4.heap.size+1+1) w4.heap.size (w4.heap.size+1) (w4.heap.size+1+1+1)] 55 (0,0)):=by
   have e1:=heap_alloc_new (((w4.alloc (.cells #[.map mo] 67)).alloc (.cells #[.slice lv1 l.length lvc] 24)).alloc (.cells #[.slice none 0 0] 24)) (.cells #[growV (w4.heap.size+1+1) w4.heap.size (w4.heap.size+1) (w4.heap.size+1+1+1)] 55)
   have e2:(((w4.alloc (.cells #[.map mo] 67)).alloc (.cells #[.slice lv1 l.length lvc] 24)).alloc (.cells #[.slice none 0 0] 24)).heap.size=w4.heap.size+1+1+1:=by simp
   rw[e2]at e1;rw[ew5];exact e1
  have hs5:w5.heap.size=w4.heap.size+4:=by rw[ew5];simp
  have C45:Cons M4 w5:=by rw[ew5];exact (((C4.alloc _).alloc _).alloc _).alloc _
  have B45:Below w4.heap.size w4 w5:=by rw[ew5];exact ((((Below.refl _ _).alloc (A4 _) _).alloc (by simp) _).alloc (by simp;omega) _).alloc (by simp;omega) _
  obtain⟨M5,eM5⟩:∃ M5,M5=madd (madd (madd M4 w4.heap.size (.map mo)) (w4.heap.size+1) (.slice lv1 l.length lvc)) (w4.heap.size+1+1+1) (growV (w4.heap.size+1+1) w4.heap.size (w4.heap.size+1) (w4.heap.size+1+1+1)):=⟨_,rfl⟩
  have hold:∀ b o,b<w4.heap.size→M5 b o=M4 b o:=fun b o hb=>by rw[eM5,jU (by omega),jU (by omega),jU (by omega)]
  have hsub:Sub M4 M5:=fun b o u hu=>by rw[hold b o (ZN (C4 _ _ _ hu))];exact hu
  have C5:Cons M5 w5:=by rw[eM5];exact XF (XF (XF C45 a0 rfl rfl) a1' rfl rfl) a3' rfl rfl
  have hnone:∀ b o,w4.heap.size≤b→M4 b o=none:=fun b o hb=>by
   cases hm:M4 b o with
   | none=>rfl
   | some u=>have:=ZN (C4 _ _ _ hm);omega
  have hG:GE M5 (w4.heap.size+1+1) w4.heap.size (w4.heap.size+1) (w4.heap.size+1+1+1) (edgeB es) l:=by
   refine⟨⟨.map mo,by rw[eM5,jU (by omega),jU (by omega),Zx],rfl,fun w' h'=>qge r3 w' fun b o u hu=>h' _ _ _ (hsub _ _ _ (s4 _ _ _ hu))⟩,⟨_,by rw[eM5,jU (by omega),Zx],rfl,R.mono hsub r4⟩,by rw[eM5,Zx],fun o=>?_,fun x hx=>List.all_eq_true.1 hwf x hx,by omega⟩;rw[eM5,jU (by omega),jU (by omega),jU (by omega)];exact hnone _ _ (by omega)
  have F5:FB w5 (w4.heap.size+1+1) w5:=⟨rfl,rfl,rfl,A4 _,fun _ _ _=>rfl,_,a2⟩
  have hgw:=fun n long x wr (hx:wfI .i64 x=true) (h1:1+n=long) (h2:long≤1000) (hF:FB w5 (w4.heap.size+1+1) wr) =>
   Try.grow52 n (edgeB es) l [x] M5 (wr.alloc (.cells #[.int .i64 x] 3)) wr.heap.size (w4.heap.size+1+1) w4.heap.size (w4.heap.size+1) (w4.heap.size+1+1+1) long (.slice (some ⟨wr.heap.size,0,none⟩) 1 1) hG ((hF.cons C5 hG.f).alloc _) (by simp) (fun y hy=>by rw[List.mem_singleton.1 hy];exact hx) h1 h2
    ⟨rfl,.inr ⟨wr.heap.size,1,#[.int .i64 x],rfl,A4 _,heap_alloc_new _ _,A4 _,by unfold maxLen;omega,rfl,rfl⟩⟩
    (fun g hg o=>by
     cases hg
     cases hm:M5 wr.heap.size o with
     | none=>rfl
     | some u=>have:=ZN (hF.cons C5 hG.f _ _ _ hm);omega)
    (by obtain⟨fv,hfv⟩:=hF.box;exact⟨fv,by rw[heap_alloc_old _ _ (lt_of_block hfv)];exact hfv⟩) (by simp)
  have HL:∀ wr,FB w5 (w4.heap.size+1+1) wr→wr.cell? ⟨w4.heap.size+1,0,none⟩=some (.slice lv1 l.length lvc)∧wr.cell? ⟨w4.heap.size+1+1+1,0,none⟩=some (.func (.func 52) #[] #[.pointer (some ⟨w4.heap.size+1+1,0,none⟩),.pointer (some ⟨w4.heap.size,0,none⟩),.pointer (some ⟨w4.heap.size+1,0,none⟩),.pointer (some ⟨w4.heap.size+1+1+1,0,none⟩)])∧Cons M5 wr :=
   fun wr hF=>⟨cell_of_one (t:=24) (by rw[hF.block _ (by omega) (by omega)];exact a1'),cell_of_one (t:=55) (by rw[hF.block _ (by omega) (by omega)];exact a3'),hF.cons C5 hG.f⟩
  have HN:=(show Hid _ from hgw);have HH:=(show Hid _ from HL);have HW:=(show Hid (w5=_) from ew5);clear c26 c48 c49 c51 hgw HL a0 a1' a2 a3' eM5 hnone
  go_wp2
  rw[← HW.out];clear ew5
  go_loopw [8] (fun i wr=>∃ long:Nat,2≤long∧long≤l.length+2∧i=.int .i64 long∧FB w5 (w4.heap.size+1+1) wr∧∀ k,2≤k→k<long→l.findSome? (fun t=>growF (edgeB es) l (k - 1) [t])=none)
   (fun i _=>l.length+3 - (RowKit.intOf i).toNat)
  case atStart=>exact⟨2,A4 _,by omega,rfl,F5,fun k h1 h2=>by omega⟩
  case round =>
   obtain⟨long,hl2,hll,rfl,hF,hno⟩:=hrel;obtain⟨k1,k2,hCr⟩:=HH.out wr hF
   rcases Nat.lt_or_ge l.length long with hlt | hge
   ·have n1:¬ (long:Int)≤(l.length:Int):=by omega
    go_wp2
    go_ret2
    have hc:cycFind (edgeB es) l=none:=qaO fun k h1 h2=>hno k h1 (by omega)
    rw[hc]at hr;cases hr;refine⟨_,M5,rfl,?_,Sub.trans s1 (Sub.trans s2 (Sub.trans s3 (Sub.trans s4 hsub))),hCr,fun b o hb=>?_,?_,trivial⟩
    ·have e1:=hB1.size;have e2:=hB2.size;have e3:=hB3.size;have e4:=hB4.size;have e5:=hF.size;exact ((((hB1.trans (hB2.mono (by omega))).trans (hB3.mono (by omega))).trans (hB4.mono (by omega))).trans (B45.mono (by omega))).trans ⟨hF.os,hF.tape,hF.output,hF.size,fun k hk=>hF.block k (by omega) (by omega)⟩
    ·have e1:=hB1.size;have e2:=hB2.size;have e3:=hB3.size;have e4:=hB4.size;rw[hold b o (by omega),o4 b o (by omega),o3 b o (by omega),o2 b o (by omega),o1 b o hb]
    ·refine .tup (vs:=[.slice none 0 0,.int .i64 5]) rfl (fun j c v hc hv=>?_)
     match j,hc,hv with
     | 0,hc,hv=>cases hc;cases hv;exact .lstn _ _ _
     | 1,hc,hv=>cases hc;cases hv;exact .int _ _
   ·have n1:(long:Int)≤(l.length:Int):=by omega
    have n2:(0:Int)≤(long:Int):=by omega
    go_wp2
    go_loopw [28] (fun i wr=>∃ k:Nat,k≤l.length∧i=.int .i64 k∧FB w5 (w4.heap.size+1+1) wr∧∀ j y,j<k→l[j]? = some y→growF (edgeB es) l (long - 1) [y]=none)
     (fun i _=>l.length - (RowKit.intOf i).toNat)
    case atStart=>exact⟨0,Nat.zero_le _,rfl,hF,fun j y hj=>absurd hj (Nat.not_lt_zero _)⟩
    case round =>
     obtain⟨k,hk,rfl,hF2,hno2⟩:=hrel;obtain⟨k1',k2',hCr2⟩:=HH.out _ hF2
     rcases Nat.lt_or_ge k l.length with hk1 | hk1
     ·obtain⟨b,off,rfl,hM⟩:=hlc k hk1;have hcx:=je (hCr2 _ _ _ (hsub _ _ _ hM)) rfl;have j0:(0:Int)≤(k:Int):=A5 _
      have j1:(k:Int)<(l.length:Int):=by omega
      have hcall:=HN.out (long - 1) long l[k] _ (List.all_eq_true.1 hwf _ (List.getElem_mem hk1)) (by omega) (by omega) hF2;have hlk:l[k]? = some l[k]:=D1 hk1;generalize l[k]=x at hcx hcall hlk
      go_wp2_with fail
      refine Calls.mono hcall ?_
      rintro e w7 ⟨rfl,hgp,hfd⟩
      have hF7:=hF2.gp rfl hgp
      cases hres:growF (edgeB es) l (long - 1) [x] with
      | none =>
       rw[hres]at hfd
       go_wp2
       go_roundw
       case rel =>
        refine⟨k+1,hk1,by go_num,hF7,fun j y hj hy=>?_⟩
        rcases Nat.lt_succ_iff_lt_or_eq.1 hj with hj | rfl
        ·exact hno2 j y hj hy
        ·rw[hlk]at hy;cases hy;exact hres
       case measure=>simp[RowKit.intOf];omega
      | some c =>
       obtain⟨M',fv,g1,g2,g3,g4,g5⟩:=hfd c hres;have hfc:=cell_of_one g4
       go_wp2
       go_ret2
       have hc:cycFind (edgeB es) l=some c:=qaN hl2 hge hno (Yd hlk hno2 hres);rw[hc]at hr;cases hr;have e1:=hB1.size;have e2:=hB2.size;have e3:=hB3.size;have e4:=hB4.size;have e5:=hF2.size;refine⟨_,M',rfl,?_,Sub.trans s1 (Sub.trans s2 (Sub.trans s3 (Sub.trans s4 (Sub.trans hsub g1)))),g2,fun b o hb=>?_,?_,trivial⟩
       ·exact ((((hB1.trans (hB2.mono (by omega))).trans (hB3.mono (by omega))).trans (hB4.mono (by omega))).trans (B45.mono (by omega))).trans ⟨hF7.os,hF7.tape,hF7.output,hF7.size,fun k hk=>hF7.block k (by omega) (by omega)⟩
       ·rw[g3 b o (by simp;omega),hold b o (by omega),o4 b o (by omega),o3 b o (by omega),o2 b o (by omega),o1 b o hb]
       ·refine .tup (vs:=[fv,.int .i64 0]) rfl (fun j c' v hc hv=>?_)
        match j,hc,hv with
        | 0,hc,hv=>cases hc;cases hv;exact g5
        | 1,hc,hv=>cases hc;cases hv;exact .int _ _
     ·have hkl:k=l.length:=by omega
      subst hkl
      go_wp2
      go_roundw
      case rel =>
       refine⟨long+1,by omega,by omega,by go_num,hF2,fun j h1 h2=>?_⟩
       rcases Nat.lt_succ_iff_lt_or_eq.1 h2 with h2 | rfl
       ·exact hno j h1 h2
       ·exact YP hno2
      case measure=>simp[RowKit.intOf];omega
end Go.Proofs
namespace Go.AM
open Go.Proofs
open Go.Proofs
def qP (v35:(List Int)):Option (List Int) :=
 (some v35)
def jc (v8:(List Int)) (K9:((List Int)→Option (List Int))) (v32:Int):Option (List Int) :=
 (chk (capOk 8 ((v8++[v32])).length) (K9 (v8++[v32])))
def qV (N1:((List Int)→Option (List Int))) (v34:(List Int)):Option (List Int) :=
 (N1 v34)
def Ju (v18:Int) (v19:Int) (e24:hsOp) (N2:(Int→Int→Option (List Int))) (K16:(Int→Option (List Int))) (v30:Bool):Option (List Int) :=
 (bif v30 then (K16 e24.qg) else (N2 v18 (B3 .i64 (v19 - 1))))
def JU (x1:hsOp) (v18:Int) (v19:Int) (e24:hsOp) (N2:(Int→Int→Option (List Int))) (K16:(Int→Option (List Int))) (v28:Bool):Option (List Int) :=
 (bif (e24.qi == 1) then (bif (e24.qj == x1.qj) then ((Ju v18 v19 e24 N2 K16) (!v28)) else ((Ju v18 v19 e24 N2 K16) false)) else ((Ju v18 v19 e24 N2 K16) false))
def qU (a1:(List hsOp)) (k1:Nat) (x1:hsOp) (w4:(List (Int×Int))) (K16:(Int→Option (List Int))):Nat→Int→Int→Option (List Int)
 | 0,_,_=>none
 | m2+1,v18,v19=>(bif (decide (v19 ≥ 0)) then ((idx a1 v19).bind fun e24=>(chk (wfI .i64 e24.qg) (bif (decide ((mget keq1 0 e24.qg w4) ≥ 0)) then (chk (wfI .i64 e24.qg) ((JU x1 v18 v19 e24 (qU a1 k1 x1 w4 K16 m2) K16) (decide ((mget keq1 0 e24.qg w4)<(k1:Int))))) else ((JU x1 v18 v19 e24 (qU a1 k1 x1 w4 K16 m2) K16) false)))) else (K16 v18))
def qE (fuel:Nat) (a1:(List hsOp)) (w4:(List (Int×Int))) (K6:((List Int)→Option (List Int))):List hsOp→Nat→(List Int)→Option (List Int)
 | [],k1,v8=>(K6 v8)
 | x1::r1,k1,v8=>(bif (x1.qi != 0) then (chk (capOk 8 ((v8++[(-1)])).length) ((qV (qE fuel a1 w4 K6 r1 (k1+1))) (v8++[(-1)]))) else (qU a1 k1 x1 w4 (jc v8 (qV (qE fuel a1 w4 K6 r1 (k1+1)))) fuel 0 (B3 .i64 ((k1:Int) - 1))))
def QH (fuel:Nat) (a1:(List hsOp)):Option (List Int) :=
 ((jY fuel a1 3).bind fun w4=>(chk (lenOk a1) (qE fuel a1 w4 (qP) a1 0 ([]:(List Int)))))
theorem VF (fuel:Nat) (a1:(List hsOp)) (r:(List Int)) (h:QH fuel a1=some r):Run Try.prog (.call 60 [l44 none a1] (l3 (some 1) r)):=by
 refine cW Try.func60 rfl (env0:=[(0,l44 none a1)]) ?_;unfold QH at h;refine W.seq ?_;let z0:=fun t=>EN ((0,l44 none a1)::t);refine W.rt (e2:=z0 []) ?_;refine W.sr ?_;obtain⟨w4,hw4,h⟩:=qh h;refine WO.ck 1 (F:=62) (l:=[l44 none a1,.int .i64 3]) (C:=[]) (r:=mpE (AV.int .i64) (AV.int .i64) w4) (QP fuel a1 3 w4 hw4) (e1:=z0 [(11,l44 none a1),(12,mpE (AV.int .i64) (AV.int .i64) w4)]) ?_;let z1:=fun t=>z0 ((3,mpE (AV.int .i64) (AV.int .i64) w4)::t);refine WO.fn (e2:=z1 []) ?_;refine W.seq<|W.rt (e2:=z1 [(4,.nils)]) ?_;refine W.seq<|W.join (σ:=((List Int))) (fun s=>[(4,l3 (some 10400) s)]) (fun s=>(qP) s=some r) (fun v35 h=>?_) (fun hK6=>?_)
 ·unfold qP at h;refine W.seq<|W.rt (e2:=[(2,l3 (some 10400) v35)]) ?_;refine W.weak [2] [] [] [(10400,some 1)] (env':=[(2,l3 (some 1) v35)]) (by kernel_rfl) ?_;cases h;exact W.rr
 refine W.sr ?_;let z2:=fun t=>z1 ((4,.nils)::(13,l44 none a1)::(14,I6 (a1.length:Int))::t);refine WO.pq 1 (jM jn a1) (e1:=z2 [])<|WO.fn (e2:=z2 [(15,.int .i64 0)]) ?_;refine W.block ?_;obtain⟨hl1,h⟩:=qw h;refine W.weak [0,3,4,13,14,15] [] [(4,0,3,1,10400)] [] (env':=z1 [(4,l3 (some 10400) ([]:(List Int))),(13,l44 none a1),(14,I6 (a1.length:Int)),(15,I6 ((0:Nat):Int))]) (by kernel_rfl)<|W.range (σ:=((List Int))) a1 (fun k1 s=>z1 [(4,l3 (some 10400) s),(13,l44 none a1),(14,I6 (a1.length:Int)),(15,I6 (k1:Int))]) (fun r0 k0 s=>qE fuel a1 w4 (qP) r0 k0 s=some r) (fun v8 h=>?_) (fun x1 r1 k1 s hx1 hk1 h hN1=>?_) ([]:(List Int)) h
 ·have h:qE fuel a1 w4 (qP) [] (a1).length v8=some r:=h;rw[qE.eq_1]at h;refine W.sr ?_;let y0:Env:=[(3,mpE (AV.int .i64) (AV.int .i64) w4),(4,l3 (some 10400) v8),(13,l44 none a1),(14,I6 (a1.length:Int)),(15,I6 ((a1).length:Int)),(16,.bool false)];refine WO.pq 0 (jB (jN (l:=a1))) (e1:=z0 y0)<|WO.fn (e2:=z0 y0) ?_;refine W.seq<|W.cF<|W.exit<|W.wk (e:=[(4,l3 (some 10400) v8)]) ?_;exact hK6 v8 h
 ·obtain⟨v8,rfl⟩:∃ x,x=s:=⟨s,rfl⟩;have h:qE fuel a1 w4 (qP) (x1::r1) k1 v8=some r:=h;rw[qE.eq_2]at h;refine W.sr ?_;let y1:Env:=[(3,mpE (AV.int .i64) (AV.int .i64) w4),(4,l3 (some 10400) v8),(13,l44 none a1),(14,I6 (a1.length:Int)),(15,I6 (k1:Int)),(16,.bool true)];refine WO.pq 0 (jB (Jr hk1)) (e1:=z0 y1)<|WO.fn (e2:=z0 y1) ?_;refine W.seq<|W.cT<|W.skip ?_;let y2:Env:=[(13,l44 none a1),(14,I6 (a1.length:Int)),(15,I6 (k1:Int))];let z3:=fun t=>z1 ((4,l3 (some 10400) v8)::t);refine W.wk (e:=z3 y2)<|W.seq<|W.join (σ:=((List Int))) (fun s=>z1 ((4,l3 (some 10400) s)::y2)) (fun s=>(qV (qE fuel a1 w4 (qP) r1 (k1+1))) s=some r) (fun v34 h=>?_) (fun hK9=>?_)
  ·unfold qV at h;refine W.rg ?_;let z4:=fun t=>z1 ((4,l3 (some 10400) v34)::(13,l44 none a1)::(14,I6 (a1.length:Int))::t);refine WO.pq 0 (jI (jg hl1 hk1)) (e1:=z4 [(15,I6 (k1:Int)),(69,I6 ((k1+1:Nat):Int))])<|WO.fn (e2:=z4 [(15,I6 ((k1+1:Nat):Int))]) ?_;exact hN1 v34 h
  refine W.block<|W.sr<|WO.pq 1 (Js (f:=jn) hx1) (e1:=z3 [(13,l44 none a1),(14,I6 (a1.length:Int)),(15,I6 (k1:Int)),(17,I6 (k1:Int)),(18,.ptr (.agg [I6 x1.qg,I6 x1.qi,I6 x1.qj]))]) ?_;let y3:Env:=(3,mpE (AV.int .i64) (AV.int .i64) w4)::(4,l3 (some 10400) v8)::(5,I6 (k1:Int))::(6,.ptr (.agg [I6 x1.qg,I6 x1.qi,I6 x1.qj]))::y2;refine WO.fi [0,3,4,5,6,13,14,15] [6] (e2:=z0 y3) ?_;refine W.seq<|W.seq ?_;let z5:=fun t=>z3 ((5,I6 (k1:Int))::(6,.ptr (.agg [I6 x1.qg,I6 x1.qi,I6 x1.qj]))::t);refine W.rt (e2:=z5 [(13,l44 none a1),(14,I6 (a1.length:Int)),(15,I6 (k1:Int)),(22,.bool (x1.qi != 0))]) ?_;refine W.ch (x1.qi != 0) h (fun h=>?_) (fun h=>?_)
  ·refine W.sr ?_;obtain⟨hc14,h⟩:=qw h;refine WO.appendK 2 (d:=25) (e:=3) (s:=1) (bytes:=8) (xs:=(M6 v8)) (ys:=(M6 [(-1)])) (zs:=(M6 (v8++[(-1)]))) (env1:=[(0,l44 none a1),(3,mpE (AV.int .i64) (AV.int .i64) w4),(4,l3 none v8),(5,I6 (k1:Int)),(6,.ptr (.agg [I6 x1.qg,I6 x1.qi,I6 x1.qj])),(13,l44 none a1),(14,I6 (a1.length:Int)),(15,I6 (k1:Int)),(22,.bool (x1.qi != 0)),(23,l3 none v8),(24,l3 (some 24) [(-1)])]) (by kernel_rfl) (List.map_append.symm) (by rw[B4];exact hc14) (e1:=z1 [(4,l3 none v8),(5,I6 (k1:Int)),(6,.ptr (.agg [I6 x1.qg,I6 x1.qi,I6 x1.qj])),(13,l44 none a1),(14,I6 (a1.length:Int)),(15,I6 (k1:Int)),(22,.bool (x1.qi != 0)),(23,l3 none v8),(24,l3 (some 24) [(-1)]),(25,l3 (some 25) (v8++[(-1)]))]) (by kernel_rfl) ?_;refine WO.fn (e2:=z1 ((4,l3 (some 25) (v8++[(-1)]))::y2)) ?_;refine W.exit<|W.weak [0,3,4,13,14,15] [] [] [(25,some 10400)] (env':=z1 ((4,l3 (some 10400) (v8++[(-1)]))::y2)) (by kernel_rfl) ?_;exact hK9 (v8++[(-1)]) h
  refine W.sw (e:=z0 y3) ?_;refine W.seq<|W.rt (e2:=z5 ((7,.int .i64 0)::y2)) ?_;refine W.seq<|W.join (σ:=(Int)) (fun s=>z3 ((7,I6 s)::y2)) (fun s=>(jc v8 (qV (qE fuel a1 w4 (qP) r1 (k1+1)))) s=some r) (fun v32 h=>?_) (fun hK16=>?_)
  ·unfold jc at h;refine W.rg ?_;obtain⟨hc33,h⟩:=qw h;refine WO.appendK 3 (d:=68) (e:=3) (s:=1) (bytes:=8) (xs:=(M6 v8)) (ys:=(M6 [v32])) (zs:=(M6 (v8++[v32]))) (env1:=[(0,l44 none a1),(3,mpE (AV.int .i64) (AV.int .i64) w4),(4,l3 none v8),(7,I6 v32),(13,l44 none a1),(14,I6 (a1.length:Int)),(15,I6 (k1:Int)),(65,l3 none v8),(66,I6 v32),(67,l3 (some 67) [v32])]) (by kernel_rfl) (List.map_append.symm) (by rw[B4];exact hc33) (e1:=z1 [(4,l3 none v8),(7,I6 v32),(13,l44 none a1),(14,I6 (a1.length:Int)),(15,I6 (k1:Int)),(65,l3 none v8),(66,I6 v32),(67,l3 (some 67) [v32]),(68,l3 (some 68) (v8++[v32]))]) (by kernel_rfl) ?_;refine WO.fin [0,3,4,13,14,15] [] [] [(68,some 10400)] (e2:=z1 ((4,l3 (some 10400) (v8++[v32]))::y2)) (by kernel_rfl) (fun _ h=>h) ?_;exact hK9 (v8++[v32]) h
  refine W.seq ?_;let y4:Env:=(3,mpE (AV.int .i64) (AV.int .i64) w4)::(4,l3 (some 10400) v8)::(5,I6 (k1:Int))::(6,.ptr (.agg [I6 x1.qg,I6 x1.qi,I6 x1.qj]))::(7,.int .i64 0)::(8,I6 (W6 ((k1:Int) - 1)))::y2;refine W.rt (e2:=z0 y4) ?_;refine W.block<|W.wk (e:=z0 y4)<|W.fuel (σ:=(Int×Int)) (fun s=>z5 ((7,I6 s.1)::(8,I6 s.2)::y2)) (fun m0 s=>qU a1 k1 x1 w4 (jc v8 (qV (qE fuel a1 w4 (qP) r1 (k1+1)))) m0 s.1 s.2=some r) (fun s h=>?_) (fun m2 s h hN2=>?_) fuel (0,(W6 ((k1:Int) - 1))) h
  ·obtain⟨v18,v19⟩:=s;have h:qU a1 k1 x1 w4 (jc v8 (qV (qE fuel a1 w4 (qP) r1 (k1+1)))) 0 v18 v19=some r:=h;rw[qU.eq_1]at h;cases h
  ·obtain⟨v18,v19⟩:=s;have h:qU a1 k1 x1 w4 (jc v8 (qV (qE fuel a1 w4 (qP) r1 (k1+1)))) (m2+1) v18 v19=some r:=h;rw[qU.eq_2]at h;refine W.seq<|W.seq ?_;let z6:=fun t=>z5 ((7,I6 v18)::(8,I6 v19)::t);let z7:=fun t=>z6 ((13,l44 none a1)::(14,I6 (a1.length:Int))::(15,I6 (k1:Int))::t);refine W.rt (e2:=z7 [(29,.bool (decide (v19 ≥ 0)))]) ?_;refine W.ch (decide (v19 ≥ 0)) h (fun h=>?_) (fun h=>?_)
   ·refine W.skip ?_;let y5:Env:=(3,mpE (AV.int .i64) (AV.int .i64) w4)::(4,l3 (some 10400) v8)::(5,I6 (k1:Int))::(6,.ptr (.agg [I6 x1.qg,I6 x1.qi,I6 x1.qj]))::(7,I6 v18)::(8,I6 v19)::y2;refine W.wk (e:=z0 y5)<|W.seq<|W.block<|W.sr ?_;obtain⟨e24,he24,h⟩:=qh h;refine WO.pq 2 (qaI (f:=jn) he24) (e1:=z7 [(32,l44 none a1),(33,I6 v19),(34,.ptr (.agg [I6 e24.qg,I6 e24.qi,I6 e24.qj]))]) ?_;let z8:=fun t=>z6 ((9,.ptr (.agg [I6 e24.qg,I6 e24.qi,I6 e24.qj]))::t);refine WO.fi [0,3,4,5,6,7,8,9,13,14,15] [9] (e2:=z8 y2) ?_;refine W.seq<|W.join (σ:=(Bool)) (fun s=>z8 ((10,.bool s)::y2)) (fun s=>(JU x1 v18 v19 e24 (qU a1 k1 x1 w4 (jc v8 (qV (qE fuel a1 w4 (qP) r1 (k1+1)))) m2) (jc v8 (qV (qE fuel a1 w4 (qP) r1 (k1+1))))) s=some r) (fun v28 h=>?_) (fun hK25=>?_)
    ·unfold JU at h;refine W.seq ?_;let z9:=fun t=>z8 ((13,l44 none a1)::(14,I6 (a1.length:Int))::(15,I6 (k1:Int))::t);refine W.join (σ:=(Bool)) (fun s=>z9 [(62,.bool s)]) (fun s=>(Ju v18 v19 e24 (qU a1 k1 x1 w4 (jc v8 (qV (qE fuel a1 w4 (qP) r1 (k1+1)))) m2) (jc v8 (qV (qE fuel a1 w4 (qP) r1 (k1+1))))) s=some r) (fun v30 h=>?_) (fun hK29=>?_)
     ·unfold Ju at h;refine W.ch v30 h (fun h=>?_) (fun h=>?_)
      ·refine W.seq ?_;let y6:Env:=(3,mpE (AV.int .i64) (AV.int .i64) w4)::(4,l3 (some 10400) v8)::(7,I6 e24.qg)::y2;refine W.rt (e2:=z0 y6) ?_;refine W.exit<|W.wk (e:=z0 y6) ?_;exact hK16 e24.qg h
      refine W.sw (e:=z0 y5) ?_;refine W.rt (e2:=z5 ((7,I6 v18)::(8,I6 (W6 (v19 - 1)))::y2)) ?_;exact hN2 (v18,(W6 (v19 - 1))) h
     refine W.rg ?_;let z10:=fun t=>z8 ((10,.bool v28)::(13,l44 none a1)::(14,I6 (a1.length:Int))::(15,I6 (k1:Int))::(49,.ptr (I6 e24.qi))::(50,I6 e24.qi)::t);refine WO.bh 4 (fun b=>z10 [(51,.bool b),(52,.bool b)]) (e24.qi == 1) h (fun h=>?_) (fun h=>?_)
     ·refine WO.bh 7 (fun b=>z10 [(51,.bool true),(52,.bool true),(53,.ptr (I6 e24.qj)),(54,I6 e24.qj),(55,.ptr (I6 x1.qj)),(56,I6 x1.qj),(57,.bool b),(58,.bool b),(59,.bool b)]) (e24.qj == x1.qj) h (fun h=>?_) (fun h=>?_)
      ·refine WO.fn (e2:=z9 [(62,.bool (!v28))]) ?_;exact hK29 (!v28) h
      refine WO.fn (e2:=z9 [(62,.bool false)]) ?_;exact hK29 false h
     refine WO.fn (e2:=z9 [(62,.bool false)]) ?_;exact hK29 false h
    refine W.rg ?_;obtain⟨hc26,h⟩:=qw h;let z11:=fun t=>z8 ((13,l44 none a1)::(14,I6 (a1.length:Int))::(15,I6 (k1:Int))::(36,mpE (AV.int .i64) (AV.int .i64) w4)::(37,.ptr (I6 e24.qg))::(38,I6 e24.qg)::(39,I6 (mget keq1 0 e24.qg w4))::t);refine WO.pk 3 ((alookup Try.prog 85 [] (mpE (AV.int .i64) (AV.int .i64) w4) (I6 e24.qg)).map AV.strip) (congrArg (B5 AV.strip) (jD (F:=(AV.int .i64)) (G:=(AV.int .i64)) (eq:=keq1) (l:=w4) (k:=e24.qg) (z:=0) (kt:=3) (e:=3) (Jy hc26) (by kernel_rfl) (fun x=>by kernel_rfl) (fun x y=>by kernel_rfl) (by kernel_rfl))) (e1:=z11 []) ?_;refine WO.bh 2 (fun b=>z11 [(40,.bool b),(41,.bool b)]) (decide ((mget keq1 0 e24.qg w4) ≥ 0)) h (fun h=>?_) (fun h=>?_)
    ·obtain⟨hc27,h⟩:=qw h;refine WO.pk 3 ((alookup Try.prog 85 [] (mpE (AV.int .i64) (AV.int .i64) w4) (I6 e24.qg)).map AV.strip) (congrArg (B5 AV.strip) (jD (F:=(AV.int .i64)) (G:=(AV.int .i64)) (eq:=keq1) (l:=w4) (k:=e24.qg) (z:=0) (kt:=3) (e:=3) (Jy hc27) (by kernel_rfl) (fun x=>by kernel_rfl) (fun x y=>by kernel_rfl) (by kernel_rfl))) (e1:=z11 [(40,.bool true),(41,.bool true),(42,mpE (AV.int .i64) (AV.int .i64) w4),(43,.ptr (I6 e24.qg)),(44,I6 e24.qg),(45,I6 (mget keq1 0 e24.qg w4))]) ?_;refine WO.fn (e2:=z8 ((10,.bool (decide ((mget keq1 0 e24.qg w4)<(k1:Int))))::y2)) ?_;exact hK25 (decide ((mget keq1 0 e24.qg w4)<(k1:Int))) h
    refine WO.fn (e2:=z8 ((10,.bool false)::y2)) ?_;exact hK25 false h
   refine W.exit<|W.wk (e:=z3 ((7,I6 v18)::y2)) ?_;exact hK16 v18 h
def Vf (fuel:Nat) (a1:(List hsOp)):Option ((List Int)×Int):=cycP fuel a1
theorem Uh (fuel:Nat) (a1:(List hsOp)) (r:((List Int)×Int)) (h:Vf fuel a1=some r):Run Try.prog (.call 19 [l44 none a1] (.tup [l3 none r.1,I6 r.2])):=.ext0 (cycle19 h)
def bigFuel:Nat:=36893488147419103232
theorem jT {α:Type} {l:List α} (h:l.length≤9223372036854775807):lenOk l=true:=B6 (by omega)
theorem qC {α:Type} {x:Option α}:chk true x=x:=rfl
theorem wr {i:Int} (h1 : -9000000000000000000≤i) (h2:i≤9000000000000000000):B3 .i64 i=i:=NN (by omega) (by omega)
theorem capS {b n:Nat} (hb:b≤1000) (hn:n≤100000):capOk b n=true:=by
 have:n * b≤100000 * 1000:=Nat.mul_le_mul hn hb;simp only[capOk,A3,Nat.ble_eq];omega
theorem wf6 {i:Int} (h1 : -1000≤i) (h2:i≤1000):wfI .i64 i=true:=by
 unfold wfI Lit.wf;simp[IntKind.min,IntKind.max,IntKind.signed,IntKind.bits];omega
theorem qfU {α:Type} (p q:List α):sub (p++q) 0 ((p.length:Nat):Int)=some p:=by
 unfold sub;rw[if_pos ⟨by omega,by omega,by simp;omega⟩];simp
theorem qcV {α:Type} {l:List α} {i:Nat} {x:α} (h:l[i]? = some x):idx l ((i:Nat):Int)=some x:=by
 unfold idx;rw[if_pos (A5 _),Int.toNat_natCast];exact h
theorem UV {V:Type} (z v:V) (k t:Int):∀ l:List (Int×V),mget keq1 z t (mset keq1 k v l)=if k=t then v else mget keq1 z t l
 | []=>by
  unfold mset mget mget keq1;by_cases h:k=t
  ·subst h;simp
  ·have:(k == t)=false:=beq_eq_false_iff_ne.2 h;rw[this,if_neg h];rfl
 | p::r=>by
  have ih:=UV z v k t r;unfold mset;by_cases hk:p.1=k
  ·have e1:keq1 p.1 k=true:=by unfold keq1;simp[hk]
   rw[e1];simp only[cT];unfold mget;have e2:keq1 (p.1,v).1 t=keq1 p.1 t:=rfl;rw[e2];by_cases h:k=t
   ·rw[if_pos h]
    have:keq1 p.1 t=true:=by unfold keq1;simp[hk,h]
    rw[this];rfl
   ·rw[if_neg h]
    have:keq1 p.1 t=false:=by unfold keq1;rw[hk];exact beq_eq_false_iff_ne.2 h
    rw[this];rfl
  ·have e1:keq1 p.1 k=false:=by unfold keq1;exact beq_eq_false_iff_ne.2 hk
   rw[e1];simp only[cN];unfold mget;rw[ih];by_cases hp:p.1=t
   ·have e2:keq1 p.1 t=true:=by unfold keq1;simp[hp]
    have h:¬ k=t:=fun e=>hk (by rw[hp,e])
    simp only[e2,if_neg h]
   ·have e2:keq1 p.1 t=false:=by unfold keq1;exact beq_eq_false_iff_ne.2 hp
    rw[e2];rfl
theorem qbE {V:Type} (k:Int) (v:V):∀ l:List (Int×V),(mset keq1 k v l).length≤l.length+1
 | []=>by simp[mset]
 | p::r=>by
  have:=qbE k v r;unfold mset;cases keq1 p.1 k <;> simp <;> omega
def cv (x:rf5Op):hsOp:=hsOp.mk x.qg x.qi x.qj
theorem qgj (K:List hsOp→Option (List hsOp)):∀ (r:List rf5Op) (k:Nat) (v:List hsOp),v.length=k→k≤43→QM K r k v=K (v++(r.take (43 - k)).map cv)
 | [],k,v,hv,hk=>by rw[QM.eq_1];simp
 | x::r,k,v,hv,hk=>by
  rw[QM.eq_2];by_cases h:k=43
  ·subst h;rw[decide_eq_true (by omega)];simp
  ·rw[decide_eq_false (by omega),capS (by omega) (by simp;omega)];simp only[cN,qC];rw[qgj K r (k+1) _ (by simp;omega) (by omega)]
   have:43 - k=(43 - (k+1))+1:=by omega
   rw[this,List.take_succ_cons,A6,B7];rfl
theorem qcK {h:List rf5Op} (hl:lenOk h=true):YB h=some ((h.take 43).map cv):=by
 unfold YB;rw[hl,qC,qgj _ h 0 [] rfl (by omega)];rfl
def bad6 (x:rf5Op):Bool:=decide (x.qg<1) || (decide (x.qg > 6) || (decide (x.qi<0) || (decide (x.qi > 3) || (decide (x.qj<0) || decide (x.qj > 5)))))
def ended (t:Int) (l:List rf5Op):Bool:=l.any fun p=>(p.qg == t) && decide (p.qi > 1)
def okFrom (pre:List rf5Op):List rf5Op→Bool
 | []=>true
 | x::r=>(!bad6 x && (!(decide (x.qi > 1) && (x.qj != 0)) && !ended x.qg pre)) && okFrom (pre++[x]) r
theorem chain6 {β:Type} (a z:β) (d1 d2 d3 d4 d5 d6:Bool):(bif d1 then a else bif d2 then a else bif d3 then a else bif d4 then a else bif d5 then a else bif d6 then a else z)=bif (d1 || (d2 || (d3 || (d4 || (d5 || d6))))) then a else z:=by
 cases d1 <;> cases d2 <;> cases d3 <;> cases d4 <;> cases d5 <;> cases d6 <;> rfl
theorem Dt (x:rf5Op) (K:Option Bool):∀ (e:List rf5Op) (k:Nat),JF x K e k=bif ended x.qg e then some false else K
 | [],k=>by rw[JF.eq_1];rfl
 | p::e,k=>by
  rw[JF.eq_2,Dt x K e (k+1)];unfold Xc ended;rw[List.any_cons]
  cases (p.qg == x.qg) with
  | false=>rfl
  | true=>cases decide (p.qi > 1) <;> rfl
theorem Du {h:List rf5Op} (hh:lenOk h=true) (K:Option Bool):∀ (r:List rf5Op) (k:Nat) (pre:List rf5Op),h=pre++r→pre.length=k→jd h K r k=bif okFrom pre r then K else some false
 | [],k,pre,_,_=>by rw[jd.eq_1];rfl
 | x::r,k,pre,he,hk=>by
  have ih:=Du hh K r (k+1) (pre++[x]) (by rw[he];simp) (by simp[hk])
  have hsub:sub h 0 (k:Int)=some pre:=by rw[he,← hk];exact qfU pre _
  have hlp:lenOk pre=true:=by
   have:=A0 hh;rw[he,List.length_append]at this;exact jT (by omega)
  rw[jd.eq_2,chain6,ih];unfold Jp jJ;rw[hsub];simp only[A1,hlp,qC,Dt,cT,cN];show _=bif (!bad6 x && (!(decide (x.qi > 1) && (x.qj != 0)) && !ended x.qg pre)) && okFrom (pre++[x]) r then K else some false;have:(decide (x.qg<1) || (decide (x.qg > 6) || (decide (x.qi<0) || (decide (x.qi > 3) || (decide (x.qj<0) || decide (x.qj > 5))))))=bad6 x:=rfl;rw[this];cases bad6 x <;> cases decide (x.qi > 1) <;> cases (x.qj != 0) <;> cases ended x.qg pre <;> rfl
def validB (h:List rf5Op):Bool:=okFrom [] h && decide (h.length≤40)
theorem qcy {h:List rf5Op} (hh:lenOk h=true):Ze h=some (validB h):=by
 unfold Ze;rw[hh,qC,Du hh _ h 0 [] rfl rfl];unfold JV validB
 have:decide ((h.length:Int)≤40)=decide (h.length≤40):=by
  by_cases hc:h.length≤40
  ·rw[decide_eq_true (by omega),decide_eq_true hc]
  ·rw[decide_eq_false (by omega),decide_eq_false hc]
 rw[this];cases okFrom [] h <;> rfl
theorem Dx (K:Option Bool):∀ (r:List rf5Op) (k:Nat) (pre:List rf5Op) (m:List (Int×Bool)),(∀ t,mget keq1 false t m=ended t pre)→m.length≤pre.length→pre.length+r.length≤1000 →
  jO K (r.map cv) k m=bif okFrom pre r then K else some false
 | [],k,pre,m,_,_,_=>by rw[B8,jO.eq_1];rfl
 | x::r,k,pre,m,hm,hml,hl=>by
  have hl:pre.length+(r.length+1)≤1000:=hl
  have ih:=fun m' h1 h2=>Dx K r (k+1) (pre++[x]) m' h1 h2 (by simp;omega)
  rw[A6,jO.eq_2];unfold Xw jR;simp only[chain6]
  have e5:decide ((cv x).qj ≥ 6)=decide (x.qj > 5):=by
   by_cases hc:x.qj > 5
   ·rw[decide_eq_true hc];exact decide_eq_true (show x.qj ≥ 6 by omega)
   ·rw[decide_eq_false hc];exact decide_eq_false (show ¬ x.qj ≥ 6 by omega)
  rw[e5];have:(decide ((cv x).qg<1) || (decide ((cv x).qg > 6) || (decide ((cv x).qi<0) || (decide ((cv x).qi > 3) || (decide ((cv x).qj<0) || decide (x.qj > 5))))))=bad6 x:=rfl;rw[this];show _=bif (!bad6 x && (!(decide (x.qi > 1) && (x.qj != 0)) && !ended x.qg pre)) && okFrom (pre++[x]) r then K else some false
  cases hb:bad6 x with
  | true =>
   simp only[cT];cases ((cv x).qi == 2) <;> rfl
  | false =>
   simp only[bad6,D2,decide_eq_false_iff_not]at hb;obtain⟨b1,b2,b3,b4,b5,b6⟩:=hb;have hwf:wfI .i64 (cv x).qg=true:=wf6 (by show -1000≤x.qg;omega) (by show x.qg≤1000;omega);have hml2:Nat.blt m.length 1000000000=true:=B6 (by omega);have hmt:mget keq1 false (cv x).qg m=ended x.qg pre:=hm x.qg;simp only[cN,hwf,qC,hml2,hmt]
   have hstep:∀ b:Bool,b=decide (x.qi > 1)→ended x.qg pre=false→jO K (r.map cv) (k+1) (mset keq1 (cv x).qg b m)=bif okFrom (pre++[x]) r then K else some false:=by
    intro b hb2 hen;refine ih _ (fun t=>?_) (by have:=qbE x.qg b m;rw[List.length_append,List.length_singleton];show (mset keq1 x.qg b m).length≤_;omega);show mget keq1 false t (mset keq1 x.qg b m)=_;rw[UV,hm];unfold ended at hen ⊢;rw[List.any_append,List.any_cons,List.any_nil,Bool.or_false];by_cases ht:x.qg=t
    ·subst ht;rw[if_pos rfl,hen,hb2];simp
    ·rw[if_neg ht];have:(x.qg == t)=false:=beq_eq_false_iff_ne.2 ht;rw[this];simp
   have k2:((cv x).qi == 2)=(x.qi == 2):=rfl;have k3:((cv x).qi == 3)=(x.qi == 3):=rfl;have i0:((cv x).qj != 0)=(x.qj != 0):=rfl;rw[k2,k3,i0];by_cases hk:x.qi > 1
   ·have h23:(x.qi == 2)=true∨(x.qi == 2)=false∧(x.qi == 3)=true:=by
     by_cases h2:x.qi=2
     ·left;simp[h2]
     ·right;exact⟨beq_eq_false_iff_ne.2 h2,by simp;omega⟩
    have hst:=hstep true (decide_eq_true hk).symm;rw[decide_eq_true hk]
    cases hi:(x.qj != 0) with
    | true=>rcases h23 with h2 | ⟨h2,h3⟩ <;> simp[*]
    | false =>
     cases hen:ended x.qg pre with
     | true=>rcases h23 with h2 | ⟨h2,h3⟩ <;> simp[*]
     | false =>
      have:=hst hen
      rcases h23 with h2 | ⟨h2,h3⟩ <;> simp[*]
   ·have h2:(x.qi == 2)=false:=beq_eq_false_iff_ne.2 (by omega);have h3:(x.qi == 3)=false:=beq_eq_false_iff_ne.2 (by omega);have hst:=hstep false (decide_eq_false hk).symm;rw[decide_eq_false hk,h2,h3]
    cases hen:ended x.qg pre with
    | true=>simp
    | false =>
     have:=hst hen;simp[*]
theorem qcC {h:List rf5Op} (hl:h.length≤1000):QT (h.map cv)=some (validB h):=by
 unfold QT validB;rw[B4];by_cases hc:h.length≤40
 ·rw[decide_eq_false (by omega),jT (by simp;omega),decide_eq_true hc];simp only[cN,qC];rw[Dx _ h 0 [] [] (fun t=>rfl) (by simp) (by simp;omega)];unfold JX;cases okFrom [] h <;> rfl
 ·rw[decide_eq_true (by omega),decide_eq_false hc];simp
theorem Yw {h:List rf5Op}:QT ((h.take 43).map cv)=some (validB h):=by
 rw[qcC (by rw[List.length_take];omega)];by_cases hc:h.length≤43
 ·rw[List.take_of_length_le hc]
 ·unfold validB;rw[decide_eq_false (p:=h.length≤40) (by omega),decide_eq_false (p:=(h.take 43).length≤40) (by rw[List.length_take];omega)];simp
theorem Hh:∀ (r pre:List rf5Op),okFrom pre r=true→∀ x,x∈r→bad6 x=false∧(x.qi > 1→x.qj=0)
 | [],pre,_,x,hx=>by cases hx
 | y::r,pre,h,x,hx=>by
  unfold okFrom at h;simp only[A3,Bool.not_eq_true']at h;obtain⟨⟨h1,h2,h3⟩,h4⟩:=h
  rcases List.mem_cons.1 hx with rfl | hx
  ·refine⟨h1,fun hk=>?_⟩;rw[decide_eq_true hk]at h2
   simpa using h2
  ·exact Hh r _ h4 x hx
structure Hist (h:List rf5Op):Prop where
 len:h.length≤1000
 txn:∀ x,x∈h→1≤x.qg∧x.qg≤6
 kind:∀ x,x∈h→0≤x.qi∧x.qi≤3
 item:∀ x,x∈h→0≤x.qj∧x.qj≤5
 zero:∀ x,x∈h→x.qi > 1→x.qj=0
theorem ZB {h:List rf5Op} (hv:validB h=true):Hist h∧h.length≤40:=by
 unfold validB at hv;simp only[A3,decide_eq_true_eq]at hv;have hm:=Hh h [] hv.1
 have hb:∀ x,x∈h→(1≤x.qg∧x.qg≤6)∧(0≤x.qi∧x.qi≤3)∧(0≤x.qj∧x.qj≤5):=by
  intro x hx;have:=(hm x hx).1;simp only[bad6,D2,decide_eq_false_iff_not]at this;omega
 exact⟨⟨by omega,fun x hx=>(hb x hx).1,fun x hx=>(hb x hx).2.1,fun x hx=>(hb x hx).2.2,fun x hx=>(hm x hx).2⟩,hv.2⟩
def endL (t k:Int):List rf5Op→Nat→Int
 | [],_ => -1
 | x::r,i=>bif (x.qg == t) && (x.qi == k) then (i:Int) else endL t k r (i+1)
theorem qbP {t k:Int} (hk:k > 1):∀ (r:List rf5Op) (i:Nat),(∀ x,x∈r→x.qi > 1→x.qj=0)→qZ (hsOp.mk t k 0) (JA) (r.map cv) i=some (endL t k r i)
 | [],i,_=>by rw[B8,qZ.eq_1];rfl
 | x::r,i,hz=>by
  rw[A6,qZ.eq_2,qbP hk r (i+1) fun y hy=>hz y (D3 _ hy)]
  have:((t == (cv x).qg) && ((k == (cv x).qi) && (((0:Int) == (cv x).qj) && true)))=((x.qg == t) && (x.qi == k)):=by
   show ((t == x.qg) && ((k == x.qi) && (((0:Int) == x.qj) && true)))=_;rw[Bool.beq_comm (a:=t),Bool.beq_comm (a:=k)];by_cases h1:x.qi=k
   ·have:=hz x (List.mem_cons_self ..) (by omega);rw[this];simp
   ·have:(x.qi == k)=false:=beq_eq_false_iff_ne.2 h1;rw[this];simp
  rw[this];show _=some (bif (x.qg == t) && (x.qi == k) then (i:Int) else endL t k r (i+1));cases (x.qg == t) && (x.qi == k) <;> rfl
theorem qeq {h:List rf5Op} (H:Hist h) {t k:Int} (hk:k > 1):JW (h.map cv) (hsOp.mk t k 0)=some (endL t k h 0):=by
 have:=H.len;unfold JW;rw[jT (by simp;omega),qC];exact qbP hk h 0 H.zero
def endMap (f:Int→Int):List (Int×Int):=[(1,f 1),(2,f 2),(3,f 3),(4,f 4),(5,f 5),(6,f 6)]
theorem qbF {f:Int→Int} {t:Int} (h1:1≤t) (h2:t≤6):mget keq1 0 t (endMap f)=f t:=by
 have:t=1∨t=2∨t=3∨t=4∨t=5∨t=6:=by omega
 rcases this with rfl | rfl | rfl | rfl | rfl | rfl <;> rfl
theorem Xn {h:List rf5Op} (H:Hist h) {k:Int} (hk:k > 1) (K:List (Int×Int)→Option (List (Int×Int))) {m:Nat} {v:List (Int×Int)} (t t':Int) (h1:1≤t) (h2:t≤6) (ht:t'=t+1) (hv:v.length≤10) :
  qY (h.map cv) k K (m+1) v t=qY (h.map cv) k K m (mset keq1 t (endL t k h 0) v) t':=by
 subst ht;rw[qY.eq_2,decide_eq_true h2,qeq H hk];simp only[cT,A1];rw[wf6 (by omega) (by omega),qC,B6 (show v.length+1≤1000000000 by omega) |> (fun e=>show Nat.blt v.length 1000000000=true from e),qC,wr (by omega) (by omega)]
theorem Ua {h:List rf5Op} (H:Hist h) {k:Int} (hk:k > 1):jY bigFuel (h.map cv) k=some (endMap fun t=>endL t k h 0):=by
 unfold jY;have e:bigFuel=36893488147419103225+1+1+1+1+1+1+1:=rfl;rw[e,Xn H hk _ 1 2 (by omega) (by omega) rfl (by simp),Xn H hk _ 2 3 (by omega) (by omega) rfl (A0 rfl),Xn H hk _ 3 4 (by omega) (by omega) rfl (A0 rfl),Xn H hk _ 4 5 (by omega) (by omega) rfl (A0 rfl),Xn H hk _ 5 6 (by omega) (by omega) rfl (A0 rfl),Xn H hk _ 6 7 (by omega) (by omega) rfl (A0 rfl)];rw[qY.eq_2,decide_eq_false (by omega)];rfl
def scanB (W:rf5Op→Bool):List rf5Op→Int
 | []=>0
 | p::r=>bif W p then p.qg else scanB W r
def scanF (W:rf5Op→Bool) (v:Int):List rf5Op→Int
 | []=>v
 | p::r=>scanF W (bif W p then p.qg else v) r
theorem Hb (W:rf5Op→Bool) (p:rf5Op):∀ (l:List rf5Op) (v:Int),scanF W v (l++[p])=bif W p then p.qg else scanF W v l
 | [],v=>rfl
 | q::l,v=>by
  rw[List.cons_append];unfold scanF;exact Hb W p l _
theorem Ds (W:rf5Op→Bool):∀ (l:List rf5Op),scanF W 0 l.reverse=scanB W l
 | []=>rfl
 | p::l=>by
  rw[List.reverse_cons,Hb,Ds W l];rfl
theorem Nk {W W':rf5Op→Bool}:∀ {l:List rf5Op},(∀ p,p∈l→W p=W' p)→scanB W l=scanB W' l
 | [],_=>rfl
 | p::l,h=>by
  unfold scanB;rw[h p (List.mem_cons_self ..),Nk fun q hq=>h q (D3 _ hq)]
def wins (h:List rf5Op) (i:Nat) (x p:rf5Op):Bool:=(p.qi == 1) && ((p.qj == x.qj) && !(decide (endL p.qg 3 h 0 ≥ 0) && decide (endL p.qg 3 h 0<(i:Int))))
def fromAt (h:List rf5Op) (i:Nat) (x:rf5Op):Int:=bif x.qi != 0 then -1 else scanB (wins h i x) (h.take i).reverse
def fromL (h:List rf5Op):List rf5Op→Nat→List Int
 | [],_=>[]
 | x::r,i=>fromAt h i x::fromL h r (i+1)
theorem DS (h:List rf5Op):∀ (r:List rf5Op) (i:Nat),(fromL h r i).length=r.length
 | [],i=>rfl
 | x::r,i=>by unfold fromL;simp[DS h r (i+1)]
theorem qdC {h:List rf5Op} (H:Hist h) (i:Nat) (x:rf5Op) (K:Int→Option (List Int)):∀ (j m:Nat),j≤h.length→j<m →
  qU (h.map cv) i (cv x) (endMap fun t=>endL t 3 h 0) K m 0 ((j:Int) - 1)=K (scanB (wins h i x) (h.take j).reverse)
 | 0,m,hj,hm=>by
  obtain⟨m,rfl⟩:∃ m',m=m'+1:=⟨m - 1,by omega⟩;rw[qU.eq_2,decide_eq_false (by omega)];rfl
 | j+1,m,hj,hm=>by
  have hlen:=H.len;obtain⟨m,rfl⟩:∃ m',m=m'+1:=⟨m - 1,by omega⟩
  have ej:((j+1:Nat):Int) - 1=(j:Int):=by omega
  have hmem:h[j]∈h:=List.getElem_mem (by omega);have ht:=H.txn _ hmem;have ih:=qdC H i x K j m (by omega) (by omega);rw[qU.eq_2,ej,decide_eq_true (by omega),qcV (x:=cv h[j]) (by rw[List.getElem?_map,D1 (by omega)];rfl)];simp only[cT,A1];have hwf:wfI .i64 (cv h[j]).qg=true:=wf6 (by show -1000≤h[j].qg;omega) (by show h[j].qg≤1000;omega);have hmg:mget keq1 0 (cv h[j]).qg (endMap fun t=>endL t 3 h 0)=endL h[j].qg 3 h 0:=qbF ht.1 ht.2;simp only[hwf,qC,hmg]
  have etk:(h.take (j+1)).reverse=h[j]::(h.take j).reverse:=by
   rw[List.take_succ_eq_append_getElem (by omega),List.reverse_append];rfl
  rw[etk];unfold JU Ju scanB wins;have a1:((cv h[j]).qi == 1)=(h[j].qi == 1):=rfl;have a2:((cv h[j]).qj == (cv x).qj)=(h[j].qj == x.qj):=rfl;have a3:(cv h[j]).qg=h[j].qg:=rfl;rw[a1,a2,a3,wr (by omega) (by omega),ih]
  cases (h[j].qi == 1) with
  | false=>cases decide (endL h[j].qg 3 h 0 ≥ 0) <;> rfl
  | true =>
   cases (h[j].qj == x.qj) with
   | false=>cases decide (endL h[j].qg 3 h 0 ≥ 0) <;> rfl
   | true=>cases decide (endL h[j].qg 3 h 0 ≥ 0) <;> cases decide (endL h[j].qg 3 h 0<(i:Int)) <;> rfl
theorem qdD {h:List rf5Op} (H:Hist h) (K:List Int→Option (List Int)):∀ (r:List rf5Op) (k:Nat) (v:List Int),k+r.length=h.length→v.length=k →
  qE bigFuel (h.map cv) (endMap fun t=>endL t 3 h 0) K (r.map cv) k v=K (v++fromL h r k)
 | [],k,v,_,_=>by rw[B8,qE.eq_1];simp[fromL]
 | x::r,k,v,hk,hv=>by
  have hlen:=H.len;have hk:k+(r.length+1)=h.length:=hk
  have ih:=fun z=>qdD H K r (k+1) (v++[z]) (by omega) (by simp;omega)
  have hcap:∀ z:Int,capOk 8 (v++[z]).length=true:=fun z=>capS (by omega) (by simp;omega)
  rw[A6,qE.eq_2];unfold qV jc;rw[wr (by omega) (by omega),qdC H k x _ k bigFuel (by omega) (by unfold bigFuel;omega)];simp only[hcap,qC,ih];have:((cv x).qi != 0)=(x.qi != 0):=rfl;rw[this];have ef:fromL h (x::r) k=fromAt h k x::fromL h r (k+1):=rfl;rw[ef];unfold fromAt
  cases (x.qi != 0) with
  | true=>simp only[cT,B7,D4]
  | false=>simp only[cN,B7,D4]
theorem qfv {h:List rf5Op} (H:Hist h):QH bigFuel (h.map cv)=some (fromL h h 0):=by
 have:=H.len;unfold QH;rw[Ua H (by omega)];simp only[A1];rw[jT (by simp;omega),qC,qdD H _ h 0 [] (by simp) rfl];rfl
theorem Hx:∀ (p q:List Int),jE (p++q) (Qj) q p.length=some true
 | p,[]=>by rw[jE.eq_1];rfl
 | p,x::q=>by
  have h:idx (p++x::q) ((p.length:Nat):Int)=some x:=qcV (by simp);rw[jE.eq_2,h];simp only[A1,bne_self_eq_false,cN];have:=Hx (p++[x]) q
  simpa using this
theorem ZK {l:List Int} (hl:l.length≤100000):Jn l l=some true:=by
 unfold Jn;rw[jT (by omega)];simp only[bne_self_eq_false,cN,qC];exact Hx [] l
theorem qeU {l:List Int} (hm:l.Pairwise fun a b=>a≤b):sortI l=l:=by
 have h1:(sortI l).Pairwise fun a b=>decide (a≤b)=true:=List.pairwise_mergeSort (by intro a b c;simp;omega) (by intro a b;simp;omega) l
 refine List.Perm.eq_of_pairwise (le:=fun a b=>a≤b) (fun a b _ _ x y=>by omega) (h1.imp fun h=>by simpa using h) hm (List.mergeSort_perm l _)
def commL (h:List rf5Op):List Int:=([1,2,3,4,5,6]:List Int).filter fun t=>decide (endL t 2 h 0 ≥ 0)
theorem qfE (f:Int→Int):comm (endMap f)=([1,2,3,4,5,6]:List Int).filter fun t=>decide (f t ≥ 0):=by
 have:endMap f=([1,2,3,4,5,6]:List Int).map fun t=>(t,f t):=rfl
 unfold comm;rw[this,List.filter_map,List.map_map];have e:(Prod.fst ∘ fun t:Int=>(t,f t))=id:=rfl;rw[e,List.map_id];rfl
theorem QN {h:List rf5Op} (H:Hist h):jj bigFuel (h.map cv)=some (commL h):=by
 unfold jj;rw[Ua H (by omega)];simp only[A1];have:decide ((endMap fun t=>endL t 2 h 0).length≤1000)=true:=rfl;rw[this,qC,qfE]
 have hp:(([1,2,3,4,5,6]:List Int).filter fun t=>decide (endL t 2 h 0 ≥ 0)).Pairwise fun a b=>a≤b:=by
  refine List.Pairwise.filter _ ?_
  decide
 rw[qeU hp];rfl
def sample:List rf5Op:=[⟨2,1,0⟩,⟨1,0,0⟩,⟨1,2,0⟩,⟨2,2,0⟩]
theorem qbk:Hist sample:=(ZB (by rfl)).1
theorem qeD:Yt bigFuel=some true:=by
 have e:[(hsOp.mk 2 1 0),(hsOp.mk 1 0 0),(hsOp.mk 1 2 0),(hsOp.mk 2 2 0)]=sample.map cv:=rfl;have hc:=QN qbk;have hcl:commL sample=[1,2]:=rfl;rw[hcl]at hc
 have ho:Xx bigFuel (sample.map cv)=some ([2,1],0):=by
  unfold Xx Jx;rw[hc]
  kernel_rfl
 unfold Yt;rw[e,ho];rfl
end Go.AM
namespace Go.AM
open Go.Proofs
def srcB (E:Int→Int→Bool) (l:List Int) (b:Int):Bool:=!(l.any fun a=>E a b)
def topo (E:Int→Int→Bool):Nat→List Int→Option (List Int)
 | _,[]=>some []
 | 0,_::_=>none
 | n+1,x::l=>match (x::l).find? (srcB E (x::l)) with
  | none=>none
  | some b=>(topo E n ((x::l).erase b)).map (b::·)
def permsF:Nat→List Int→List (List Int)
 | _,[]=>[[]]
 | 0,_::_=>[]
 | n+1,x::l=>(x::l).flatMap fun y=>(permsF n ((x::l).erase y)).map (y::·)
theorem Uj:∀ {n:Nat} {l:List Int},l.Nodup→l.length≤n→∀ p,p∈permsF n l↔p.Perm l
 | n,[],_,_,p=>by
  have:permsF n []=[[]]:=by cases n <;> rfl
  rw[this,List.mem_singleton,List.perm_nil]
 | 0,x::l,_,h,_=>by simp at h
 | n+1,x::l,hn,hl,p=>by
  have e:permsF (n+1) (x::l)=(x::l).flatMap fun y=>(permsF n ((x::l).erase y)).map (y::·):=rfl
  rw[e,List.mem_flatMap];constructor
  ·rintro⟨y,hy,hp⟩
   obtain⟨q,hq,rfl⟩:=List.mem_map.1 hp;have:=(Uj (n:=n) (hn.erase y) (by rw[D5 hy];simp at hl ⊢;omega) q).1 hq;exact (this.cons y).trans (D6 hy).symm
  ·intro hp
   cases p with
   | nil=>exact absurd hp.length_eq (by simp)
   | cons y q =>
    have hy:y∈x::l:=hp.mem_iff.1 (by simp);refine⟨y,hy,List.mem_map.2 ⟨q,?_,rfl⟩⟩;refine (Uj (n:=n) (hn.erase y) (by rw[D5 hy];simp at hl ⊢;omega) q).2 ?_;have:=hp.trans (D6 hy);exact (List.perm_cons y).1 this
theorem ZE {y:Int} (f:List Int→Bool) (L:List (List Int)):(L.map (y::·)).find? f=(L.find? fun p=>f (y::p)).map (y::·):=by
 rw[List.find?_map];rfl
theorem Hv {α:Type} {f g:α→Bool}:∀ {l:List α},(∀ x,x∈l→f x=g x)→l.find? f=l.find? g
 | [],_=>rfl
 | a::l,h=>by
  rw[C7,C7,h a (by simp),Hv (l:=l) fun x hx=>h x (by simp[hx])]
theorem Xy {α β:Type} {f g:α→Option β}:∀ {l:List α},(∀ x,x∈l→f x=g x)→l.findSome? f=l.findSome? g
 | [],_=>rfl
 | a::l,h=>by
  rw[A2,A2,h a (by simp),Xy (l:=l) fun x hx=>h x (by simp[hx])]
def someF:Nat→List Int→List (List Int)
 | 0,_=>[[]]
 | n+1,l=>l.flatMap fun y=>(someF n (l.erase y)).map (y::·)
def extE (E:Int→Int→Bool) (h:Int):Int→List Int→Bool
 | a,[]=>E a h
 | a,t::q=>E a t && extE E h t q
def cycB (E:Int→Int→Bool):List Int→Bool
 | []=>true
 | t::q=>extE E t t q
theorem Xh {α β:Type} (p:α→Bool) (g:α→Option β):∀ l:List α,(l.filter p).findSome? g=l.findSome? fun t=>if p t then g t else none
 | []=>rfl
 | a::l=>by
  rw[List.filter_cons,A2]
  cases p a with
  | true=>simp only[if_true];rw[A2,Xh p g l]
  | false=>simp only[D0,if_false];rw[Xh p g l]
theorem YT {l c:List Int} (hn:l.Nodup) (y:Int):(l.filter fun x=>!c.contains x).erase y=l.filter fun x=>!(c++[y]).contains x:=by
 rw[List.Nodup.erase_eq_filter (show List.Nodup _ from List.Pairwise.filter _ hn),List.filter_filter]
 refine List.filter_congr fun x _=>?_
 simp only[List.contains_append,Bool.not_or,List.contains_cons,List.contains_nil,Bool.or_false];cases hx:(x == y) <;> cases c.contains x <;> simp[bne,hx]
theorem ZF {α β γ:Type} (f:β→γ) (g:α→Option β):∀ l:List α,(l.findSome? g).map f=l.findSome? fun x=>(g x).map f
 | []=>rfl
 | a::l=>by
  rw[A2,A2]
  cases g a with
  | some b=>rfl
  | none=>exact ZF f g l
theorem DR {E:Int→Int→Bool} {l:List Int} (hn:l.Nodup):∀ (n:Nat) (c:List Int),c≠[]→growF E l n c=((someF n (l.filter fun x=>!c.contains x)).find? (extE E (c.headD 0) (c.getLastD 0))).map (c++·)
 | 0,c,hc=>by
  unfold growF someF;rw[C7];show _=B5 (c++·) (match E (c.getLastD 0) (c.headD 0) with | true=>some [] | false=>[].find? _);cases E (c.getLastD 0) (c.headD 0) <;> simp
 | n+1,c,hc=>by
  have e1:growF E l (n+1) c=l.findSome? fun t=>if c.contains t then none else if E (c.getLastD 0) t then growF E l n (c++[t]) else none:=rfl
  have e2:∀ F:List Int,someF (n+1) F=F.flatMap fun y=>(someF n (F.erase y)).map (y::·):=fun _=>rfl
  rw[e1,e2,List.find?_flatMap,ZF,Xh]
  refine Xy fun t ht=>?_
  cases hct:c.contains t with
  | true=>rfl
  | false =>
   simp only[D0,if_false,Bool.not_false,if_true];rw[ZE]
   have h2:(fun p=>extE E (c.headD 0) (c.getLastD 0) (t::p))=fun p=>E (c.getLastD 0) t && extE E (c.headD 0) t p:=rfl
   rw[h2]
   cases hE:E (c.getLastD 0) t with
   | false =>
    simp only[Bool.false_and,D0,if_false];rw[List.find?_eq_none.2 (by simp)];rfl
   | true =>
    simp only[Bool.true_and,if_true];have ih:=DR (E:=E) hn n (c++[t]) (by simp)
    have hh:(c++[t]).headD 0=c.headD 0:=by cases c with | nil=>exact absurd rfl hc | cons a r=>rfl
    have hl:(c++[t]).getLastD 0=t:=by simp[A8]
    rw[ih,hh,hl,YT hn];cases (someF n (l.filter fun x=>!(c++[t]).contains x)).find? (extE E (c.headD 0) t) <;> simp
theorem qfx {E:Int→Int→Bool} {l:List Int} (hn:l.Nodup) (n:Nat):l.findSome? (fun t=>growF E l n [t])=(someF (n+1) l).find? (cycB E):=by
 have e2:someF (n+1) l=l.flatMap fun y=>(someF n (l.erase y)).map (y::·):=rfl
 rw[e2,List.find?_flatMap]
 refine Xy fun t ht=>?_
 rw[DR hn n [t] (by simp),ZE]
 have h1:(l.filter fun x=>!([t]:List Int).contains x)=l.erase t:=by
  rw[hn.erase_eq_filter]
  refine List.filter_congr fun x _=>?_
  by_cases h:x=t <;> simp[h]
 rw[h1];rfl
theorem UJ:∀ (n:Nat) (l p:List Int),p∈someF n l→p.length=n∧∀ x,x∈p→x∈l
 | 0,l,p,h=>by
  have:p=[]:=by simpa[someF] using h
  subst this;simp
 | n+1,l,p,h=>by
  obtain⟨y,hy,h⟩:=List.mem_flatMap.1 h;obtain⟨q,hq,rfl⟩:=List.mem_map.1 h;obtain⟨h1,h2⟩:=UJ n _ q hq;refine⟨by simp[h1],fun x hx=>?_⟩
  rcases List.mem_cons.1 hx with rfl | hx
  ·exact hy
  ·exact List.mem_of_mem_erase (h2 x hx)
end Go.AM
