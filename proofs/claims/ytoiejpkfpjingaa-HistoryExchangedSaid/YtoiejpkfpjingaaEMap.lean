import Derived.Test.YtoiejpkfpjingaaECyc3
import Derived.Laws.EntriesVeiled
import Derived.Test.YtoiejpkfpjingaaASimJ
import Derived.Test.YtoiejpkfpjingaaChecked
import Derived.Test.YtoiejpkfpjingaaKAT
import Derived.Test.YtoiejpkfpjingaaHA1
set_option linter.all false
set_option maxRecDepth 100000
open Option renaming bind_some→A0, map→D1
open List renaming map_cons→A1, map_nil→A2, findSome?_cons→A3, take_of_length_le→A9, mem_cons_of_mem→B3, mem_cons_self→B4, find?_cons→B5, getElem?_range→B6, getElem_mem→B7, length_map→D0, append_assoc→D3, any_cons→D4, length_erase_of_mem→D5, getElem?_eq_getElem→D6, singleton_append→D8, perm_cons_erase→D9, mem_of_mem_erase→E0, length_filter_le→E7
open Bool renaming and_eq_true→A4, false_eq_true→A7, or_eq_false_iff→D7
open Nat renaming le_refl→A5, le_of_ble_eq_true→A6, ble_eq_true_of_le→A8
open Go.IntKind renaming wrap→B8
open Int renaming toNat_natCast→D2
namespace Go.AM
def cycFind (E:Int→Int→Bool) (l:List Int):Option (List Int):=(List.range (l.length+1)).findSome? fun long=>if long<2 then none else l.findSome? fun t=>growF E l (long - 1) [t]
def edgeB (es:List (qe×Bool)) (a b:Int):Bool:=mget qp false ⟨a,b⟩ es
def cycP (fuel:Nat) (a1:List hsOp):Option (List Int×Int):=(Qw a1).bind fun ok=>bif ok then (jp fuel a1).bind fun p=>(jf p).bind fun es=>(qM fuel a1).bind fun l=>chk (decide (l.length≤999) && l.all (wfI .i64)) (some (match cycFind (edgeB es) l with | some c=>(c,0) | none=>([],5))) else some ([],2)
end Go.AM
namespace Go.Proofs
open Go.RowKit Go.AM
theorem qcF {M:Mem} {es:List (qe×Bool)} {mv:Value} (hm:R M (mpE qg AV.bool es) mv):∀ w,Cons M w→∀ a b,wfI .i64 a=true→wfI .i64 b=true→(Instr.lookup 67 mv (.agg #[.int .i64 a,.int .i64 b]) false).run Try.prog w=.ok (.bool (edgeB es a b)) w:=by
 intro w hC a b ha hb
 have hk:(qg ⟨a,b⟩).keyV=some (.agg #[.int .i64 a,.int .i64 b]):=by
  simp only[qg,AV.keyV,keyVs,ha,hb]
 have hr:=JM (P:=Try.prog) (t:=67) (kt:=73) (e:=4) (F:=qg) (G:=AV.bool) (eq:=qp) (l:=es) (k:=⟨a,b⟩) (z:=false) (by rw[hk];rfl) (by kernel_rfl) (fun x=>by kernel_rfl) (fun x y=>rfl) (by kernel_rfl);obtain⟨v,h1,h2⟩:=Dn (kt:=73) (e:=4) (w:=w) hC hm (by kernel_rfl) hk hr;cases h2;exact h1
theorem qbX {M:Mem} {ks vs:List AV} {v:Value} (h:R M (.mpv ks vs) v):∃ mo,v=.map mo:=by
 generalize hx:AV.mpv ks vs=x at h
 cases h <;> first | exact⟨_,rfl⟩ | cases hx
structure FB (w:World) (bf:Nat) (w':World):Prop where
 os:w'.os=w.os
 tape:w'.tape=w.tape
 output:w'.output=w.output
 size:w.heap.size≤w'.heap.size
 block:∀ k,k<w.heap.size→k≠bf→w'.heap[k]? = w.heap[k]?
 box:∃ fv,w'.heap[bf]? = some (.cells #[fv] 24 (0,0))
theorem FB.cons {M:Mem} {w w1:World} {bf:Nat} (h:FB w bf w1) (hC:Cons M w) (hf:∀ o,M bf o=none):Cons M w1 :=
 hC.of_blocks fun b o u hu hb=>h.block b hb fun e=>by rw[e,hf]at hu;cases hu
theorem FB.gp {w w1 w2:World} {bf base:Nat} {vc:Value} {c:List Int} {o:Obj} (h:FB w bf w1) (hv:vc.ownBlock=some w1.heap.size) (k:GP base (w1.alloc o) bf vc c w2):FB w bf w2:=by
 have hs:=h.size;have ks:=k.size;simp at ks;refine⟨k.os.trans h.os,k.tape.trans h.tape,k.output.trans h.output,by omega,fun j hj hne=>?_,k.box⟩;rw[k.block j (by simp;omega) hne (fun e=>by rw[hv]at e;simp at e;omega),heap_alloc_old _ _ (by omega),h.block j hj hne]
theorem Ho {E:Int→Int→Bool} {l:List Int} (h:∀ k,2≤k→k≤l.length→l.findSome? (fun t=>growF E l (k - 1) [t])=none):cycFind E l=none:=by
 unfold cycFind
 refine Xf fun j y hj hy=>?_
 rw[List.length_range]at hj;rw[B6 hj]at hy;cases hy;split
 ·rfl
 ·exact h j (by omega) (by omega)
theorem Hn {E:Int→Int→Bool} {l c:List Int} {k:Nat} (h1:2≤k) (h2:k≤l.length) (h:∀ j,2≤j→j<k→l.findSome? (fun t=>growF E l (j - 1) [t])=none) (h3:l.findSome? (fun t=>growF E l (k - 1) [t])=some c):cycFind E l=some c:=by
 unfold cycFind;refine Qx (B6 (by omega:k<l.length+1)) (fun j y hj hy=>?_) (by rw[if_neg (by omega)];exact h3);rw[B6 (by omega)]at hy;cases hy;split
 ·rfl
 ·exact h j (by omega) hj
def DP (M:Mem) (w:World) (r:AV) (e:Ending) (w':World):Prop:=∃ v M',e=.returned v∧Below w.heap.size w w'∧Sub M M'∧Cons M' w'∧(∀ b o,b<w.heap.size→M' b o=M b o)∧R M' r v∧OwnR M' w.heap.size w' r v
set_option maxHeartbeats 4000000 in
theorem cycle19 {fuel:Nat} {a1:List hsOp} {r:List Int×Int} (h:cycP fuel a1=some r):CallOk Try.prog 19 [l44 none a1] (.tup [l3 none r.1,.int .i64 r.2]):=by
 intro M w vs hG hC hl hR
 obtain⟨v0,rfl⟩:∃ v0,vs=[v0]:=by
  match vs,hl with
  | [v0],_=>exact⟨v0,rfl⟩
 have r0:R M (l44 none a1) v0:=hR 0 _ v0 rfl rfl;clear hR hl hG;show Calls Try.prog 19 [v0].toArray w (DP M w (.tup [l3 none r.1,.int .i64 r.2]));unfold cycP at h;obtain⟨ok,hok,h⟩:=qd h;have c26:=jg (XD a1 ok hok) M w [v0] (glob0 M) hC rfl (fun j a b ha hb=>by match j,ha,hb with | 0,ha,hb=>cases ha;cases hb;exact r0);have mixed:=mixedP;have t3:=Try.underlying3;have a3:=Try.isAgg3;have z3:=Try.sizeOf3;have v3:=Try.zeroValue3;have u3:=run_underlying Try.underlying3;have t4:=Try.underlying4;have a4:=Try.isAgg4;have z4:=Try.sizeOf4;have v4:=Try.zeroValue4;have t24:=Try.underlying24;have a24:=Try.isAgg24;have z24:=Try.sizeOf24;have v24:=Try.zeroValue24;have u24:=run_underlying Try.underlying24;have t25:=Try.underlying25;have a25:=Try.isAgg25;have z25:=Try.sizeOf25;have v25:=Try.zeroValue25;have t55:=Try.underlying55;have a55:=Try.isAgg55;have z55:=Try.sizeOf55;have v55:=Try.zeroValue55;have t67:=Try.underlying67;have a67:=Try.isAgg67;have z67:=Try.sizeOf67;have v67:=Try.zeroValue67;have en52:=Try.enter52
 cases ok with
 | false =>
  cases h
  go_enter Try.func19,Try.ntmps19
  go_wp2_with fail
  refine c26.mono ?_
  rintro e w1 ⟨v,M1,rfl,hB1,s1,C1,o1,r1,_⟩
  cases r1
  go_wp2
  go_ret2
  refine⟨_,M1,rfl,hB1,s1,C1,o1,?_,trivial⟩;refine .tup (vs:=[.slice none 0 0,.int .i64 2]) rfl (fun j c v hc hv=>?_)
  match j,hc,hv with
  | 0,hc,hv=>cases hc;cases hv;exact .lstn _ _ _
  | 1,hc,hv=>cases hc;cases hv;exact .int _ _
 | true =>
  simp only[cond_true]at h;obtain⟨p,hp,h⟩:=qd h;obtain⟨es,hes,h⟩:=qd h;obtain⟨l,hcm,h⟩:=qd h;obtain⟨hck,h⟩:=qx h;rw[A4,decide_eq_true_eq]at hck;obtain⟨hlen,hwf⟩:=hck;have hr:=Option.some.inj h;clear h
  go_enter Try.func19,Try.ntmps19
  go_wp2_with fail
  refine c26.mono ?_
  rintro e w1 ⟨v,M1,rfl,hB1,s1,C1,o1,r1,_⟩
  cases r1;have c48:=jg (Jx fuel a1 p hp) M1 w1 [v0] (glob0 M1) C1 rfl (fun j a b ha hb=>by match j,ha,hb with | 0,ha,hb=>cases ha;cases hb;exact r0.mono s1)
  go_wp2_with fail
  refine c48.mono ?_
  rintro e w2 ⟨vp,M2,rfl,hB2,s2,C2,o2,r2,_⟩
  have c49:=jg (Jz p es hes) M2 w2 [vp] (glob0 M2) C2 rfl (fun j a b ha hb=>by match j,ha,hb with | 0,ha,hb=>cases ha;cases hb;exact r2.setLab)
  go_wp2_with fail
  refine c49.mono ?_
  rintro e w3 ⟨mv,M3,rfl,hB3,s3,C3,o3,r3,_⟩
  have c51:=jg (jv fuel a1 l hcm) M3 w3 [v0] (glob0 M3) C3 rfl (fun j a b ha hb=>by match j,ha,hb with | 0,ha,hb=>cases ha;cases hb;exact r0.mono (Sub.trans s1 (Sub.trans s2 s3)))
  go_wp2_with fail
  refine c51.mono ?_
  rintro e w4 ⟨lv,M4,rfl,hB4,s4,C4,o4,r4,_⟩
  obtain⟨lv1,lvc,rfl,hlc⟩:=QN (l:=l) r4;obtain⟨mo,rfl⟩:=qbX r3
  have hcD:((((w4.alloc (.cells #[.map mo] 67)).alloc (.cells #[.slice lv1 l.length lvc] 24)).alloc (.cells #[.slice none 0 0] 24)).alloc (.cells #[.nilFunc] 55)).heap[w4.heap.size+1+1+1]? = some (.cells #[.nilFunc] 55 (0,0)):=by
   have:=heap_alloc_new (((w4.alloc (.cells #[.map mo] 67)).alloc (.cells #[.slice lv1 l.length lvc] 24)).alloc (.cells #[.slice none 0 0] 24)) (.cells #[.nilFunc] 55)
   simpa using this
  have hcD1:=cell_of_one hcD;have hcD2:=free_of_one hcD;obtain⟨w5,ew5⟩:∃ w5,w5=((((w4.alloc (.cells #[.map mo] 67)).alloc (.cells #[.slice lv1 l.length lvc] 24)).alloc (.cells #[.slice none 0 0] 24)).alloc (.cells #[.func (.func 52) #[] #[.pointer (some ⟨w4.heap.size+1+1,0,none⟩),.pointer (some ⟨w4.heap.size,0,none⟩),.pointer (some ⟨w4.heap.size+1,0,none⟩),.pointer (some ⟨w4.heap.size+1+1+1,0,none⟩)]] 55)):=⟨_,rfl⟩
  have a0:w5.heap[w4.heap.size]? = some (.cells #[.map mo] 67 (0,0)):=by rw[ew5,heap_alloc_old _ _ (by simp <;> omega),heap_alloc_old _ _ (by simp <;> omega),heap_alloc_old _ _ (by simp <;> omega)];exact heap_alloc_new _ _
  have a1':w5.heap[w4.heap.size+1]? = some (.cells #[.slice lv1 l.length lvc] 24 (0,0)):=by rw[ew5,heap_alloc_old _ _ (by simp <;> omega),heap_alloc_old _ _ (by simp <;> omega)];have:=heap_alloc_new (w4.alloc (.cells #[.map mo] 67)) (.cells #[.slice lv1 l.length lvc] 24);simpa using this
  have a2:w5.heap[w4.heap.size+1+1]? = some (.cells #[.slice none 0 0] 24 (0,0)):=by rw[ew5,heap_alloc_old _ _ (by simp)];have:=heap_alloc_new ((w4.alloc (.cells #[.map mo] 67)).alloc (.cells #[.slice lv1 l.length lvc] 24)) (.cells #[.slice none 0 0] 24);simpa using this
  have a3':w5.heap[w4.heap.size+1+1+1]? = some (.cells #[growV (w4.heap.size+1+1) w4.heap.size (w4.heap.size+1) (w4.heap.size+1+1+1)] 55 (0,0)):=by
   have e1:=heap_alloc_new (((w4.alloc (.cells #[.map mo] 67)).alloc (.cells #[.slice lv1 l.length lvc] 24)).alloc (.cells #[.slice none 0 0] 24)) (.cells #[growV (w4.heap.size+1+1) w4.heap.size (w4.heap.size+1) (w4.heap.size+1+1+1)] 55)
   have e2:(((w4.alloc (.cells #[.map mo] 67)).alloc (.cells #[.slice lv1 l.length lvc] 24)).alloc (.cells #[.slice none 0 0] 24)).heap.size=w4.heap.size+1+1+1:=by simp
   rw[e2]at e1;rw[ew5];exact e1
  have hs5:w5.heap.size=w4.heap.size+4:=by rw[ew5];simp
  have C45:Cons M4 w5:=by rw[ew5];exact (((C4.alloc _).alloc _).alloc _).alloc _
  have B45:Below w4.heap.size w4 w5:=by rw[ew5];exact ((((Below.refl _ _).alloc (A5 _) _).alloc (by simp) _).alloc (by simp;omega) _).alloc (by simp;omega) _
  obtain⟨M5,eM5⟩:∃ M5,M5=madd (madd (madd M4 w4.heap.size (.map mo)) (w4.heap.size+1) (.slice lv1 l.length lvc)) (w4.heap.size+1+1+1) (growV (w4.heap.size+1+1) w4.heap.size (w4.heap.size+1) (w4.heap.size+1+1+1)):=⟨_,rfl⟩
  have hold:∀ b o,b<w4.heap.size→M5 b o=M4 b o:=fun b o hb=>by rw[eM5,qY (by omega),qY (by omega),qY (by omega)]
  have hsub:Sub M4 M5:=fun b o u hu=>by rw[hold b o (XV (C4 _ _ _ hu))];exact hu
  have C5:Cons M5 w5:=by rw[eM5];exact QK (QK (QK C45 a0 rfl rfl) a1' rfl rfl) a3' rfl rfl
  have hnone:∀ b o,w4.heap.size≤b→M4 b o=none:=fun b o hb=>by
   cases hm:M4 b o with
   | none=>rfl
   | some u=>have:=XV (C4 _ _ _ hm);omega
  have hG:GE M5 (w4.heap.size+1+1) w4.heap.size (w4.heap.size+1) (w4.heap.size+1+1+1) (edgeB es) l:=by
   refine⟨⟨.map mo,by rw[eM5,qY (by omega),qY (by omega),Yz],rfl,fun w' h'=>qcF r3 w' fun b o u hu=>h' _ _ _ (hsub _ _ _ (s4 _ _ _ hu))⟩,⟨_,by rw[eM5,qY (by omega),Yz],rfl,R.mono hsub r4⟩,by rw[eM5,Yz],fun o=>?_,fun x hx=>List.all_eq_true.1 hwf x hx,by omega⟩;rw[eM5,qY (by omega),qY (by omega),qY (by omega)];exact hnone _ _ (by omega)
  have F5:FB w5 (w4.heap.size+1+1) w5:=⟨rfl,rfl,rfl,A5 _,fun _ _ _=>rfl,_,a2⟩
  have hgw:=fun n long x wr (hx:wfI .i64 x=true) (h1:1+n=long) (h2:long≤1000) (hF:FB w5 (w4.heap.size+1+1) wr) =>
   Try.grow52 n (edgeB es) l [x] M5 (wr.alloc (.cells #[.int .i64 x] 3)) wr.heap.size (w4.heap.size+1+1) w4.heap.size (w4.heap.size+1) (w4.heap.size+1+1+1) long (.slice (some ⟨wr.heap.size,0,none⟩) 1 1) hG ((hF.cons C5 hG.f).alloc _) (by simp) (fun y hy=>by rw[List.mem_singleton.1 hy];exact hx) h1 h2
    ⟨rfl,.inr ⟨wr.heap.size,1,#[.int .i64 x],rfl,A5 _,heap_alloc_new _ _,A5 _,by unfold maxLen;omega,rfl,rfl⟩⟩
    (fun g hg o=>by
     cases hg
     cases hm:M5 wr.heap.size o with
     | none=>rfl
     | some u=>have:=XV (hF.cons C5 hG.f _ _ _ hm);omega)
    (by obtain⟨fv,hfv⟩:=hF.box;exact⟨fv,by rw[heap_alloc_old _ _ (lt_of_block hfv)];exact hfv⟩) (by simp)
  have HL:∀ wr,FB w5 (w4.heap.size+1+1) wr→wr.cell? ⟨w4.heap.size+1,0,none⟩=some (.slice lv1 l.length lvc)∧wr.cell? ⟨w4.heap.size+1+1+1,0,none⟩=some (.func (.func 52) #[] #[.pointer (some ⟨w4.heap.size+1+1,0,none⟩),.pointer (some ⟨w4.heap.size,0,none⟩),.pointer (some ⟨w4.heap.size+1,0,none⟩),.pointer (some ⟨w4.heap.size+1+1+1,0,none⟩)])∧Cons M5 wr :=
   fun wr hF=>⟨cell_of_one (t:=24) (by rw[hF.block _ (by omega) (by omega)];exact a1'),cell_of_one (t:=55) (by rw[hF.block _ (by omega) (by omega)];exact a3'),hF.cons C5 hG.f⟩
  have HN:=(show Hid _ from hgw);have HH:=(show Hid _ from HL);have HW:=(show Hid (w5=_) from ew5);clear c26 c48 c49 c51 hgw HL a0 a1' a2 a3' eM5 hnone
  go_wp2
  rw[← HW.out];clear ew5
  go_loopw [8] (fun i wr=>∃ long:Nat,2≤long∧long≤l.length+2∧i=.int .i64 long∧FB w5 (w4.heap.size+1+1) wr∧∀ k,2≤k→k<long→l.findSome? (fun t=>growF (edgeB es) l (k - 1) [t])=none)
   (fun i _=>l.length+3 - (RowKit.intOf i).toNat)
  case atStart=>exact⟨2,A5 _,by omega,rfl,F5,fun k h1 h2=>by omega⟩
  case round =>
   obtain⟨long,hl2,hll,rfl,hF,hno⟩:=hrel;obtain⟨k1,k2,hCr⟩:=HH.out wr hF
   rcases Nat.lt_or_ge l.length long with hlt | hge
   ·have n1:¬ (long:Int)≤(l.length:Int):=by omega
    go_wp2
    go_ret2
    have hc:cycFind (edgeB es) l=none:=Ho fun k h1 h2=>hno k h1 (by omega)
    rw[hc]at hr;cases hr;refine⟨_,M5,rfl,?_,Sub.trans s1 (Sub.trans s2 (Sub.trans s3 (Sub.trans s4 hsub))),hCr,fun b o hb=>?_,?_,trivial⟩
    ·have e1:=hB1.size;have e2:=hB2.size;have e3:=hB3.size;have e4:=hB4.size;have e5:=hF.size;exact ((((hB1.trans (hB2.mono (by omega))).trans (hB3.mono (by omega))).trans (hB4.mono (by omega))).trans (B45.mono (by omega))).trans ⟨hF.os,hF.tape,hF.output,hF.size,fun k hk=>hF.block k (by omega) (by omega)⟩
    ·have e1:=hB1.size;have e2:=hB2.size;have e3:=hB3.size;have e4:=hB4.size;rw[hold b o (by omega),o4 b o (by omega),o3 b o (by omega),o2 b o (by omega),o1 b o hb]
    ·refine .tup (vs:=[.slice none 0 0,.int .i64 5]) rfl (fun j c v hc hv=>?_)
     match j,hc,hv with
     | 0,hc,hv=>cases hc;cases hv;exact .lstn _ _ _
     | 1,hc,hv=>cases hc;cases hv;exact .int _ _
   ·have n1:(long:Int)≤(l.length:Int):=by omega
    have n2:(0:Int)≤(long:Int):=by omega
    go_wp2
    go_loopw [28] (fun i wr=>∃ k:Nat,k≤l.length∧i=.int .i64 k∧FB w5 (w4.heap.size+1+1) wr∧∀ j y,j<k→l[j]? = some y→growF (edgeB es) l (long - 1) [y]=none)
     (fun i _=>l.length - (RowKit.intOf i).toNat)
    case atStart=>exact⟨0,Nat.zero_le _,rfl,hF,fun j y hj=>absurd hj (Nat.not_lt_zero _)⟩
    case round =>
     obtain⟨k,hk,rfl,hF2,hno2⟩:=hrel;obtain⟨k1',k2',hCr2⟩:=HH.out _ hF2
     rcases Nat.lt_or_ge k l.length with hk1 | hk1
     ·obtain⟨b,off,rfl,hM⟩:=hlc k hk1;have hcx:=qu (hCr2 _ _ _ (hsub _ _ _ hM)) rfl;have j0:(0:Int)≤(k:Int):=Int.natCast_nonneg _
      have j1:(k:Int)<(l.length:Int):=by omega
      have hcall:=HN.out (long - 1) long l[k] _ (List.all_eq_true.1 hwf _ (B7 hk1)) (by omega) (by omega) hF2;have hlk:l[k]? = some l[k]:=D6 hk1;generalize l[k]=x at hcx hcall hlk
      go_wp2_with fail
      refine Calls.mono hcall ?_
      rintro e w7 ⟨rfl,hgp,hfd⟩
      have hF7:=hF2.gp rfl hgp
      cases hres:growF (edgeB es) l (long - 1) [x] with
      | none =>
       rw[hres]at hfd
       go_wp2
       go_roundw
       case rel =>
        refine⟨k+1,hk1,by go_num,hF7,fun j y hj hy=>?_⟩
        rcases Nat.lt_succ_iff_lt_or_eq.1 hj with hj | rfl
        ·exact hno2 j y hj hy
        ·rw[hlk]at hy;cases hy;exact hres
       case measure=>simp[RowKit.intOf];omega
      | some c =>
       obtain⟨M',fv,g1,g2,g3,g4,g5⟩:=hfd c hres;have hfc:=cell_of_one g4
       go_wp2
       go_ret2
       have hc:cycFind (edgeB es) l=some c:=Hn hl2 hge hno (Qx hlk hno2 hres);rw[hc]at hr;cases hr;have e1:=hB1.size;have e2:=hB2.size;have e3:=hB3.size;have e4:=hB4.size;have e5:=hF2.size;refine⟨_,M',rfl,?_,Sub.trans s1 (Sub.trans s2 (Sub.trans s3 (Sub.trans s4 (Sub.trans hsub g1)))),g2,fun b o hb=>?_,?_,trivial⟩
       ·exact ((((hB1.trans (hB2.mono (by omega))).trans (hB3.mono (by omega))).trans (hB4.mono (by omega))).trans (B45.mono (by omega))).trans ⟨hF7.os,hF7.tape,hF7.output,hF7.size,fun k hk=>hF7.block k (by omega) (by omega)⟩
       ·rw[g3 b o (by simp;omega),hold b o (by omega),o4 b o (by omega),o3 b o (by omega),o2 b o (by omega),o1 b o hb]
       ·refine .tup (vs:=[fv,.int .i64 0]) rfl (fun j c' v hc hv=>?_)
        match j,hc,hv with
        | 0,hc,hv=>cases hc;cases hv;exact g5
        | 1,hc,hv=>cases hc;cases hv;exact .int _ _
     ·have hkl:k=l.length:=by omega
      subst hkl
      go_wp2
      go_roundw
      case rel =>
       refine⟨long+1,by omega,by omega,by go_num,hF2,fun j h1 h2=>?_⟩
       rcases Nat.lt_succ_iff_lt_or_eq.1 h2 with h2 | rfl
       ·exact hno j h1 h2
       ·exact Xf hno2
      case measure=>simp[RowKit.intOf];omega
end Go.Proofs
namespace Go.AM
open Go.Proofs
open Go.Proofs
def qt (v35:(List Int)):Option (List Int) :=
 (some v35)
def qD (v8:(List Int)) (K9:((List Int)→Option (List Int))) (v32:Int):Option (List Int) :=
 (chk (capOk 8 ((v8++[v32])).length) (K9 (v8++[v32])))
def qz (N1:((List Int)→Option (List Int))) (v34:(List Int)):Option (List Int) :=
 (N1 v34)
def jn (v18:Int) (v19:Int) (e24:hsOp) (N2:(Int→Int→Option (List Int))) (K16:(Int→Option (List Int))) (v30:Bool):Option (List Int) :=
 (bif v30 then (K16 e24.qa) else (N2 v18 (B8 .i64 (v19 - 1))))
def jH (x1:hsOp) (v18:Int) (v19:Int) (e24:hsOp) (N2:(Int→Int→Option (List Int))) (K16:(Int→Option (List Int))) (v28:Bool):Option (List Int) :=
 (bif (e24.qb == 1) then (bif (e24.qc == x1.qc) then ((jn v18 v19 e24 N2 K16) (!v28)) else ((jn v18 v19 e24 N2 K16) false)) else ((jn v18 v19 e24 N2 K16) false))
def qy (a1:(List hsOp)) (k1:Nat) (x1:hsOp) (w4:(List (Int×Int))) (K16:(Int→Option (List Int))):Nat→Int→Int→Option (List Int)
 | 0,_,_=>none
 | m2+1,v18,v19=>(bif (decide (v19 ≥ 0)) then ((idx a1 v19).bind fun e24=>(chk (wfI .i64 e24.qa) (bif (decide ((mget keq1 0 e24.qa w4) ≥ 0)) then (chk (wfI .i64 e24.qa) ((jH x1 v18 v19 e24 (qy a1 k1 x1 w4 K16 m2) K16) (decide ((mget keq1 0 e24.qa w4)<(k1:Int))))) else ((jH x1 v18 v19 e24 (qy a1 k1 x1 w4 K16 m2) K16) false)))) else (K16 v18))
def qm (fuel:Nat) (a1:(List hsOp)) (w4:(List (Int×Int))) (K6:((List Int)→Option (List Int))):List hsOp→Nat→(List Int)→Option (List Int)
 | [],k1,v8=>(K6 v8)
 | x1::r1,k1,v8=>(bif (x1.qb != 0) then (chk (capOk 8 ((v8++[(-1)])).length) ((qz (qm fuel a1 w4 K6 r1 (k1+1))) (v8++[(-1)]))) else (qy a1 k1 x1 w4 (qD v8 (qz (qm fuel a1 w4 K6 r1 (k1+1)))) fuel 0 (B8 .i64 ((k1:Int) - 1))))
def Jl (fuel:Nat) (a1:(List hsOp)):Option (List Int) :=
 ((jm fuel a1 3).bind fun w4=>(chk (lenOk a1) (qm fuel a1 w4 (qt) a1 0 ([]:(List Int)))))
theorem YJ (fuel:Nat) (a1:(List hsOp)) (r:(List Int)) (h:Jl fuel a1=some r):Run Try.prog (.call 60 [l44 none a1] (l3 (some 1) r)):=by
 refine cW Try.func60 rfl (env0:=[(0,l44 none a1)]) ?_;unfold Jl at h;refine W.seq ?_;let z0:=fun t=>EN ((0,l44 none a1)::t);refine W.rt (e2:=z0 []) ?_;refine W.sr ?_;obtain⟨w4,hw4,h⟩:=qd h;refine WO.ck 1 (F:=62) (l:=[l44 none a1,.int .i64 3]) (C:=[]) (r:=mpE (AV.int .i64) (AV.int .i64) w4) (Qa fuel a1 3 w4 hw4) (e1:=z0 [(11,l44 none a1),(12,mpE (AV.int .i64) (AV.int .i64) w4)]) ?_;let z1:=fun t=>z0 ((3,mpE (AV.int .i64) (AV.int .i64) w4)::t);refine WO.fn (e2:=z1 []) ?_;refine W.seq<|W.rt (e2:=z1 [(4,.nils)]) ?_;refine W.seq<|W.join (σ:=((List Int))) (fun s=>[(4,l3 (some 10400) s)]) (fun s=>(qt) s=some r) (fun v35 h=>?_) (fun hK6=>?_)
 ·unfold qt at h;refine W.seq<|W.rt (e2:=[(2,l3 (some 10400) v35)]) ?_;refine W.weak [2] [] [] [(10400,some 1)] (env':=[(2,l3 (some 1) v35)]) (by kernel_rfl) ?_;cases h;exact W.rr
 refine W.sr ?_;let z2:=fun t=>z1 ((4,.nils)::(13,l44 none a1)::(14,I6 (a1.length:Int))::t);refine WO.pq 1 (jM qR a1) (e1:=z2 [])<|WO.fn (e2:=z2 [(15,.int .i64 0)]) ?_;refine W.block ?_;obtain⟨hl1,h⟩:=qx h;refine W.weak [0,3,4,13,14,15] [] [(4,0,3,1,10400)] [] (env':=z1 [(4,l3 (some 10400) ([]:(List Int))),(13,l44 none a1),(14,I6 (a1.length:Int)),(15,I6 ((0:Nat):Int))]) (by kernel_rfl)<|W.range (σ:=((List Int))) a1 (fun k1 s=>z1 [(4,l3 (some 10400) s),(13,l44 none a1),(14,I6 (a1.length:Int)),(15,I6 (k1:Int))]) (fun r0 k0 s=>qm fuel a1 w4 (qt) r0 k0 s=some r) (fun v8 h=>?_) (fun x1 r1 k1 s hx1 hk1 h hN1=>?_) ([]:(List Int)) h
 ·have h:qm fuel a1 w4 (qt) [] (a1).length v8=some r:=h;rw[qm.eq_1]at h;refine W.sr ?_;let y0:Env:=[(3,mpE (AV.int .i64) (AV.int .i64) w4),(4,l3 (some 10400) v8),(13,l44 none a1),(14,I6 (a1.length:Int)),(15,I6 ((a1).length:Int)),(16,.bool false)];refine WO.pq 0 (jB (Jj (l:=a1))) (e1:=z0 y0)<|WO.fn (e2:=z0 y0) ?_;refine W.seq<|W.cF<|W.exit<|W.wk (e:=[(4,l3 (some 10400) v8)]) ?_;exact hK6 v8 h
 ·obtain⟨v8,rfl⟩:∃ x,x=s:=⟨s,rfl⟩;have h:qm fuel a1 w4 (qt) (x1::r1) k1 v8=some r:=h;rw[qm.eq_2]at h;refine W.sr ?_;let y1:Env:=[(3,mpE (AV.int .i64) (AV.int .i64) w4),(4,l3 (some 10400) v8),(13,l44 none a1),(14,I6 (a1.length:Int)),(15,I6 (k1:Int)),(16,.bool true)];refine WO.pq 0 (jB (JG hk1)) (e1:=z0 y1)<|WO.fn (e2:=z0 y1) ?_;refine W.seq<|W.cT<|W.skip ?_;let y2:Env:=[(13,l44 none a1),(14,I6 (a1.length:Int)),(15,I6 (k1:Int))];let z3:=fun t=>z1 ((4,l3 (some 10400) v8)::t);refine W.wk (e:=z3 y2)<|W.seq<|W.join (σ:=((List Int))) (fun s=>z1 ((4,l3 (some 10400) s)::y2)) (fun s=>(qz (qm fuel a1 w4 (qt) r1 (k1+1))) s=some r) (fun v34 h=>?_) (fun hK9=>?_)
  ·unfold qz at h;refine W.rg ?_;let z4:=fun t=>z1 ((4,l3 (some 10400) v34)::(13,l44 none a1)::(14,I6 (a1.length:Int))::t);refine WO.pq 0 (jI (jK hl1 hk1)) (e1:=z4 [(15,I6 (k1:Int)),(69,I6 ((k1+1:Nat):Int))])<|WO.fn (e2:=z4 [(15,I6 ((k1+1:Nat):Int))]) ?_;exact hN1 v34 h
  refine W.block<|W.sr<|WO.pq 1 (JI (f:=qR) hx1) (e1:=z3 [(13,l44 none a1),(14,I6 (a1.length:Int)),(15,I6 (k1:Int)),(17,I6 (k1:Int)),(18,.ptr (.agg [I6 x1.qa,I6 x1.qb,I6 x1.qc]))]) ?_;let y3:Env:=(3,mpE (AV.int .i64) (AV.int .i64) w4)::(4,l3 (some 10400) v8)::(5,I6 (k1:Int))::(6,.ptr (.agg [I6 x1.qa,I6 x1.qb,I6 x1.qc]))::y2;refine WO.fi [0,3,4,5,6,13,14,15] [6] (e2:=z0 y3) ?_;refine W.seq<|W.seq ?_;let z5:=fun t=>z3 ((5,I6 (k1:Int))::(6,.ptr (.agg [I6 x1.qa,I6 x1.qb,I6 x1.qc]))::t);refine W.rt (e2:=z5 [(13,l44 none a1),(14,I6 (a1.length:Int)),(15,I6 (k1:Int)),(22,.bool (x1.qb != 0))]) ?_;refine W.ch (x1.qb != 0) h (fun h=>?_) (fun h=>?_)
  ·refine W.sr ?_;obtain⟨hc14,h⟩:=qx h;refine WO.appendK 2 (d:=25) (e:=3) (s:=1) (bytes:=8) (xs:=(M6 v8)) (ys:=(M6 [(-1)])) (zs:=(M6 (v8++[(-1)]))) (env1:=[(0,l44 none a1),(3,mpE (AV.int .i64) (AV.int .i64) w4),(4,l3 none v8),(5,I6 (k1:Int)),(6,.ptr (.agg [I6 x1.qa,I6 x1.qb,I6 x1.qc])),(13,l44 none a1),(14,I6 (a1.length:Int)),(15,I6 (k1:Int)),(22,.bool (x1.qb != 0)),(23,l3 none v8),(24,l3 (some 24) [(-1)])]) (by kernel_rfl) (List.map_append.symm) (by rw[D0];exact hc14) (e1:=z1 [(4,l3 none v8),(5,I6 (k1:Int)),(6,.ptr (.agg [I6 x1.qa,I6 x1.qb,I6 x1.qc])),(13,l44 none a1),(14,I6 (a1.length:Int)),(15,I6 (k1:Int)),(22,.bool (x1.qb != 0)),(23,l3 none v8),(24,l3 (some 24) [(-1)]),(25,l3 (some 25) (v8++[(-1)]))]) (by kernel_rfl) ?_;refine WO.fn (e2:=z1 ((4,l3 (some 25) (v8++[(-1)]))::y2)) ?_;refine W.exit<|W.weak [0,3,4,13,14,15] [] [] [(25,some 10400)] (env':=z1 ((4,l3 (some 10400) (v8++[(-1)]))::y2)) (by kernel_rfl) ?_;exact hK9 (v8++[(-1)]) h
  refine W.sw (e:=z0 y3) ?_;refine W.seq<|W.rt (e2:=z5 ((7,.int .i64 0)::y2)) ?_;refine W.seq<|W.join (σ:=(Int)) (fun s=>z3 ((7,I6 s)::y2)) (fun s=>(qD v8 (qz (qm fuel a1 w4 (qt) r1 (k1+1)))) s=some r) (fun v32 h=>?_) (fun hK16=>?_)
  ·unfold qD at h;refine W.rg ?_;obtain⟨hc33,h⟩:=qx h;refine WO.appendK 3 (d:=68) (e:=3) (s:=1) (bytes:=8) (xs:=(M6 v8)) (ys:=(M6 [v32])) (zs:=(M6 (v8++[v32]))) (env1:=[(0,l44 none a1),(3,mpE (AV.int .i64) (AV.int .i64) w4),(4,l3 none v8),(7,I6 v32),(13,l44 none a1),(14,I6 (a1.length:Int)),(15,I6 (k1:Int)),(65,l3 none v8),(66,I6 v32),(67,l3 (some 67) [v32])]) (by kernel_rfl) (List.map_append.symm) (by rw[D0];exact hc33) (e1:=z1 [(4,l3 none v8),(7,I6 v32),(13,l44 none a1),(14,I6 (a1.length:Int)),(15,I6 (k1:Int)),(65,l3 none v8),(66,I6 v32),(67,l3 (some 67) [v32]),(68,l3 (some 68) (v8++[v32]))]) (by kernel_rfl) ?_;refine WO.fin [0,3,4,13,14,15] [] [] [(68,some 10400)] (e2:=z1 ((4,l3 (some 10400) (v8++[v32]))::y2)) (by kernel_rfl) (fun _ h=>h) ?_;exact hK9 (v8++[v32]) h
  refine W.seq ?_;let y4:Env:=(3,mpE (AV.int .i64) (AV.int .i64) w4)::(4,l3 (some 10400) v8)::(5,I6 (k1:Int))::(6,.ptr (.agg [I6 x1.qa,I6 x1.qb,I6 x1.qc]))::(7,.int .i64 0)::(8,I6 (W6 ((k1:Int) - 1)))::y2;refine W.rt (e2:=z0 y4) ?_;refine W.block<|W.wk (e:=z0 y4)<|W.fuel (σ:=(Int×Int)) (fun s=>z5 ((7,I6 s.1)::(8,I6 s.2)::y2)) (fun m0 s=>qy a1 k1 x1 w4 (qD v8 (qz (qm fuel a1 w4 (qt) r1 (k1+1)))) m0 s.1 s.2=some r) (fun s h=>?_) (fun m2 s h hN2=>?_) fuel (0,(W6 ((k1:Int) - 1))) h
  ·obtain⟨v18,v19⟩:=s;have h:qy a1 k1 x1 w4 (qD v8 (qz (qm fuel a1 w4 (qt) r1 (k1+1)))) 0 v18 v19=some r:=h;rw[qy.eq_1]at h;cases h
  ·obtain⟨v18,v19⟩:=s;have h:qy a1 k1 x1 w4 (qD v8 (qz (qm fuel a1 w4 (qt) r1 (k1+1)))) (m2+1) v18 v19=some r:=h;rw[qy.eq_2]at h;refine W.seq<|W.seq ?_;let z6:=fun t=>z5 ((7,I6 v18)::(8,I6 v19)::t);let z7:=fun t=>z6 ((13,l44 none a1)::(14,I6 (a1.length:Int))::(15,I6 (k1:Int))::t);refine W.rt (e2:=z7 [(29,.bool (decide (v19 ≥ 0)))]) ?_;refine W.ch (decide (v19 ≥ 0)) h (fun h=>?_) (fun h=>?_)
   ·refine W.skip ?_;let y5:Env:=(3,mpE (AV.int .i64) (AV.int .i64) w4)::(4,l3 (some 10400) v8)::(5,I6 (k1:Int))::(6,.ptr (.agg [I6 x1.qa,I6 x1.qb,I6 x1.qc]))::(7,I6 v18)::(8,I6 v19)::y2;refine W.wk (e:=z0 y5)<|W.seq<|W.block<|W.sr ?_;obtain⟨e24,he24,h⟩:=qd h;refine WO.pq 2 (qay (f:=qR) he24) (e1:=z7 [(32,l44 none a1),(33,I6 v19),(34,.ptr (.agg [I6 e24.qa,I6 e24.qb,I6 e24.qc]))]) ?_;let z8:=fun t=>z6 ((9,.ptr (.agg [I6 e24.qa,I6 e24.qb,I6 e24.qc]))::t);refine WO.fi [0,3,4,5,6,7,8,9,13,14,15] [9] (e2:=z8 y2) ?_;refine W.seq<|W.join (σ:=(Bool)) (fun s=>z8 ((10,.bool s)::y2)) (fun s=>(jH x1 v18 v19 e24 (qy a1 k1 x1 w4 (qD v8 (qz (qm fuel a1 w4 (qt) r1 (k1+1)))) m2) (qD v8 (qz (qm fuel a1 w4 (qt) r1 (k1+1))))) s=some r) (fun v28 h=>?_) (fun hK25=>?_)
    ·unfold jH at h;refine W.seq ?_;let z9:=fun t=>z8 ((13,l44 none a1)::(14,I6 (a1.length:Int))::(15,I6 (k1:Int))::t);refine W.join (σ:=(Bool)) (fun s=>z9 [(62,.bool s)]) (fun s=>(jn v18 v19 e24 (qy a1 k1 x1 w4 (qD v8 (qz (qm fuel a1 w4 (qt) r1 (k1+1)))) m2) (qD v8 (qz (qm fuel a1 w4 (qt) r1 (k1+1))))) s=some r) (fun v30 h=>?_) (fun hK29=>?_)
     ·unfold jn at h;refine W.ch v30 h (fun h=>?_) (fun h=>?_)
      ·refine W.seq ?_;let y6:Env:=(3,mpE (AV.int .i64) (AV.int .i64) w4)::(4,l3 (some 10400) v8)::(7,I6 e24.qa)::y2;refine W.rt (e2:=z0 y6) ?_;refine W.exit<|W.wk (e:=z0 y6) ?_;exact hK16 e24.qa h
      refine W.sw (e:=z0 y5) ?_;refine W.rt (e2:=z5 ((7,I6 v18)::(8,I6 (W6 (v19 - 1)))::y2)) ?_;exact hN2 (v18,(W6 (v19 - 1))) h
     refine W.rg ?_;let z10:=fun t=>z8 ((10,.bool v28)::(13,l44 none a1)::(14,I6 (a1.length:Int))::(15,I6 (k1:Int))::(49,.ptr (I6 e24.qb))::(50,I6 e24.qb)::t);refine WO.bh 4 (fun b=>z10 [(51,.bool b),(52,.bool b)]) (e24.qb == 1) h (fun h=>?_) (fun h=>?_)
     ·refine WO.bh 7 (fun b=>z10 [(51,.bool true),(52,.bool true),(53,.ptr (I6 e24.qc)),(54,I6 e24.qc),(55,.ptr (I6 x1.qc)),(56,I6 x1.qc),(57,.bool b),(58,.bool b),(59,.bool b)]) (e24.qc == x1.qc) h (fun h=>?_) (fun h=>?_)
      ·refine WO.fn (e2:=z9 [(62,.bool (!v28))]) ?_;exact hK29 (!v28) h
      refine WO.fn (e2:=z9 [(62,.bool false)]) ?_;exact hK29 false h
     refine WO.fn (e2:=z9 [(62,.bool false)]) ?_;exact hK29 false h
    refine W.rg ?_;obtain⟨hc26,h⟩:=qx h;let z11:=fun t=>z8 ((13,l44 none a1)::(14,I6 (a1.length:Int))::(15,I6 (k1:Int))::(36,mpE (AV.int .i64) (AV.int .i64) w4)::(37,.ptr (I6 e24.qa))::(38,I6 e24.qa)::(39,I6 (mget keq1 0 e24.qa w4))::t);refine WO.pk 3 ((alookup Try.prog 85 [] (mpE (AV.int .i64) (AV.int .i64) w4) (I6 e24.qa)).map AV.strip) (congrArg (D1 AV.strip) (JM (F:=(AV.int .i64)) (G:=(AV.int .i64)) (eq:=keq1) (l:=w4) (k:=e24.qa) (z:=0) (kt:=3) (e:=3) (Xs hc26) (by kernel_rfl) (fun x=>by kernel_rfl) (fun x y=>by kernel_rfl) (by kernel_rfl))) (e1:=z11 []) ?_;refine WO.bh 2 (fun b=>z11 [(40,.bool b),(41,.bool b)]) (decide ((mget keq1 0 e24.qa w4) ≥ 0)) h (fun h=>?_) (fun h=>?_)
    ·obtain⟨hc27,h⟩:=qx h;refine WO.pk 3 ((alookup Try.prog 85 [] (mpE (AV.int .i64) (AV.int .i64) w4) (I6 e24.qa)).map AV.strip) (congrArg (D1 AV.strip) (JM (F:=(AV.int .i64)) (G:=(AV.int .i64)) (eq:=keq1) (l:=w4) (k:=e24.qa) (z:=0) (kt:=3) (e:=3) (Xs hc27) (by kernel_rfl) (fun x=>by kernel_rfl) (fun x y=>by kernel_rfl) (by kernel_rfl))) (e1:=z11 [(40,.bool true),(41,.bool true),(42,mpE (AV.int .i64) (AV.int .i64) w4),(43,.ptr (I6 e24.qa)),(44,I6 e24.qa),(45,I6 (mget keq1 0 e24.qa w4))]) ?_;refine WO.fn (e2:=z8 ((10,.bool (decide ((mget keq1 0 e24.qa w4)<(k1:Int))))::y2)) ?_;exact hK25 (decide ((mget keq1 0 e24.qa w4)<(k1:Int))) h
    refine WO.fn (e2:=z8 ((10,.bool false)::y2)) ?_;exact hK25 false h
   refine W.exit<|W.wk (e:=z3 ((7,I6 v18)::y2)) ?_;exact hK16 v18 h
def Dv (fuel:Nat) (a1:(List hsOp)):Option ((List Int)×Int):=cycP fuel a1
def bigFuel:Nat:=36893488147419103232
theorem JD {α:Type} {l:List α} (h:l.length≤9223372036854775807):lenOk l=true:=A8 (by omega)
theorem qH {α:Type} {x:Option α}:chk true x=x:=rfl
theorem wr {i:Int} (h1 : -9000000000000000000≤i) (h2:i≤9000000000000000000):B8 .i64 i=i:=Xy (by omega) (by omega)
theorem capS {b n:Nat} (hb:b≤1000) (hn:n≤100000):capOk b n=true:=by
 have:n * b≤100000 * 1000:=Nat.mul_le_mul hn hb;simp only[capOk,A4,Nat.ble_eq];omega
theorem wf6 {i:Int} (h1 : -1000≤i) (h2:i≤1000):wfI .i64 i=true:=by
 unfold wfI Lit.wf;simp[IntKind.min,IntKind.max,IntKind.signed,IntKind.bits];omega
theorem qcc {α:Type} {l:List α} {i:Nat} {x:α} (h:l[i]? = some x):idx l ((i:Nat):Int)=some x:=by
 unfold idx;rw[if_pos (Int.natCast_nonneg _),D2];exact h
theorem Ng {V:Type} (z v:V) (k t:Int):∀ l:List (Int×V),mget keq1 z t (mset keq1 k v l)=if k=t then v else mget keq1 z t l
 | []=>by
  unfold mset mget mget keq1;by_cases h:k=t
  ·subst h;simp
  ·have:(k == t)=false:=beq_eq_false_iff_ne.2 h;rw[this,if_neg h];rfl
 | p::r=>by
  have ih:=Ng z v k t r;unfold mset;by_cases hk:p.1=k
  ·have e1:keq1 p.1 k=true:=by unfold keq1;simp[hk]
   rw[e1];simp only[cond_true];unfold mget;have e2:keq1 (p.1,v).1 t=keq1 p.1 t:=rfl;rw[e2];by_cases h:k=t
   ·rw[if_pos h]
    have:keq1 p.1 t=true:=by unfold keq1;simp[hk,h]
    rw[this];rfl
   ·rw[if_neg h]
    have:keq1 p.1 t=false:=by unfold keq1;rw[hk];exact beq_eq_false_iff_ne.2 h
    rw[this];rfl
  ·have e1:keq1 p.1 k=false:=by unfold keq1;exact beq_eq_false_iff_ne.2 hk
   rw[e1];simp only[cN];unfold mget;rw[ih];by_cases hp:p.1=t
   ·have e2:keq1 p.1 t=true:=by unfold keq1;simp[hp]
    have h:¬ k=t:=fun e=>hk (by rw[hp,e])
    simp only[e2,if_neg h]
   ·have e2:keq1 p.1 t=false:=by unfold keq1;exact beq_eq_false_iff_ne.2 hp
    rw[e2];rfl
theorem Dk {V:Type} (k:Int) (v:V):∀ l:List (Int×V),(mset keq1 k v l).length≤l.length+1
 | []=>by simp[mset]
 | p::r=>by
  have:=Dk k v r;unfold mset;cases keq1 p.1 k <;> simp <;> omega
def cv (x:rf5Op):hsOp:=hsOp.mk x.qa x.qb x.qc
theorem qcI (K:List hsOp→Option (List hsOp)):∀ (r:List rf5Op) (k:Nat) (v:List hsOp),v.length=k→k≤43→Jq K r k v=K (v++(r.take (43 - k)).map cv)
 | [],k,v,hv,hk=>by rw[Jq.eq_1];simp
 | x::r,k,v,hv,hk=>by
  rw[Jq.eq_2];by_cases h:k=43
  ·subst h;rw[decide_eq_true (by omega)];simp
  ·rw[decide_eq_false (by omega),capS (by omega) (by simp;omega)];simp only[cN,qH];rw[qcI K r (k+1) _ (by simp;omega) (by omega)]
   have:43 - k=(43 - (k+1))+1:=by omega
   rw[this,List.take_succ_cons,A1,D3];rfl
theorem qcL {h:List rf5Op} (hl:lenOk h=true):He h=some ((h.take 43).map cv):=by
 unfold He;rw[hl,qH,qcI _ h 0 [] rfl (by omega)];rfl
def bad6 (x:rf5Op):Bool:=decide (x.qa<1) || (decide (x.qa > 6) || (decide (x.qb<0) || (decide (x.qb > 3) || (decide (x.qc<0) || decide (x.qc > 5)))))
def ended (t:Int) (l:List rf5Op):Bool:=l.any fun p=>(p.qa == t) && decide (p.qb > 1)
def okFrom (pre:List rf5Op):List rf5Op→Bool
 | []=>true
 | x::r=>(!bad6 x && (!(decide (x.qb > 1) && (x.qc != 0)) && !ended x.qa pre)) && okFrom (pre++[x]) r
theorem chain6 {β:Type} (a z:β) (d1 d2 d3 d4 d5 d6:Bool):(bif d1 then a else bif d2 then a else bif d3 then a else bif d4 then a else bif d5 then a else bif d6 then a else z)=bif (d1 || (d2 || (d3 || (d4 || (d5 || d6))))) then a else z:=by
 cases d1 <;> cases d2 <;> cases d3 <;> cases d4 <;> cases d5 <;> cases d6 <;> rfl
def validB (h:List rf5Op):Bool:=okFrom [] h && decide (h.length≤40)
theorem UU (K:Option Bool):∀ (r:List rf5Op) (k:Nat) (pre:List rf5Op) (m:List (Int×Bool)),(∀ t,mget keq1 false t m=ended t pre)→m.length≤pre.length→pre.length+r.length≤1000 →
  qU K (r.map cv) k m=bif okFrom pre r then K else some false
 | [],k,pre,m,_,_,_=>by rw[A2,qU.eq_1];rfl
 | x::r,k,pre,m,hm,hml,hl=>by
  have hl:pre.length+(r.length+1)≤1000:=hl
  have ih:=fun m' h1 h2=>UU K r (k+1) (pre++[x]) m' h1 h2 (by simp;omega)
  rw[A1,qU.eq_2];unfold JV qV;simp only[chain6]
  have e5:decide ((cv x).qc ≥ 6)=decide (x.qc > 5):=by
   by_cases hc:x.qc > 5
   ·rw[decide_eq_true hc];exact decide_eq_true (show x.qc ≥ 6 by omega)
   ·rw[decide_eq_false hc];exact decide_eq_false (show ¬ x.qc ≥ 6 by omega)
  rw[e5];have:(decide ((cv x).qa<1) || (decide ((cv x).qa > 6) || (decide ((cv x).qb<0) || (decide ((cv x).qb > 3) || (decide ((cv x).qc<0) || decide (x.qc > 5))))))=bad6 x:=rfl;rw[this];show _=bif (!bad6 x && (!(decide (x.qb > 1) && (x.qc != 0)) && !ended x.qa pre)) && okFrom (pre++[x]) r then K else some false
  cases hb:bad6 x with
  | true =>
   simp only[cond_true];cases ((cv x).qb == 2) <;> rfl
  | false =>
   simp only[bad6,D7,decide_eq_false_iff_not]at hb;obtain⟨b1,b2,b3,b4,b5,b6⟩:=hb;have hwf:wfI .i64 (cv x).qa=true:=wf6 (by show -1000≤x.qa;omega) (by show x.qa≤1000;omega);have hml2:Nat.blt m.length 1000000000=true:=A8 (by omega);have hmt:mget keq1 false (cv x).qa m=ended x.qa pre:=hm x.qa;simp only[cN,hwf,qH,hml2,hmt]
   have hstep:∀ b:Bool,b=decide (x.qb > 1)→ended x.qa pre=false→qU K (r.map cv) (k+1) (mset keq1 (cv x).qa b m)=bif okFrom (pre++[x]) r then K else some false:=by
    intro b hb2 hen;refine ih _ (fun t=>?_) (by have:=Dk x.qa b m;rw[List.length_append,List.length_singleton];show (mset keq1 x.qa b m).length≤_;omega);show mget keq1 false t (mset keq1 x.qa b m)=_;rw[Ng,hm];unfold ended at hen ⊢;rw[List.any_append,D4,List.any_nil,Bool.or_false];by_cases ht:x.qa=t
    ·subst ht;rw[if_pos rfl,hen,hb2];simp
    ·rw[if_neg ht];have:(x.qa == t)=false:=beq_eq_false_iff_ne.2 ht;rw[this];simp
   have k2:((cv x).qb == 2)=(x.qb == 2):=rfl;have k3:((cv x).qb == 3)=(x.qb == 3):=rfl;have i0:((cv x).qc != 0)=(x.qc != 0):=rfl;rw[k2,k3,i0];by_cases hk:x.qb > 1
   ·have h23:(x.qb == 2)=true∨(x.qb == 2)=false∧(x.qb == 3)=true:=by
     by_cases h2:x.qb=2
     ·left;simp[h2]
     ·right;exact⟨beq_eq_false_iff_ne.2 h2,by simp;omega⟩
    have hst:=hstep true (decide_eq_true hk).symm;rw[decide_eq_true hk]
    cases hi:(x.qc != 0) with
    | true=>rcases h23 with h2 | ⟨h2,h3⟩ <;> simp[*]
    | false =>
     cases hen:ended x.qa pre with
     | true=>rcases h23 with h2 | ⟨h2,h3⟩ <;> simp[*]
     | false =>
      have:=hst hen
      rcases h23 with h2 | ⟨h2,h3⟩ <;> simp[*]
   ·have h2:(x.qb == 2)=false:=beq_eq_false_iff_ne.2 (by omega);have h3:(x.qb == 3)=false:=beq_eq_false_iff_ne.2 (by omega);have hst:=hstep false (decide_eq_false hk).symm;rw[decide_eq_false hk,h2,h3]
    cases hen:ended x.qa pre with
    | true=>simp
    | false =>
     have:=hst hen;simp[*]
theorem qai {h:List rf5Op} (hl:h.length≤1000):Qw (h.map cv)=some (validB h):=by
 unfold Qw validB;rw[D0];by_cases hc:h.length≤40
 ·rw[decide_eq_false (by omega),JD (by simp;omega),decide_eq_true hc];simp only[cN,qH];rw[UU _ h 0 [] [] (fun t=>rfl) (by simp) (by simp;omega)];unfold jJ;cases okFrom [] h <;> rfl
 ·rw[decide_eq_true (by omega),decide_eq_false hc];simp
theorem YQ {h:List rf5Op}:Qw ((h.take 43).map cv)=some (validB h):=by
 rw[qai (by rw[List.length_take];omega)];by_cases hc:h.length≤43
 ·rw[A9 hc]
 ·unfold validB;rw[decide_eq_false (p:=h.length≤40) (by omega),decide_eq_false (p:=(h.take 43).length≤40) (by rw[List.length_take];omega)];simp
theorem VR:∀ (r pre:List rf5Op),okFrom pre r=true→∀ x,x∈r→bad6 x=false∧(x.qb > 1→x.qc=0)
 | [],pre,_,x,hx=>by cases hx
 | y::r,pre,h,x,hx=>by
  unfold okFrom at h;simp only[A4,Bool.not_eq_true']at h;obtain⟨⟨h1,h2,h3⟩,h4⟩:=h
  rcases List.mem_cons.1 hx with rfl | hx
  ·refine⟨h1,fun hk=>?_⟩;rw[decide_eq_true hk]at h2
   simpa using h2
  ·exact VR r _ h4 x hx
structure Hist (h:List rf5Op):Prop where
 len:h.length≤1000
 txn:∀ x,x∈h→1≤x.qa∧x.qa≤6
 kind:∀ x,x∈h→0≤x.qb∧x.qb≤3
 item:∀ x,x∈h→0≤x.qc∧x.qc≤5
 zero:∀ x,x∈h→x.qb > 1→x.qc=0
theorem Zr {h:List rf5Op} (hv:validB h=true):Hist h∧h.length≤40:=by
 unfold validB at hv;simp only[A4,decide_eq_true_eq]at hv;have hm:=VR h [] hv.1
 have hb:∀ x,x∈h→(1≤x.qa∧x.qa≤6)∧(0≤x.qb∧x.qb≤3)∧(0≤x.qc∧x.qc≤5):=by
  intro x hx;have:=(hm x hx).1;simp only[bad6,D7,decide_eq_false_iff_not]at this;omega
 exact⟨⟨by omega,fun x hx=>(hb x hx).1,fun x hx=>(hb x hx).2.1,fun x hx=>(hb x hx).2.2,fun x hx=>(hm x hx).2⟩,hv.2⟩
def endL (t k:Int):List rf5Op→Nat→Int
 | [],_ => -1
 | x::r,i=>bif (x.qa == t) && (x.qb == k) then (i:Int) else endL t k r (i+1)
theorem Du {t k:Int} (hk:k > 1):∀ (r:List rf5Op) (i:Nat),(∀ x,x∈r→x.qb > 1→x.qc=0)→jb (hsOp.mk t k 0) (jX) (r.map cv) i=some (endL t k r i)
 | [],i,_=>by rw[A2,jb.eq_1];rfl
 | x::r,i,hz=>by
  rw[A1,jb.eq_2,Du hk r (i+1) fun y hy=>hz y (B3 _ hy)]
  have:((t == (cv x).qa) && ((k == (cv x).qb) && (((0:Int) == (cv x).qc) && true)))=((x.qa == t) && (x.qb == k)):=by
   show ((t == x.qa) && ((k == x.qb) && (((0:Int) == x.qc) && true)))=_;rw[Bool.beq_comm (a:=t),Bool.beq_comm (a:=k)];by_cases h1:x.qb=k
   ·have:=hz x (B4 ..) (by omega);rw[this];simp
   ·have:(x.qb == k)=false:=beq_eq_false_iff_ne.2 h1;rw[this];simp
  rw[this];show _=some (bif (x.qa == t) && (x.qb == k) then (i:Int) else endL t k r (i+1));cases (x.qa == t) && (x.qb == k) <;> rfl
theorem qbq {h:List rf5Op} (H:Hist h) {t k:Int} (hk:k > 1):Jy (h.map cv) (hsOp.mk t k 0)=some (endL t k h 0):=by
 have:=H.len;unfold Jy;rw[JD (by simp;omega),qH];exact Du hk h 0 H.zero
def endMap (f:Int→Int):List (Int×Int):=[(1,f 1),(2,f 2),(3,f 3),(4,f 4),(5,f 5),(6,f 6)]
theorem qbV {f:Int→Int} {t:Int} (h1:1≤t) (h2:t≤6):mget keq1 0 t (endMap f)=f t:=by
 have:t=1∨t=2∨t=3∨t=4∨t=5∨t=6:=by omega
 rcases this with rfl | rfl | rfl | rfl | rfl | rfl <;> rfl
theorem JN {h:List rf5Op} (H:Hist h) {k:Int} (hk:k > 1) (K:List (Int×Int)→Option (List (Int×Int))) {m:Nat} {v:List (Int×Int)} (t t':Int) (h1:1≤t) (h2:t≤6) (ht:t'=t+1) (hv:v.length≤10) :
  qA (h.map cv) k K (m+1) v t=qA (h.map cv) k K m (mset keq1 t (endL t k h 0) v) t':=by
 subst ht;rw[qA.eq_2,decide_eq_true h2,qbq H hk];simp only[cond_true,A0];rw[wf6 (by omega) (by omega),qH,A8 (show v.length+1≤1000000000 by omega) |> (fun e=>show Nat.blt v.length 1000000000=true from e),qH,wr (by omega) (by omega)]
theorem Uh {h:List rf5Op} (H:Hist h) {k:Int} (hk:k > 1):jm bigFuel (h.map cv) k=some (endMap fun t=>endL t k h 0):=by
 unfold jm;have e:bigFuel=36893488147419103225+1+1+1+1+1+1+1:=rfl;rw[e,JN H hk _ 1 2 (by omega) (by omega) rfl (by simp),JN H hk _ 2 3 (by omega) (by omega) rfl (A6 rfl),JN H hk _ 3 4 (by omega) (by omega) rfl (A6 rfl),JN H hk _ 4 5 (by omega) (by omega) rfl (A6 rfl),JN H hk _ 5 6 (by omega) (by omega) rfl (A6 rfl),JN H hk _ 6 7 (by omega) (by omega) rfl (A6 rfl)];rw[qA.eq_2,decide_eq_false (by omega)];rfl
def scanB (W:rf5Op→Bool):List rf5Op→Int
 | []=>0
 | p::r=>bif W p then p.qa else scanB W r
def scanF (W:rf5Op→Bool) (v:Int):List rf5Op→Int
 | []=>v
 | p::r=>scanF W (bif W p then p.qa else v) r
theorem VM (W:rf5Op→Bool) (p:rf5Op):∀ (l:List rf5Op) (v:Int),scanF W v (l++[p])=bif W p then p.qa else scanF W v l
 | [],v=>rfl
 | q::l,v=>by
  rw[List.cons_append];unfold scanF;exact VM W p l _
theorem UR (W:rf5Op→Bool):∀ (l:List rf5Op),scanF W 0 l.reverse=scanB W l
 | []=>rfl
 | p::l=>by
  rw[List.reverse_cons,VM,UR W l];rfl
theorem Vg {W W':rf5Op→Bool}:∀ {l:List rf5Op},(∀ p,p∈l→W p=W' p)→scanB W l=scanB W' l
 | [],_=>rfl
 | p::l,h=>by
  unfold scanB;rw[h p (B4 ..),Vg fun q hq=>h q (B3 _ hq)]
def wins (h:List rf5Op) (i:Nat) (x p:rf5Op):Bool:=(p.qb == 1) && ((p.qc == x.qc) && !(decide (endL p.qa 3 h 0 ≥ 0) && decide (endL p.qa 3 h 0<(i:Int))))
def fromAt (h:List rf5Op) (i:Nat) (x:rf5Op):Int:=bif x.qb != 0 then -1 else scanB (wins h i x) (h.take i).reverse
def fromL (h:List rf5Op):List rf5Op→Nat→List Int
 | [],_=>[]
 | x::r,i=>fromAt h i x::fromL h r (i+1)
theorem Nr (h:List rf5Op):∀ (r:List rf5Op) (i:Nat),(fromL h r i).length=r.length
 | [],i=>rfl
 | x::r,i=>by unfold fromL;simp[Nr h r (i+1)]
theorem qaO {h:List rf5Op} (H:Hist h) (i:Nat) (x:rf5Op) (K:Int→Option (List Int)):∀ (j m:Nat),j≤h.length→j<m →
  qy (h.map cv) i (cv x) (endMap fun t=>endL t 3 h 0) K m 0 ((j:Int) - 1)=K (scanB (wins h i x) (h.take j).reverse)
 | 0,m,hj,hm=>by
  obtain⟨m,rfl⟩:∃ m',m=m'+1:=⟨m - 1,by omega⟩;rw[qy.eq_2,decide_eq_false (by omega)];rfl
 | j+1,m,hj,hm=>by
  have hlen:=H.len;obtain⟨m,rfl⟩:∃ m',m=m'+1:=⟨m - 1,by omega⟩
  have ej:((j+1:Nat):Int) - 1=(j:Int):=by omega
  have hmem:h[j]∈h:=B7 (by omega);have ht:=H.txn _ hmem;have ih:=qaO H i x K j m (by omega) (by omega);rw[qy.eq_2,ej,decide_eq_true (by omega),qcc (x:=cv h[j]) (by rw[List.getElem?_map,D6 (by omega)];rfl)];simp only[cond_true,A0];have hwf:wfI .i64 (cv h[j]).qa=true:=wf6 (by show -1000≤h[j].qa;omega) (by show h[j].qa≤1000;omega);have hmg:mget keq1 0 (cv h[j]).qa (endMap fun t=>endL t 3 h 0)=endL h[j].qa 3 h 0:=qbV ht.1 ht.2;simp only[hwf,qH,hmg]
  have etk:(h.take (j+1)).reverse=h[j]::(h.take j).reverse:=by
   rw[List.take_succ_eq_append_getElem (by omega),List.reverse_append];rfl
  rw[etk];unfold jH jn scanB wins;have a1:((cv h[j]).qb == 1)=(h[j].qb == 1):=rfl;have a2:((cv h[j]).qc == (cv x).qc)=(h[j].qc == x.qc):=rfl;have a3:(cv h[j]).qa=h[j].qa:=rfl;rw[a1,a2,a3,wr (by omega) (by omega),ih]
  cases (h[j].qb == 1) with
  | false=>cases decide (endL h[j].qa 3 h 0 ≥ 0) <;> rfl
  | true =>
   cases (h[j].qc == x.qc) with
   | false=>cases decide (endL h[j].qa 3 h 0 ≥ 0) <;> rfl
   | true=>cases decide (endL h[j].qa 3 h 0 ≥ 0) <;> cases decide (endL h[j].qa 3 h 0<(i:Int)) <;> rfl
theorem qaP {h:List rf5Op} (H:Hist h) (K:List Int→Option (List Int)):∀ (r:List rf5Op) (k:Nat) (v:List Int),k+r.length=h.length→v.length=k →
  qm bigFuel (h.map cv) (endMap fun t=>endL t 3 h 0) K (r.map cv) k v=K (v++fromL h r k)
 | [],k,v,_,_=>by rw[A2,qm.eq_1];simp[fromL]
 | x::r,k,v,hk,hv=>by
  have hlen:=H.len;have hk:k+(r.length+1)=h.length:=hk
  have ih:=fun z=>qaP H K r (k+1) (v++[z]) (by omega) (by simp;omega)
  have hcap:∀ z:Int,capOk 8 (v++[z]).length=true:=fun z=>capS (by omega) (by simp;omega)
  rw[A1,qm.eq_2];unfold qz qD;rw[wr (by omega) (by omega),qaO H k x _ k bigFuel (by omega) (by unfold bigFuel;omega)];simp only[hcap,qH,ih];have:((cv x).qb != 0)=(x.qb != 0):=rfl;rw[this];have ef:fromL h (x::r) k=fromAt h k x::fromL h r (k+1):=rfl;rw[ef];unfold fromAt
  cases (x.qb != 0) with
  | true=>simp only[cond_true,D3,D8]
  | false=>simp only[cN,D3,D8]
theorem qce {h:List rf5Op} (H:Hist h):Jl bigFuel (h.map cv)=some (fromL h h 0):=by
 have:=H.len;unfold Jl;rw[Uh H (by omega)];simp only[A0];rw[JD (by simp;omega),qH,qaP H _ h 0 [] (by simp) rfl];rfl
theorem Ug:∀ (p q:List Int),qO (p++q) (jU) q p.length=some true
 | p,[]=>by rw[qO.eq_1];rfl
 | p,x::q=>by
  have h:idx (p++x::q) ((p.length:Nat):Int)=some x:=qcc (by simp);rw[qO.eq_2,h];simp only[A0,bne_self_eq_false,cN];have:=Ug (p++[x]) q
  simpa using this
theorem Qi {l:List Int} (hl:l.length≤100000):Jb l l=some true:=by
 unfold Jb;rw[JD (by omega)];simp only[bne_self_eq_false,cN,qH];exact Ug [] l
theorem qbH {l:List Int} (hm:l.Pairwise fun a b=>a≤b):sortI l=l:=by
 have h1:(sortI l).Pairwise fun a b=>decide (a≤b)=true:=List.pairwise_mergeSort (by intro a b c;simp;omega) (by intro a b;simp;omega) l
 refine List.Perm.eq_of_pairwise (le:=fun a b=>a≤b) (fun a b _ _ x y=>by omega) (h1.imp fun h=>by simpa using h) hm (List.mergeSort_perm l _)
def commL (h:List rf5Op):List Int:=([1,2,3,4,5,6]:List Int).filter fun t=>decide (endL t 2 h 0 ≥ 0)
theorem qcj (f:Int→Int):comm (endMap f)=([1,2,3,4,5,6]:List Int).filter fun t=>decide (f t ≥ 0):=by
 have:endMap f=([1,2,3,4,5,6]:List Int).map fun t=>(t,f t):=rfl
 unfold comm;rw[this,List.filter_map,List.map_map];have e:(Prod.fst ∘ fun t:Int=>(t,f t))=id:=rfl;rw[e,List.map_id];rfl
theorem JE {h:List rf5Op} (H:Hist h):qM bigFuel (h.map cv)=some (commL h):=by
 unfold qM;rw[Uh H (by omega)];simp only[A0];have:decide ((endMap fun t=>endL t 2 h 0).length≤1000)=true:=rfl;rw[this,qH,qcj]
 have hp:(([1,2,3,4,5,6]:List Int).filter fun t=>decide (endL t 2 h 0 ≥ 0)).Pairwise fun a b=>a≤b:=by
  refine List.Pairwise.filter _ ?_
  decide
 rw[qbH hp];rfl
def sample:List rf5Op:=[⟨2,1,0⟩,⟨1,0,0⟩,⟨1,2,0⟩,⟨2,2,0⟩]
theorem HU:Hist sample:=(Zr (by rfl)).1
theorem Va:YA bigFuel=some true:=by
 have e:[(hsOp.mk 2 1 0),(hsOp.mk 1 0 0),(hsOp.mk 1 2 0),(hsOp.mk 2 2 0)]=sample.map cv:=rfl;have hc:=JE HU;have hcl:commL sample=[1,2]:=rfl;rw[hcl]at hc
 have ho:QX bigFuel (sample.map cv)=some ([2,1],0):=by
  unfold QX jp;rw[hc]
  kernel_rfl
 unfold YA;rw[e,ho];rfl
def srcB (E:Int→Int→Bool) (l:List Int) (b:Int):Bool:=!(l.any fun a=>E a b)
def topo (E:Int→Int→Bool):Nat→List Int→Option (List Int)
 | _,[]=>some []
 | 0,_::_=>none
 | n+1,x::l=>match (x::l).find? (srcB E (x::l)) with
  | none=>none
  | some b=>(topo E n ((x::l).erase b)).map (b::·)
def permsF:Nat→List Int→List (List Int)
 | _,[]=>[[]]
 | 0,_::_=>[]
 | n+1,x::l=>(x::l).flatMap fun y=>(permsF n ((x::l).erase y)).map (y::·)
theorem Zi:∀ {n:Nat} {l:List Int},l.Nodup→l.length≤n→∀ p,p∈permsF n l↔p.Perm l
 | n,[],_,_,p=>by
  have:permsF n []=[[]]:=by cases n <;> rfl
  rw[this,List.mem_singleton,List.perm_nil]
 | 0,x::l,_,h,_=>by simp at h
 | n+1,x::l,hn,hl,p=>by
  have e:permsF (n+1) (x::l)=(x::l).flatMap fun y=>(permsF n ((x::l).erase y)).map (y::·):=rfl
  rw[e,List.mem_flatMap];constructor
  ·rintro⟨y,hy,hp⟩
   obtain⟨q,hq,rfl⟩:=List.mem_map.1 hp;have:=(Zi (n:=n) (hn.erase y) (by rw[D5 hy];simp at hl ⊢;omega) q).1 hq;exact (this.cons y).trans (D9 hy).symm
  ·intro hp
   cases p with
   | nil=>exact absurd hp.length_eq (by simp)
   | cons y q =>
    have hy:y∈x::l:=hp.mem_iff.1 (by simp);refine⟨y,hy,List.mem_map.2 ⟨q,?_,rfl⟩⟩;refine (Zi (n:=n) (hn.erase y) (by rw[D5 hy];simp at hl ⊢;omega) q).2 ?_;have:=hp.trans (D9 hy);exact (List.perm_cons y).1 this
theorem XN {y:Int} (f:List Int→Bool) (L:List (List Int)):(L.map (y::·)).find? f=(L.find? fun p=>f (y::p)).map (y::·):=by
 rw[List.find?_map];rfl
theorem Ud {α:Type} {f g:α→Bool}:∀ {l:List α},(∀ x,x∈l→f x=g x)→l.find? f=l.find? g
 | [],_=>rfl
 | a::l,h=>by
  rw[B5,B5,h a (by simp),Ud (l:=l) fun x hx=>h x (by simp[hx])]
theorem JX {α β:Type} {f g:α→Option β}:∀ {l:List α},(∀ x,x∈l→f x=g x)→l.findSome? f=l.findSome? g
 | [],_=>rfl
 | a::l,h=>by
  rw[A3,A3,h a (by simp),JX (l:=l) fun x hx=>h x (by simp[hx])]
def someF:Nat→List Int→List (List Int)
 | 0,_=>[[]]
 | n+1,l=>l.flatMap fun y=>(someF n (l.erase y)).map (y::·)
def extE (E:Int→Int→Bool) (h:Int):Int→List Int→Bool
 | a,[]=>E a h
 | a,t::q=>E a t && extE E h t q
def cycB (E:Int→Int→Bool):List Int→Bool
 | []=>true
 | t::q=>extE E t t q
theorem JJ {α β:Type} (p:α→Bool) (g:α→Option β):∀ l:List α,(l.filter p).findSome? g=l.findSome? fun t=>if p t then g t else none
 | []=>rfl
 | a::l=>by
  rw[List.filter_cons,A3]
  cases p a with
  | true=>simp only[if_true];rw[A3,JJ p g l]
  | false=>simp only[A7,if_false];rw[JJ p g l]
theorem Xl {l c:List Int} (hn:l.Nodup) (y:Int):(l.filter fun x=>!c.contains x).erase y=l.filter fun x=>!(c++[y]).contains x:=by
 rw[List.Nodup.erase_eq_filter (show List.Nodup _ from List.Pairwise.filter _ hn),List.filter_filter]
 refine List.filter_congr fun x _=>?_
 simp only[List.contains_append,Bool.not_or,List.contains_cons,List.contains_nil,Bool.or_false];cases hx:(x == y) <;> cases c.contains x <;> simp[bne,hx]
theorem XO {α β γ:Type} (f:β→γ) (g:α→Option β):∀ l:List α,(l.findSome? g).map f=l.findSome? fun x=>(g x).map f
 | []=>rfl
 | a::l=>by
  rw[A3,A3]
  cases g a with
  | some b=>rfl
  | none=>exact XO f g l
theorem Nq {E:Int→Int→Bool} {l:List Int} (hn:l.Nodup):∀ (n:Nat) (c:List Int),c≠[]→growF E l n c=((someF n (l.filter fun x=>!c.contains x)).find? (extE E (c.headD 0) (c.getLastD 0))).map (c++·)
 | 0,c,hc=>by
  unfold growF someF;rw[B5];show _=D1 (c++·) (match E (c.getLastD 0) (c.headD 0) with | true=>some [] | false=>[].find? _);cases E (c.getLastD 0) (c.headD 0) <;> simp
 | n+1,c,hc=>by
  have e1:growF E l (n+1) c=l.findSome? fun t=>if c.contains t then none else if E (c.getLastD 0) t then growF E l n (c++[t]) else none:=rfl
  have e2:∀ F:List Int,someF (n+1) F=F.flatMap fun y=>(someF n (F.erase y)).map (y::·):=fun _=>rfl
  rw[e1,e2,List.find?_flatMap,XO,JJ]
  refine JX fun t ht=>?_
  cases hct:c.contains t with
  | true=>rfl
  | false =>
   simp only[A7,if_false,Bool.not_false,if_true];rw[XN]
   have h2:(fun p=>extE E (c.headD 0) (c.getLastD 0) (t::p))=fun p=>E (c.getLastD 0) t && extE E (c.headD 0) t p:=rfl
   rw[h2]
   cases hE:E (c.getLastD 0) t with
   | false =>
    simp only[Bool.false_and,A7,if_false];rw[List.find?_eq_none.2 (by simp)];rfl
   | true =>
    simp only[Bool.true_and,if_true];have ih:=Nq (E:=E) hn n (c++[t]) (by simp)
    have hh:(c++[t]).headD 0=c.headD 0:=by cases c with | nil=>exact absurd rfl hc | cons a r=>rfl
    have hl:(c++[t]).getLastD 0=t:=by simp[List.getLastD_eq_getLast?]
    rw[ih,hh,hl,Xl hn];cases (someF n (l.filter fun x=>!(c++[t]).contains x)).find? (extE E (c.headD 0) t) <;> simp
theorem qcg {E:Int→Int→Bool} {l:List Int} (hn:l.Nodup) (n:Nat):l.findSome? (fun t=>growF E l n [t])=(someF (n+1) l).find? (cycB E):=by
 have e2:someF (n+1) l=l.flatMap fun y=>(someF n (l.erase y)).map (y::·):=rfl
 rw[e2,List.find?_flatMap]
 refine JX fun t ht=>?_
 rw[Nq hn n [t] (by simp),XN]
 have h1:(l.filter fun x=>!([t]:List Int).contains x)=l.erase t:=by
  rw[hn.erase_eq_filter]
  refine List.filter_congr fun x _=>?_
  by_cases h:x=t <;> simp[h]
 rw[h1];rfl
theorem ZH:∀ (n:Nat) (l p:List Int),p∈someF n l→p.length=n∧∀ x,x∈p→x∈l
 | 0,l,p,h=>by
  have:p=[]:=by simpa[someF] using h
  subst this;simp
 | n+1,l,p,h=>by
  obtain⟨y,hy,h⟩:=List.mem_flatMap.1 h;obtain⟨q,hq,rfl⟩:=List.mem_map.1 h;obtain⟨h1,h2⟩:=ZH n _ q hq;refine⟨by simp[h1],fun x hx=>?_⟩
  rcases List.mem_cons.1 hx with rfl | hx
  ·exact hy
  ·exact E0 (h2 x hx)
theorem qcw {α:Type} (p q:List α):sub (p++q) ((p.length:Nat):Int) ((p++q).length:Int)=some q:=by
 unfold sub
 have e:(((p++q).length:Nat):Int).toNat=(p++q).length:=by omega
 rw[if_pos ⟨by omega,by simp only[List.length_append];omega,by omega⟩,e,List.take_length];simp
theorem Zn (x a:qe):qp x a=true↔x=a:=by
 cases x;cases a;simp[qp]
theorem qcC {x a:qe} (h:¬ x=a):qp x a=false:=by rw[← Bool.not_eq_true,Zn];exact h
theorem VT {V:Type} (z v:V) (k t:qe):∀ l:List (qe×V),mget qp z t (mset qp k v l)=bif qp k t then v else mget qp z t l
 | []=>by
  unfold mset mget mget;rfl
 | p::r=>by
  have ih:=VT z v k t r;unfold mset
  cases hk:qp p.1 k with
  | true =>
   have hk:=(Zn _ _).1 hk;simp only[cond_true];unfold mget;have e2:qp (p.1,v).1 t=qp p.1 t:=rfl;rw[e2,hk];cases qp k t <;> rfl
  | false =>
   simp only[cN];unfold mget;rw[ih]
   cases hp:qp p.1 t with
   | false=>rfl
   | true =>
    have hp:=(Zn _ _).1 hp
    have h:qp k t=false:=qcC fun e=>by
     rw[hp,← e,(Zn k k).2 rfl]at hk;cases hk
    rw[h];rfl
theorem Nf {V:Type} (k:qe) (v:V):∀ l:List (qe×V),(mset qp k v l).length≤l.length+1
 | []=>by simp[mset]
 | p::r=>by
  have:=Nf k v r;unfold mset;cases qp p.1 k <;> simp <;> omega
def partL (h:List rf5Op):List rf5Op:=h.filter fun x=>decide (endL x.qa 2 h 0 ≥ 0)
theorem ZY {h:List rf5Op} {t:Int}:t∈commL h↔(1≤t∧t≤6)∧endL t 2 h 0 ≥ 0:=by
 unfold commL;rw[List.mem_filter,decide_eq_true_eq]
 refine and_congr_left fun _=>?_
 simp;omega
theorem Ja (h:List rf5Op):(commL h).Nodup:=List.Pairwise.filter _ (by decide)
theorem Qk (h:List rf5Op):(commL h).length≤6:=Nat.le_trans (E7 _ _) (by simp)
theorem Dh {h:List rf5Op} (K:List hsOp→Option (List hsOp)):∀ (r:List rf5Op) (k:Nat) (v:List hsOp),(∀ x,x∈r→1≤x.qa∧x.qa≤6)→v.length+r.length≤1000 →
  qC (commL h) K (r.map cv) k v=K (v++(r.filter fun x=>decide (endL x.qa 2 h 0 ≥ 0)).map cv)
 | [],k,v,_,_=>by rw[A2,qC.eq_1];simp
 | x::r,k,v,hx,hl=>by
  have hl:v.length+(r.length+1)≤1000:=hl
  have ih:=fun v' h1=>Dh (h:=h) K r (k+1) v' (fun y hy=>hx y (B3 _ hy)) h1
  rw[A1,qC.eq_2];unfold jS;have hb:=hx x (B4 ..)
  have hc:(commL h).contains (cv x).qa=decide (endL x.qa 2 h 0 ≥ 0):=by
   rw[Bool.eq_iff_iff,List.contains_iff_mem,decide_eq_true_eq];show x.qa∈commL h↔_;rw[ZY];exact⟨fun h=>h.2,fun h=>⟨hb,h⟩⟩
  rw[Zx (by have:=Qk h;omega),hc,List.filter_cons];simp only[A0]
  cases decide (endL x.qa 2 h 0 ≥ 0) with
  | true =>
   simp only[cond_true,if_true];rw[capS (by omega) (by simp;omega),qH,ih _ (by simp;omega)];simp
  | false =>
   simp only[cN,A7,if_false];rw[ih _ (by omega)]
theorem ZP {h:List rf5Op} (H:Hist h):jp bigFuel (h.map cv)=some ((partL h).map cv):=by
 have:=H.len;unfold jp;rw[JE H,A0,JD (by simp;omega),qH,Dh _ h 0 [] H.txn (by simpa using this)];rfl
def clash (x y:rf5Op):Bool:=(x.qa != y.qa) && ((x.qc == y.qc) && ((if y.qb > x.qb then y.qb else x.qb) == 1))
def confL:List rf5Op→Int→Int→Bool
 | [],_,_=>false
 | x::r,a,b=>(r.any fun y=>clash x y && ((x.qa == a) && (y.qa == b))) || confL r a b
theorem qcG (x:rf5Op) (hx:1≤x.qa∧x.qa≤6) (K:List (qe×Bool)→Option (List (qe×Bool))):∀ (r:List rf5Op) (k:Nat) (v:List (qe×Bool)),(∀ y,y∈r→1≤y.qa∧y.qa≤6)→v.length+r.length≤10000000 →
  ∃ v',qj (cv x) K (r.map cv) k v=K v'∧v'.length≤v.length+r.length∧∀ a b,edgeB v' a b=(edgeB v a b || r.any fun y=>clash x y && ((x.qa == a) && (y.qa == b)))
 | [],k,v,_,_=>⟨v,by rw[A2,qj.eq_1],by simp,fun a b=>by simp⟩
 | y::r,k,v,hy,hl=>by
  have hl:v.length+(r.length+1)≤10000000:=hl;have hb:=hy y (B4 ..)
  have ih:=fun v' h1=>qcG x hx K r (k+1) v' (fun z hz=>hy z (B3 _ hz)) h1
  have e:qj (cv x) K ((y::r).map cv) k v=qJ (cv x) (cv y) v (qE (qj (cv x) K (r.map cv) (k+1))) (clash x y):=by
   rw[A1,qj.eq_2];show (bif (x.qa != y.qa) then (bif (x.qc == y.qc) then _ else _) else _)=_;unfold clash;cases (x.qa != y.qa) <;> cases (x.qc == y.qc) <;> rfl
  rw[e];unfold qJ qE
  cases hc:clash x y with
  | false =>
   simp only[cN];obtain⟨v',h1,h2,h3⟩:=ih v (by omega);refine⟨v',h1,by simp;omega,fun a b=>?_⟩;rw[h3,D4,hc];simp
  | true =>
   simp only[cond_true];have w1:wfI .i64 (cv x).qa=true:=wf6 (by show -1000≤x.qa;omega) (by show x.qa≤1000;omega);have w2:wfI .i64 (cv y).qa=true:=wf6 (by show -1000≤y.qa;omega) (by show y.qa≤1000;omega);have w3:Nat.blt v.length 1000000000=true:=A8 (by omega);rw[w1,w2,w3];simp only[Bool.and_self,qH];have hm:=Nf (qe.mk (cv x).qa (cv y).qa) true v;obtain⟨v',h1,h2,h3⟩:=ih _ (by omega:(mset qp (qe.mk (cv x).qa (cv y).qa) true v).length+r.length≤10000000);refine⟨v',h1,by simp;omega,fun a b=>?_⟩;rw[h3,D4,hc,Bool.true_and]
   have e2:edgeB (mset qp (qe.mk (cv x).qa (cv y).qa) true v) a b=(((x.qa == a) && (y.qa == b)) || edgeB v a b):=by
    unfold edgeB;rw[VT]
    have:qp (qe.mk (cv x).qa (cv y).qa) (qe.mk a b)=((x.qa == a) && (y.qa == b)):=by
     show ((x.qa == a) && ((y.qa == b) && true))=_;rw[Bool.and_true]
    rw[this];cases (x.qa == a) && (y.qa == b) <;> rfl
   rw[e2];cases edgeB v a b <;> cases (x.qa == a) && (y.qa == b) <;> simp
theorem qcH {h:List rf5Op} (hh:h.length≤1000) (ht:∀ x,x∈h→1≤x.qa∧x.qa≤6) (K:List (qe×Bool)→Option (List (qe×Bool))):∀ (r:List rf5Op) (k:Nat) (v:List (qe×Bool)) (pre:List rf5Op),h=pre++r→pre.length=k→v.length+r.length * 1000≤9000000 →
  ∃ v',qi (h.map cv) K (r.map cv) k v=K v'∧v'.length≤v.length+r.length * 1000∧∀ a b,edgeB v' a b=(edgeB v a b || confL r a b)
 | [],k,v,pre,_,_,_=>⟨v,by rw[A2,qi.eq_1],by simp,fun a b=>by simp[confL]⟩
 | x::r,k,v,pre,he,hk,hl=>by
  have hl:v.length+(r.length+1) * 1000≤9000000:=hl
  have hlen:pre.length+(r.length+1)≤1000:=by rw[he]at hh;simpa using hh
  have hs:sub (h.map cv) ((k+1:Nat):Int) ((h.map cv).length:Int)=some (r.map cv):=by
   have:=qcw ((pre++[x]).map cv) (r.map cv)
   have e:(pre++[x]).map cv++r.map cv=h.map cv:=by rw[he];simp
   rw[e]at this
   simpa[hk] using this
  rw[A1,qi.eq_2,hs,A0,JD (by simp;omega),qH];obtain⟨v1,h1,h2,h3⟩:=qcG x (ht x (by rw[he];simp)) (qB (qi (h.map cv) K (r.map cv) (k+1))) r 0 v (fun y hy=>ht y (by rw[he];simp[hy])) (by omega);obtain⟨v2,g1,g2,g3⟩:=qcH hh ht K r (k+1) v1 (pre++[x]) (by rw[he];simp) (by simp[hk]) (by omega);refine⟨v2,by rw[h1];exact g1,by simp;omega,fun a b=>?_⟩;rw[g3,h3];show ((_ || _) || _)=(_ || (_ || confL r a b));rw[Bool.or_assoc]
theorem UX {h:List rf5Op} (hh:h.length≤1000) (ht:∀ x,x∈h→1≤x.qa∧x.qa≤6):∃ es,jf (h.map cv)=some es∧∀ a b,edgeB es a b=confL h a b:=by
 unfold jf;rw[JD (by simp;omega),qH];obtain⟨es,h1,_,h3⟩:=qcH hh ht (qn) h 0 [] [] rfl rfl (by simp;omega);exact⟨es,h1,fun a b=>by rw[h3];simp[edgeB,mget]⟩
theorem Zs {p:Int→Bool}:∀ (l:List Int),(l.findIdx? p=none∧l.find? p=none)∨∃ k b,l.findIdx? p=some k∧l.find? p=some b∧l[k]? = some b∧(l.Nodup→l.take k++l.drop (k+1)=l.erase b)
 | []=>.inl ⟨rfl,rfl⟩
 | a::l=>by
  rw[List.findIdx?_cons,B5]
  cases hp:p a with
  | true=>exact .inr ⟨0,a,rfl,rfl,rfl,fun _=>by simp⟩
  | false =>
   rcases Zs (p:=p) l with ⟨h1,h2⟩ | ⟨k,b,h1,h2,h3,h4⟩
   ·exact .inl ⟨by rw[h1];rfl,h2⟩
   ·refine .inr ⟨k+1,b,by rw[h1];rfl,h2,by simpa using h3,fun hn=>?_⟩
    have hb:b≠a:=fun e=>by
     have:=List.find?_some h2;rw[e,hp]at this;cases this
    rw[List.erase_cons_tail (by simpa using fun e=>hb e.symm)];simp only[List.take_succ_cons,List.drop_succ_cons,List.cons_append];rw[h4 (List.nodup_cons.1 hn).2]
theorem Zq {g:Int→Option Bool} {p:Int→Bool}:∀ (l:List Int) (k:Nat),(∀ x,x∈l→g x=some (p x))→qP g jE l k=some (match l.findIdx? p with | some j=>((k+j:Nat):Int) | none => -1)
 | [],k,_=>by rw[qP.eq_1];rfl
 | x::l,k,h=>by
  rw[qP.eq_2,h x (by simp),A0,List.findIdx?_cons,Zq l (k+1) fun y hy=>h y (by simp[hy])]
  cases p x with
  | true=>simp
  | false =>
   simp only[cN,A7,if_false]
   cases l.findIdx? p with
   | none=>rfl
   | some j =>
    show some (((k+1+j:Nat)):Int)=some (((k+(j+1):Nat)):Int)
    congr 1;omega
theorem YN {l:List Int} (hl:l.length≤100000) {g:Int→Option Bool} {p:Int→Bool} (h:∀ x,x∈l→g x=some (p x)):jL l g=some (match l.findIdx? p with | some j=>(j:Int) | none => -1):=by
 unfold jL;rw[JD (by omega),qH,Zq l 0 h];cases l.findIdx? p <;> simp
theorem ZX {l:List Int} (hl:l.length≤100000) {g:Int→Option Bool} {p:Int→Bool} (h:∀ x,x∈l→g x=some (p x)):jF l g=some (l.any p):=by
 unfold jF;rw[YN hl h,A0]
 congr 1
 cases hf:l.findIdx? p with
 | none =>
  rw[List.findIdx?_eq_none_iff]at hf
  have:l.any p=false:=by rw[List.any_eq_false];intro x hx;simp[hf x hx]
  rw[this];rfl
 | some j =>
  have:l.any p=true:=by
   rw[List.any_eq_true];obtain⟨hj,h1,_⟩:=List.findIdx?_eq_some_iff_getElem.1 hf;exact⟨_,B7 hj,h1⟩
  rw[this];simp
theorem qbG {es:List (qe×Bool)} {l:List Int} (hl:l.length≤100000) (hw:∀ x,x∈l→wfI .i64 x=true) (b:Int) (hb:wfI .i64 b=true):jx b l es=some (srcB (edgeB es) l b):=by
 unfold jx;rw[ZX (p:=fun a=>edgeB es a b) hl fun x hx=>?_]
 ·rfl
 ·unfold jG;rw[hw x hx,hb];rfl
theorem UP {es:List (qe×Bool)} (K:List Int→Option (List Int×Bool)):∀ (n m:Nat) (v out left:List Int),left.length=n→snap 0 n v=left→left.Nodup→(∀ x,x∈left→wfI .i64 x=true)→n<m→out.length+n≤1000 →
  qI es K m v n out=match topo (edgeB es) n left with | none=>some ([],false) | some o=>K (out++o)
 | 0,m,v,out,left,hl,hs,_,_,hm,_=>by
  obtain⟨m,rfl⟩:∃ m',m=m'+1:=⟨m - 1,by omega⟩;have:left=[]:=List.eq_nil_of_length_eq_zero hl;subst this;rw[qI.eq_2,decide_eq_false (by omega)];simp[topo]
 | n+1,m,v,out,left,hl,hs,hn,hw,hm,ho=>by
  obtain⟨m,rfl⟩:∃ m',m=m'+1:=⟨m - 1,by omega⟩;rw[qI.eq_2,decide_eq_true (by omega),cond_true,hs];rw[YN (p:=srcB (edgeB es) left) (by omega) fun x hx=>qbG (by omega) hw x (hw x hx),A0]
  have ht:topo (edgeB es) (n+1) left=match left.find? (srcB (edgeB es) left) with | none=>none | some b=>(topo (edgeB es) n (left.erase b)).map (b::·):=by
   cases left with
   | nil=>simp at hl
   | cons x r=>rfl
  rw[ht]
  rcases Zs (p:=srcB (edgeB es) left) left with ⟨h1,h2⟩ | ⟨k,b,h1,h2,h3,h4⟩
  ·rw[h1,h2];rfl
  ·rw[h1,h2];simp only;have hk:=(List.getElem?_eq_some_iff.1 h3).1;have hb:b∈left:=List.mem_of_getElem? h3
   have hvk:v[0+Int.toNat (k:Int)]? = some b:=by
    have:=congrArg (fun l=>l[k]?) hs;unfold snap at this;simp only[List.drop_zero,List.getElem?_take]at this;rw[if_pos (by omega)]at this;rw[Nat.zero_add,D2,this];exact h3
   rw[decide_eq_false (by omega),cN,decide_eq_true (by omega),qH,hvk,A0,capS (by omega) (by simp;omega),qH,wr (by omega) (by omega)];unfold Qn;rw[decide_eq_true ⟨rfl,by omega,by omega,by omega,rfl⟩,qH,A0,D2];simp only
   have hle:(left.erase b).length=n:=by rw[D5 hb];omega
   have he:left.length - 1=n:=by omega
   rw[he,UP K n m _ (out++[b]) (left.erase b) hle ?_ (hn.erase b) (fun x hx=>hw x (E0 hx)) (by omega) (by simp;omega)]
   ·cases topo (edgeB es) n (left.erase b) with
    | none=>rfl
    | some o=>simp
   ·unfold snap;rw[List.drop_zero,h4 hn]
    have:(left.erase b++[0]).take n=(left.erase b).take n:=by rw[List.take_append_of_le_length (by omega)]
    rw[this,A9 (by omega)]
theorem DU {es:List (qe×Bool)} {l:List Int} (hl:l.length≤500) (hn:l.Nodup) (hw:∀ x,x∈l→wfI .i64 x=true):Jk bigFuel es l=some (match topo (edgeB es) l.length l with | none=>([],false) | some o=>(o,true)):=by
 unfold Jk jN;rw[capS (by omega) (by omega),qH,A0,UP _ l.length bigFuel l [] l rfl (by unfold snap;simp) hn hw (by unfold bigFuel;omega) (by simp;omega)];cases topo (edgeB es) l.length l <;> rfl
def orderR (h:List rf5Op):List Int×Int:=if validB h then (match topo (confL (partL h)) (commL h).length (commL h) with | some o=>(o,0) | none=>([],8)) else ([],2)
def cycleR (h:List rf5Op):List Int×Int:=if validB h then (match cycFind (confL (partL h)) (commL h) with | some c=>(c,0) | none=>([],5)) else ([],2)
theorem Hq {h:List rf5Op}:∀ x,x∈commL h→wfI .i64 x=true:=fun x hx=>wf6 (by have:=(ZY.1 hx).1;omega) (by have:=(ZY.1 hx).1;omega)
theorem Yu {h:List rf5Op} (H:Hist h):(partL h).length≤1000∧∀ x,x∈partL h→1≤x.qa∧x.qa≤6 :=
  ⟨Nat.le_trans (E7 _ _) H.len,fun x hx=>H.txn x (List.mem_filter.1 hx).1⟩
theorem ZQ (h:List rf5Op):QX bigFuel ((h.take 43).map cv)=some (orderR h):=by
  unfold QX orderR;rw[YQ,A0]
  cases hv:validB h with
  | false=>rfl
  | true =>
    obtain⟨H,hlen⟩:=Zr hv;have:h.take 43=h:=A9 (by omega);obtain⟨es,h1,h2⟩:=UX (Yu H).1 (Yu H).2
    have hE:edgeB es=confL (partL h):=funext fun a=>funext fun b=>h2 a b
    rw[this,Bool.not_true,cN,ZP H,A0,h1,A0,JE H,A0,DU (by have:=Qk h;omega) (Ja h) Hq,hE,A0];simp only[if_true];cases topo (confL (partL h)) (commL h).length (commL h) <;> rfl
theorem ZW (h:List rf5Op):Dv bigFuel ((h.take 43).map cv)=some (cycleR h):=by
  unfold Dv cycP cycleR;rw[YQ,A0]
  cases hv:validB h with
  | false=>rfl
  | true =>
    obtain⟨H,hlen⟩:=Zr hv;have:h.take 43=h:=A9 (by omega);obtain⟨es,h1,h2⟩:=UX (Yu H).1 (Yu H).2
    have hE:edgeB es=confL (partL h):=funext fun a=>funext fun b=>h2 a b
    have hck:(decide ((commL h).length≤999) && (commL h).all (wfI .i64))=true:=by
      rw[A4,decide_eq_true_eq,List.all_eq_true];exact⟨by have:=Qk h;omega,Hq⟩
    rw[this,cond_true,ZP H,A0,h1,A0,JE H,A0,hck,qH,hE];rfl
theorem HA {E:Int→Int→Bool}:∀ (n:Nat) (l o:List Int),topo E n l=some o→o.length≤n+l.length
  | n,[],o,h=>by cases n <;> (cases h;simp)
  | 0,x::l,o,h=>by cases h
  | n+1,x::l,o,h=>by
    have e2:topo E (n+1) (x::l)=match (x::l).find? (srcB E (x::l)) with | none=>none | some b=>(topo E n ((x::l).erase b)).map (b::·):=rfl
    rw[e2]at h
    cases hf:(x::l).find? (srcB E (x::l)) with
    | none=>rw[hf]at h;cases h
    | some b =>
      rw[hf]at h;obtain⟨q,hq,rfl⟩:=Option.map_eq_some_iff.1 h;have:=HA n _ q hq;have hle:=List.length_erase_le (a:=b) (l:=x::l);simp at hle ⊢;omega
theorem DC {E:Int→Int→Bool} {l c:List Int} (hn:l.Nodup) (h:cycFind E l=some c):c.length≤l.length:=by
  unfold cycFind at h;obtain⟨k,hk,h⟩:=List.exists_of_findSome?_eq_some h;have hk:=List.mem_range.1 hk;split at h
  · cases h
  · rw[qcg hn]at h
    have:=(ZH _ _ c (List.mem_of_find?_eq_some h)).1;omega
theorem Na (h:List rf5Op):(orderR h).1.length≤100:=by
  unfold orderR;split
  · split
    · rename_i o ho
      have:=HA _ _ _ ho;have:=Qk h;simp only;omega
    · simp
  · simp
theorem NC (h:List rf5Op):(cycleR h).1.length≤100:=by
  unfold cycleR;split
  · split
    · rename_i o ho
      have:=DC (Ja h) ho;have:=Qk h;simp only;omega
    · simp
  · simp
end Go.AM
namespace Go.AM
open Go.RowKit Go.Proofs
open Go.ChangeMaps (setBlock)
variable {K V:Type} {F:K→AV} {G:V→AV} {eq:K→K→Bool}
def MapAt (M:Mem) (w:World) (g:Nat) (F:K→AV) (G:V→AV) (l:List (K×V)):Prop :=
 ∃ es clock,w.heap[g]? = some (.map es clock)∧EntOk M es clock (l.map fun p=>F p.1) (l.map fun p=>G p.2)
theorem MapAt.mono {M M':Mem} {w:World} {g:Nat} {l:List (K×V)} (h:MapAt M w g F G l) (hs:Sub M M'):MapAt M' w g F G l:=by
 obtain⟨es,clock,h1,h2⟩:=h;exact⟨es,clock,h1,h2.mono hs⟩
theorem MapAt.of {M:Mem} {w w':World} {g:Nat} {l:List (K×V)} (h:MapAt M w g F G l) (hb:w'.heap[g]? = w.heap[g]?):MapAt M w' g F G l:=by
 obtain⟨es,clock,h1,h2⟩:=h;exact⟨es,clock,hb.trans h1,h2⟩
theorem MapAt.lt {M:Mem} {w:World} {g:Nat} {l:List (K×V)} (h:MapAt M w g F G l):g<w.heap.size:=by
 obtain⟨es,clock,h1,_⟩:=h;exact (Array.getElem?_eq_some_iff.1 h1).1
theorem MapAt.empty {M:Mem} {w:World} {g:Nat} (h:w.heap[g]? = some (.map #[] 0)):MapAt M w g F G []:=⟨#[],0,h,(MapKept.stamped_iff _ _).2 ⟨by simp,by simp,by simp⟩,Nat.zero_le _,rfl,rfl,fun j k e hk=>by simp at hk,fun j k e hk=>by simp at hk⟩
theorem Vf {w:World} {g:Nat} {o o':Obj} (h:w.heap[g]? = some o):(setBlock w g o').heap[g]? = some o':=by
 have:=(Array.getElem?_eq_some_iff.1 h).1;unfold setBlock;simp[this]
theorem QS {w:World} {g k:Nat} {o':Obj} (h:k≠g):(setBlock w g o').heap[k]? = w.heap[k]?:=by
 unfold setBlock;simp[Array.getElem?_setIfInBounds,Ne.symm h]
theorem Ut {w:World} {g:Nat} {o':Obj}:(setBlock w g o').heap.size=w.heap.size:=by
 unfold setBlock;simp
def Vb (M:Mem) (w:World) (r:AV) (e:Ending) (w':World):Prop:=∃ v M',e=.returned v∧Below w.heap.size w w'∧Sub M M'∧Cons M' w'∧(∀ b o,b<w.heap.size→M' b o=M b o)∧R M' r v∧OwnR M' w.heap.size w' r v
end Go.AM
