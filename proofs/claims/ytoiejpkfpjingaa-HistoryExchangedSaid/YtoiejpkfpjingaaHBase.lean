import Derived.Test.YtoiejpkfpjingaaERv
import Derived.Test.YtoiejpkfpjingaaKAT
import Derived.Test.YtoiejpkfpjingaaChecked
import Derived.Test.YtoiejpkfpjingaaRows
import Derived.ProofKit
import Derived.OpenShut
set_option linter.all false
set_option maxRecDepth 100000
open List renaming getElem_toArray→A0, getElem_cons_succ→A1, getElem_cons_zero→A2, setIfInBounds_toArray→A3, set_cons_zero→A4, set_cons_succ→A5, length_map→A9, getElem?_eq_getElem→B4, getElem?_append_right→B5, getElem?_map→B6, take_of_length_le→B7, drop_eq_getElem_cons→B8, getElem?_append_left→D0, mem_of_getElem?→D1
open Go.World renaming cell?→A6
open Go.IntKind renaming wrap→A7
open Nat renaming le_refl→A8, add_assoc→B3
namespace Go.Proofs
open Go.RowKit Go.AM
theorem Jt {M:Mem} {a b:AV} {v:Value} (h:R M (.tup [a,b]) v):∃ x y,v=.tuple #[x,y]∧R M a x∧R M b y:=by
 cases h with
 | tup hl hc =>
  rename_i vs
  match vs,hl with
  | [x,y],_=>exact⟨x,y,rfl,hc 0 _ _ rfl rfl,hc 1 _ _ rfl rfl⟩
theorem qcJ (n:Int):0≤A7 .u64 n:=by
 have h:A7 .u64 n=n % 18446744073709551616:=by simp[A7,IntKind.signed,IntKind.bits]
 rw[h];omega
theorem qcn (at':Int) {n:Nat} (h2:2≤n) (h40:n≤1000):∃ k:Nat,A7 .i64 ((A7 .u64 at').tmod ((n:Int) - 1))=(k:Int)∧k+1<n:=by
 have h0:=qcJ at';have h1:(A7 .u64 at').tmod ((n:Int) - 1)<(n:Int) - 1:=Int.tmod_lt_of_pos _ (by omega);have h3:0≤(A7 .u64 at').tmod ((n:Int) - 1):=Int.tmod_nonneg _ h0;obtain⟨k,hk⟩:=Int.eq_ofNat_of_zero_le h3;refine⟨k,?_,by omega⟩;rw[hk,Xy (by omega) (by omega)]
theorem qbS {M:Mem} {l:List hsOp} {b off cap:Nat} (hc:l.length≤cap) (h:∀ i x,l[i]? = some x→M b (off+i * 3)=some (.int .i64 x.qa)∧M b (off+i * 3+1)=some (.int .i64 x.qb)∧M b (off+i * 3+2)=some (.int .i64 x.qc)):R M (l44 none l) (.slice (some ⟨b,off,none⟩) l.length cap):=by
 have hfl:∀ (l:List hsOp) (j:Nat) c,(flat (l.map qR))[j]? = some c→∃ (i:Nat) (x:hsOp),l[i]? = some x∧((j=i * 3∧c=.int .i64 x.qa)∨(j=i * 3+1∧c=.int .i64 x.qb)∨(j=i * 3+2∧c=.int .i64 x.qc)):=by
  intro l
  induction l with
  | nil=>intro j c hc;simp[flat]at hc
  | cons f l ih =>
   intro j c hc;have e1:flat ((f::l).map qR)=[.int .i64 f.qa,.int .i64 f.qb,.int .i64 f.qc]++flat (l.map qR):=rfl;rw[e1]at hc
   match j,hc with
   | 0,hc=>cases hc;exact⟨0,f,rfl,.inl ⟨rfl,rfl⟩⟩
   | 1,hc=>cases hc;exact⟨0,f,rfl,.inr (.inl ⟨rfl,rfl⟩)⟩
   | 2,hc=>cases hc;exact⟨0,f,rfl,.inr (.inr ⟨rfl,rfl⟩)⟩
   | j+3,hc =>
    have:∀ {α:Type} (a b c:α) (r:List α),([a,b,c]++r)[j+3]? = r[j]?:=fun a b c r=>by simp
    rw[this]at hc;obtain⟨i,x,h1,h2⟩:=ih j c hc;refine⟨i+1,x,by simpa using h1,?_⟩
    rcases h2 with ⟨h2,h3⟩ | ⟨h2,h3⟩ | ⟨h2,h3⟩
    ·exact .inl ⟨by omega,h3⟩
    ·exact .inr (.inl ⟨by omega,h3⟩)
    ·exact .inr (.inr ⟨by omega,h3⟩)
 have hl:(l.map qR).length=l.length:=A9 _;show R _ (.lst 44 3 none (l.map qR)) (.slice (some ⟨b,off,none⟩) l.length cap);rw[← hl];refine .lst (fun j=>(M b (off+j)).getD undef) (by rw[hl];exact hc) (fun x hx=>?_) (fun x hx=>?_) (fun j c hj=>?_) (fun j c hj=>?_)
 ·obtain⟨z,_,rfl⟩:=List.mem_map.1 hx;rfl
 ·obtain⟨z,_,rfl⟩:=List.mem_map.1 hx;rfl
 ·obtain⟨i,x,h1,h2⟩:=hfl l j c hj;obtain⟨g1,g2,g3⟩:=h i x h1
  rcases h2 with ⟨rfl,_⟩ | ⟨rfl,_⟩ | ⟨rfl,_⟩
  ·rw[g1];rfl
  ·rw[← B3,g2];rfl
  ·rw[← B3,g3];rfl
 ·obtain⟨i,x,h1,h2⟩:=hfl l j c hj;obtain⟨g1,g2,g3⟩:=h i x h1
  rcases h2 with ⟨rfl,rfl⟩ | ⟨rfl,rfl⟩ | ⟨rfl,rfl⟩
  ·rw[g1];exact .int _ _
  ·rw[← B3,g2];exact .int _ _
  ·rw[← B3,g3];exact .int _ _
theorem VG {cur:Array Value} {p q:Nat} (hq:q+3≤cur.size) (hpq:p+3≤q) (y0 y1 y2 x0 x1 x2:Value) {c6:Array Value} (hc:c6=(((((cur.setIfInBounds p y0).setIfInBounds (p+1) y1).setIfInBounds (p+2) y2).setIfInBounds q x0).setIfInBounds (q+1) x1).setIfInBounds (q+2) x2) :
  c6[p]? = some y0∧c6[p+1]? = some y1∧c6[p+2]? = some y2∧c6[q]? = some x0∧c6[q+1]? = some x1∧c6[q+2]? = some x2∧∀ j,(j<p∨(p+3≤j∧j<q)∨q+3≤j)→c6[j]? = cur[j]?:=by
 subst hc;refine⟨?_,?_,?_,?_,?_,?_,fun j hj=>?_⟩ <;> simp only[Array.getElem?_setIfInBounds,Array.size_setIfInBounds] <;> (repeat (first | rw[if_pos (by omega)] | rw[if_neg (by omega)] | rw[if_pos trivial]))
theorem UL {h:List rf5Op} {k:Nat} {x y:rf5Op} (hx:h[k]? = some x) (hy:h[k+1]? = some y) (hs:swapB x y=true):∃ h',Sw h h'∧h'.length=h.length∧h'[k]? = some y∧h'[k+1]? = some x∧∀ j,j≠k→j≠k+1→h'[j]? = h[j]?:=by
 have hk:=(List.getElem?_eq_some_iff.1 hy).1
 have e:h=h.take k++x::y::h.drop (k+2):=by
  have e1:h=h.take k++h.drop k:=(List.take_append_drop k h).symm
  have e2:h.drop k=x::y::h.drop (k+2):=by
   rw[B8 (by omega),B8 hk];rw[B4 (by omega)]at hx;rw[B4 hk]at hy;cases hx;cases hy;rfl
  rw[← e2];exact e1
 have hl:(h.take k).length=k:=by rw[List.length_take];omega
 refine⟨h.take k++y::x::h.drop (k+2),?_,?_,?_,?_,fun j h1 h2=>?_⟩
 ·have:=Sw.swap (h.take k) (h.drop (k+2)) x y hs;rw[← e]at this;exact this
 ·rw[List.length_append,hl];simp;omega
 ·rw[B5 (by omega),hl,Nat.sub_self];rfl
 ·rw[B5 (by omega),hl,Nat.add_sub_cancel_left];rfl
 ·have e3:=congrArg (fun l=>l[j]?) e;rw[e3]
  rcases Nat.lt_or_ge j k with h3 | h3
  ·rw[D0 (by omega),D0 (by omega)]
  ·rw[B5 (by omega),B5 (by omega),hl];obtain⟨m,hm⟩:∃ m,j - k=m+2:=⟨j - k - 2,by omega⟩;rw[hm];rfl
theorem merge {p G:Prop} (h:Hid p→G) (hp:p):G:=h hp
set_option maxHeartbeats 2000000 in
theorem exch8 {h:List rf5Op} {at':Int} (hlh:lenOk h=true):CallOk Try.prog 8 [l43 none h,.int .i64 at'] (.bool true):=by
 intro M w vs hG hC hl hR
 obtain⟨v0,v1,rfl⟩:∃ v0 v1,vs=[v0,v1]:=by
  match vs,hl with
  | [v0,v1],_=>exact⟨v0,v1,rfl⟩
 have r0:R M (l43 none h) v0:=hR 0 _ v0 rfl rfl;have r1:R M (.int .i64 at') v1:=hR 1 _ v1 rfl rfl;clear hR hl hG;obtain rfl:v1=.int .i64 at':=r1.int_inv;clear r1;show Calls Try.prog 8 [v0,.int .i64 at'].toArray w (Vb M w (.bool true));have mixed:=mixedP;have t3:=Try.underlying3;have a3:=Try.isAgg3;have z3:=Try.sizeOf3;have v3:=Try.zeroValue3;have u3:=run_underlying Try.underlying3;have t4:=Try.underlying4;have a4:=Try.isAgg4;have z4:=Try.sizeOf4;have v4:=Try.zeroValue4;have t24:=Try.underlying24;have a24:=Try.isAgg24;have z24:=Try.sizeOf24;have v24:=Try.zeroValue24;have u24:=run_underlying Try.underlying24;have t25:=Try.underlying25;have a25:=Try.isAgg25;have z25:=Try.sizeOf25;have v25:=Try.zeroValue25;have u25:=run_underlying Try.underlying25;have t23:=Try.underlying23;have a23:=Try.isAgg23;have z23:=Try.sizeOf23;have v23:=Try.zeroValue23;have u23:=run_underlying Try.underlying23;have t29:=Try.underlying29;have a29:=Try.isAgg29;have z29:=Try.sizeOf29;have v29:=Try.zeroValue29;have u29:=run_underlying Try.underlying29;have t41:=Try.underlying41;have a41:=Try.isAgg41;have z41:=Try.sizeOf41;have v41:=Try.zeroValue41;have u41:=run_underlying Try.underlying41;have t43:=Try.underlying43;have a43:=Try.isAgg43;have z43:=Try.sizeOf43;have v43:=Try.zeroValue43;have u43:=run_underlying Try.underlying43;have t44:=Try.underlying44;have a44:=Try.isAgg44;have z44:=Try.sizeOf44;have v44:=Try.zeroValue44;have u44:=run_underlying Try.underlying44;obtain⟨ha,hcap,rfl,hops⟩:=qba r0;have o1:=ZQ h;have o2:=ZW h;have o3:=VD h;obtain⟨a,ea⟩:∃ a,a=orderR h:=⟨_,rfl⟩;obtain⟨b,eb⟩:∃ b,b=cycleR h:=⟨_,rfl⟩;obtain⟨c,ec⟩:∃ c,c=viewR h:=⟨_,rfl⟩;rw[← ea]at o1;rw[← eb]at o2;rw[← ec]at o3;have Ha:=(show Hid _ from ea);have Hb:=(show Hid _ from eb);have Hc:=(show Hid _ from ec);clear ea eb ec
 have c18:=fun (M:Mem) (w:World) (hC:Cons M w) (r0:R M (l43 none h) (.slice ha h.length hcap))=>jg (qae h _ (qcL hlh)) M w [.slice ha h.length hcap] (glob0 M) hC rfl (fun j a b ha hb=>by match j,ha,hb with | 0,ha,hb=>cases ha;cases hb;exact r0)
 go_enter Try.func8,Try.ntmps8
 go_wp2_with fail
 refine Calls.mono (c18 M w hC r0) ?_
 rintro e w1 ⟨f1,M1,rfl,hB1,s1,C1,p1,r1,_⟩
 have c17:=jg (QE bigFuel _ a o1) M1 w1 [f1] (glob0 M1) C1 rfl (fun j a b ha hb=>by match j,ha,hb with | 0,ha,hb=>cases ha;cases hb;exact R.setLab (l':=none) r1)
 go_wp2_with fail
 refine Calls.mono c17 ?_
 rintro e w2 ⟨f2,M2,rfl,hB2,s2,C2,p2,r2,_⟩
 obtain⟨va,ia,rfl,ra,ri⟩:=Jt r2;obtain rfl:ia=.int .i64 a.2:=ri.int_inv;have s02:=Sub.trans s1 s2
 go_wp2_with fail
 refine Calls.mono (c18 M2 w2 C2 (r0.mono s02)) ?_
 rintro e w3 ⟨f3,M3,rfl,hB3,s3,C3,p3,r3,_⟩
 have c19:=jg (.ext0 (cycle19 o2)) M3 w3 [f3] (glob0 M3) C3 rfl (fun j a b ha hb=>by match j,ha,hb with | 0,ha,hb=>cases ha;cases hb;exact R.setLab (l':=none) r3)
 go_wp2_with fail
 refine Calls.mono c19 ?_
 rintro e w4 ⟨f4,M4,rfl,hB4,s4,C4,p4,r4,_⟩
 obtain⟨vb,ib,rfl,rb,ri⟩:=Jt r4;obtain rfl:ib=.int .i64 b.2:=ri.int_inv;have s04:=Sub.trans s02 (Sub.trans s3 s4)
 go_wp2_with fail
 refine Calls.mono (c18 M4 w4 C4 (r0.mono s04)) ?_
 rintro e w5 ⟨f5,M5,rfl,hB5,s5,C5,p5,r5,_⟩
 have c30:=jg (.ext0 (view30 o3)) M5 w5 [f5] (glob0 M5) C5 rfl (fun j a b ha hb=>by match j,ha,hb with | 0,ha,hb=>cases ha;cases hb;exact R.setLab (l':=none) r5)
 go_wp2_with fail
 refine Calls.mono c30 ?_
 rintro e w6 ⟨f6,M6,rfl,hB6,s6,C6,p6,r6,_⟩
 obtain⟨vc,ic,rfl,rc,ri⟩:=Jt r6;obtain rfl:ic=.int .i64 c.2:=ri.int_inv;have s06:=Sub.trans s04 (Sub.trans s5 s6)
 have B06:Below w.heap.size w w6:=by
  have y1:=hB1.size;have y2:=hB2.size;have y3:=hB3.size;have y4:=hB4.size;have y5:=hB5.size;exact (((((hB1.trans (hB2.mono (by omega))).trans (hB3.mono (by omega))).trans (hB4.mono (by omega))).trans (hB5.mono (by omega))).trans (hB6.mono (by omega)))
 have old6:∀ b o,b<w.heap.size→M6 b o=M b o:=fun b o hb=>by
  have y1:=hB1.size;have y2:=hB2.size;have y3:=hB3.size;have y4:=hB4.size;have y5:=hB5.size;rw[p6 b o (by omega),p5 b o (by omega),p4 b o (by omega),p3 b o (by omega),p2 b o (by omega),p1 b o hb]
 have R6:=r0.mono s06;have ra6:=ra.mono (Sub.trans s3 (Sub.trans s4 (Sub.trans s5 s6)));have rb6:=rb.mono (Sub.trans s5 s6);clear hB1 hB2 hB3 hB4 hB5 hB6 s1 s2 s3 s4 s5 s6 s02 s04 p1 p2 p3 p4 p5 p6 C1 C2 C3 C4 C5 r1 r2 r3 r4 r5 r6 c17 c19 c30 ra rb ri
 have awk:=fun (w':World) (hB:Below w.heap.size w w') (hC':Cons M6 w')=>(jg (Xh bigFuel true Va) M6 w' [] (glob0 M6) hC' rfl (fun j a b ha hb=>by cases ha)).mono (R':=fun e w''=>∃ M'',e=.returned (.bool true)∧Below w.heap.size w w''∧Sub M M''∧Cons M'' w''∧∀ b o,b<w.heap.size→M'' b o=M b o) (by
  rintro e w'' ⟨v,M'',rfl,hB'',s7,C7,p7,r7,_⟩
  cases r7;have:=hB.size
  exact⟨M'',rfl,hB.trans (hB''.mono (by omega)),Sub.trans s06 s7,C7,fun b o hb=>by rw[p7 b o (by omega),old6 b o hb]⟩)
 have hawk:=(show Hid _ from awk);clear awk
 cases hv:validB h with
 | false =>
  have ha2:a.2=2:=by rw[Ha.out];unfold orderR;rw[hv];rfl
  rw[ha2]
  go_wp2_with fail
  refine Calls.mono (hawk.out w6 B06 C6) ?_
  rintro e w7 ⟨M7,rfl,hB7,s7,C7,p7⟩
  go_wp2
  go_ret
  exact⟨_,M7,rfl,hB7,s7,C7,p7,.bool _,trivial⟩
 | true =>
  obtain⟨H,h40⟩:=Zr hv
  have ha2:¬ a.2=2:=by
   rw[Ha.out];unfold orderR;rw[hv,if_pos rfl]
   cases topo (confL (partL h)) (commL h).length (commL h) <;> exact fun e=>by cases e
  have ha2':(a.2 == 2)=false:=beq_eq_false_iff_ne.2 ha2;by_cases hl2:h.length<2
  ·have hl2':(h.length:Int)<2:=by omega
   go_wp2_with fail
   refine Calls.mono (hawk.out w6 B06 C6) ?_
   rintro e w7 ⟨M7,rfl,hB7,s7,C7,p7⟩
   go_wp2
   go_ret
   exact⟨_,M7,rfl,hB7,s7,C7,p7,.bool _,trivial⟩
  ·have hl2':¬ (h.length:Int)<2:=by omega
   obtain⟨k,hk,hkl⟩:=qcn at' (n:=h.length) (by omega) (by omega);obtain⟨x,hx⟩:∃ x,h[k]? = some x:=⟨_,B4 (by omega)⟩;obtain⟨y,hy⟩:∃ y,h[k+1]? = some y:=⟨_,B4 hkl⟩;obtain⟨b0,off,rfl,e0,e1,e2⟩:=hops k x hx;obtain⟨b0',off',eb',e3,e4,e5⟩:=hops (k+1) y hy
   obtain⟨rfl,rfl⟩:b0=b0'∧off=off':=by simpa using eb'
   clear eb';have hxm:x∈h:=D1 hx;have hym:y∈h:=D1 hy;have hxk:=H.kind x hxm;have hyk:=H.kind y hym;obtain⟨tx,kx,ix⟩:=x;obtain⟨ty,ky,iy⟩:=y
   have KS:∀ w',Cons M6 w'→(fun w'=>w'.cell? ⟨b0,off+k * 3,none⟩=some (.int .i64 tx)∧w'.cell? ⟨b0,off+k * 3+1,none⟩=some (.int .i64 kx)∧w'.cell? ⟨b0,off+k * 3+2,none⟩=some (.int .i64 ix)∧w'.cell? ⟨b0,off+(k+1) * 3,none⟩=some (.int .i64 ty)∧w'.cell? ⟨b0,off+(k+1) * 3+1,none⟩=some (.int .i64 ky)∧w'.cell? ⟨b0,off+(k+1) * 3+2,none⟩=some (.int .i64 iy)) w':=fun w' h'=>⟨qu (h' _ _ _ (s06 _ _ _ e0)) rfl,qu (h' _ _ _ (s06 _ _ _ e1)) rfl,qu (h' _ _ _ (s06 _ _ _ e2)) rfl,qu (h' _ _ _ (s06 _ _ _ e3)) rfl,qu (h' _ _ _ (s06 _ _ _ e4)) rfl,qu (h' _ _ _ (s06 _ _ _ e5)) rfl⟩
   have K0:=KS w6.drew C6;have j0:(0:Int)≤(k:Int):=Int.natCast_nonneg _
   have j1:(k:Int)<(h.length:Int):=by omega
   have j2:((k+1:Nat):Int)<(h.length:Int):=by omega
   have j3:A7 .i64 ((k:Int)+1)=((k+1:Nat):Int):=by rw[Xy (by omega) (by omega)];omega
   have j4:(0:Int)≤(k:Int)+1:=by omega
   have j5:(k:Int)+1<(h.length:Int):=by omega
   simp only at hxk hyk
   go_wp2_with fail
   refine wp_region_held_drew (S:=(fun w'=>w'.cell? ⟨b0,off+k * 3,none⟩=some (.int .i64 tx)∧w'.cell? ⟨b0,off+k * 3+1,none⟩=some (.int .i64 kx)∧w'.cell? ⟨b0,off+k * 3+2,none⟩=some (.int .i64 ix)∧w'.cell? ⟨b0,off+(k+1) * 3,none⟩=some (.int .i64 ty)∧w'.cell? ⟨b0,off+(k+1) * 3+1,none⟩=some (.int .i64 ky)∧w'.cell? ⟨b0,off+(k+1) * 3+2,none⟩=some (.int .i64 iy))) (by kernel_rfl) K0 (fun hHeld=>?_);refine wpAnyH_take (i:=0) (v:=.slice (some ⟨b0,off,none⟩) h.length hcap) rfl (by kernel_rfl) (by kernel_rfl) (by kernel_rfl) (fun _ _ _ h=>h) (Or.inl ⟨by kernel_rfl,fun w' hw'=>?_⟩) hHeld ?_
   ·obtain⟨p0,p1,p2,p3,p4,p5⟩:=hw';go_simp
   simp only[Act.put,A0,A1,A2,A3,A4,A5];refine wpAnyH_take (i:=1) (v:=.int .i64 k) rfl (by kernel_rfl) (by kernel_rfl) (by kernel_rfl) (fun _ _ _ h=>h) (Or.inl ⟨by kernel_rfl,fun w' hw'=>?_⟩) hHeld ?_
   ·obtain⟨p0,p1,p2,p3,p4,p5⟩:=hw';go_simp
   simp only[Act.put,A0,A1,A2,A3,A4,A5];refine wpAnyH_take (i:=2) (v:=.pointer (some ⟨b0,off+k * 3,none⟩)) rfl (by kernel_rfl) (by kernel_rfl) (by kernel_rfl) (fun _ _ _ h=>h) (Or.inl ⟨by kernel_rfl,fun w' hw'=>?_⟩) hHeld ?_
   ·obtain⟨p0,p1,p2,p3,p4,p5⟩:=hw';go_simp
   simp only[Act.put,A0,A1,A2,A3,A4,A5];refine wpAnyH_take (i:=3) (v:=.agg #[.int .i64 tx,.int .i64 kx,.int .i64 ix]) rfl (by kernel_rfl) (by kernel_rfl) (by kernel_rfl) (fun _ _ _ h=>h) (Or.inl ⟨by kernel_rfl,fun w' hw'=>?_⟩) hHeld ?_
   ·obtain⟨p0,p1,p2,p3,p4,p5⟩:=hw';go_simp
   simp only[Act.put,A0,A1,A2,A3,A4,A5];refine wpAnyH_take (i:=4) (v:=.slice (some ⟨b0,off,none⟩) h.length hcap) rfl (by kernel_rfl) (by kernel_rfl) (by kernel_rfl) (fun _ _ _ h=>h) (Or.inl ⟨by kernel_rfl,fun w' hw'=>?_⟩) hHeld ?_
   ·obtain⟨p0,p1,p2,p3,p4,p5⟩:=hw';go_simp
   simp only[Act.put,A0,A1,A2,A3,A4,A5];refine wpAnyH_take (i:=5) (v:=.int .i64 k) rfl (by kernel_rfl) (by kernel_rfl) (by kernel_rfl) (fun _ _ _ h=>h) (Or.inl ⟨by kernel_rfl,fun w' hw'=>?_⟩) hHeld ?_
   ·obtain⟨p0,p1,p2,p3,p4,p5⟩:=hw';go_simp
   simp only[Act.put,A0,A1,A2,A3,A4,A5];refine wpAnyH_take (i:=6) (v:=.int .i64 (k+1:Nat)) rfl (by kernel_rfl) (by kernel_rfl) (by kernel_rfl) (fun _ _ _ h=>h) (Or.inl ⟨by kernel_rfl,fun w' hw'=>?_⟩) hHeld ?_
   ·obtain⟨p0,p1,p2,p3,p4,p5⟩:=hw';go_simp
   simp only[Act.put,A0,A1,A2,A3,A4,A5];refine wpAnyH_take (i:=7) (v:=.pointer (some ⟨b0,off+(k+1) * 3,none⟩)) rfl (by kernel_rfl) (by kernel_rfl) (by kernel_rfl) (fun _ _ _ h=>h) (Or.inl ⟨by kernel_rfl,fun w' hw'=>?_⟩) hHeld ?_
   ·obtain⟨p0,p1,p2,p3,p4,p5⟩:=hw';go_simp
   simp only[Act.put,A0,A1,A2,A3,A4,A5];refine wpAnyH_take (i:=8) (v:=.agg #[.int .i64 ty,.int .i64 ky,.int .i64 iy]) rfl (by kernel_rfl) (by kernel_rfl) (by kernel_rfl) (fun _ _ _ h=>h) (Or.inl ⟨by kernel_rfl,fun w' hw'=>?_⟩) hHeld ?_
   ·obtain⟨p0,p1,p2,p3,p4,p5⟩:=hw';go_simp
   simp only[Act.put,A0,A1,A2,A3,A4,A5];apply merge
   ·intro hp;refine wpAnyH_ready (rs:=[9,10]) (by kernel_rfl) (by simp) (AllReadyH.cons rfl (fun K hK=>?_) (AllReadyH.cons rfl (fun K hK=>?_) AllReadyH.nil))
    ·rw[if_pos (by kernel_rfl)];go_simp;refine hK.out _ _ (KS _ (C6.alloc (.cells #[.int .i64 0,.int .i64 0,.int .i64 0] 43))) (fun hHeld=>?_);clear hK K;refine wpAnyH_ready (rs:=[10]) (by kernel_rfl) (by simp) (AllReadyH.cons rfl (fun K hK=>?_) AllReadyH.nil);rw[if_pos (by kernel_rfl)];go_simp;refine hK.out _ _ (KS _ ((C6.alloc (.cells #[.int .i64 0,.int .i64 0,.int .i64 0] 43)).alloc (.cells #[.int .i64 0,.int .i64 0,.int .i64 0] 43))) (fun hHeld=>?_);clear hK K;refine wpAnyH_ready (rs:=[11]) (by kernel_rfl) (by simp) (AllReadyH.cons rfl (fun K hK=>?_) AllReadyH.nil);rw[if_pos (by kernel_rfl)];go_simp;refine hK.out _ _ (KS _ ((C6.alloc (.cells #[.int .i64 tx,.int .i64 kx,.int .i64 ix] 43)).alloc (.cells #[.int .i64 0,.int .i64 0,.int .i64 0] 43))) (fun hHeld=>?_);clear hK K;refine wpAnyH_ready (rs:=[12]) (by kernel_rfl) (by simp) (AllReadyH.cons rfl (fun K hK=>?_) AllReadyH.nil);rw[if_pos (by kernel_rfl)];go_simp;refine hK.out _ _ (KS _ ((C6.alloc (.cells #[.int .i64 tx,.int .i64 kx,.int .i64 ix] 43)).alloc (.cells #[.int .i64 ty,.int .i64 ky,.int .i64 iy] 43))) (fun hHeld=>?_);clear hK K;refine wpAnyH_done (by kernel_rfl) ?_ _;obtain⟨w8,ew8⟩:∃ w8,w8=((w6.alloc (.cells #[.int .i64 tx,.int .i64 kx,.int .i64 ix] 43)).alloc (.cells #[.int .i64 ty,.int .i64 ky,.int .i64 iy] 43)).drew:=⟨_,rfl⟩
     have z8:w8.heap.size=w6.heap.size+1+1:=by rw[ew8];exact (by simp:((w6.alloc (.cells #[.int .i64 tx,.int .i64 kx,.int .i64 ix] 43)).alloc (.cells #[.int .i64 ty,.int .i64 ky,.int .i64 iy] 43)).heap.size=w6.heap.size+1+1)
     have n11:w8.heap[w6.heap.size]? = some (.cells #[.int .i64 tx,.int .i64 kx,.int .i64 ix] 43 (0,0)):=by rw[ew8];exact (heap_alloc_old _ _ (by simp)).trans (heap_alloc_new _ _)
     have n12:w8.heap[w6.heap.size+1]? = some (.cells #[.int .i64 ty,.int .i64 ky,.int .i64 iy] 43 (0,0)):=by
      rw[ew8]
      have e1:(w6.alloc (.cells #[.int .i64 tx,.int .i64 kx,.int .i64 ix] 43)).heap.size=w6.heap.size+1:=by simp
      have:=heap_alloc_new (w6.alloc (.cells #[.int .i64 tx,.int .i64 kx,.int .i64 ix] 43)) (.cells #[.int .i64 ty,.int .i64 ky,.int .i64 iy] 43);rw[e1]at this;exact this
     have B68:Below w6.heap.size w6 w8:=by rw[ew8];exact (((Below.refl _ _).alloc (A8 _) _).alloc (by simp) _).trans ⟨rfl,rfl,rfl,A8 _,fun _ _=>rfl⟩
     obtain⟨bp,hbp⟩:∃ bp,bp=w6.heap.size:=⟨_,rfl⟩;obtain⟨bq,hbq⟩:∃ bq,bq=w6.heap.size+1:=⟨_,rfl⟩;rw[← hbp]at n11;rw[← hbq]at n12;have HW8:=(show Hid (w8=_) from ew8);have HP:=(show Hid (bp=_) from hbp);have HQ:=(show Hid (bq=_) from hbq);clear ew8 hbp hbq hHeld;rw[← HW8.out,← HQ.out,← HP.out];have F:w8.heap.size=w6.heap.size+1+1∧w8.heap[bp]? = some (.cells #[.int .i64 tx,.int .i64 kx,.int .i64 ix] 43 (0,0))∧w8.heap[bq]? = some (.cells #[.int .i64 ty,.int .i64 ky,.int .i64 iy] 43 (0,0))∧Below w6.heap.size w6 w8:=⟨z8,n11,n12,B68⟩;clear HW8 HP HQ z8 n11 n12 B68
     revert F
     revert bq
     revert bp
     revert w8
     exact hp.out
    ·rw[if_pos (by kernel_rfl)];go_simp;refine hK.out _ _ (KS _ (C6.alloc (.cells #[.int .i64 0,.int .i64 0,.int .i64 0] 43))) (fun hHeld=>?_);clear hK K;refine wpAnyH_ready (rs:=[9]) (by kernel_rfl) (by simp) (AllReadyH.cons rfl (fun K hK=>?_) AllReadyH.nil);rw[if_pos (by kernel_rfl)];go_simp;refine hK.out _ _ (KS _ ((C6.alloc (.cells #[.int .i64 0,.int .i64 0,.int .i64 0] 43)).alloc (.cells #[.int .i64 0,.int .i64 0,.int .i64 0] 43))) (fun hHeld=>?_);clear hK K;refine wpAnyH_ready (rs:=[11]) (by kernel_rfl) (by simp) (AllReadyH.cons rfl (fun K hK=>?_) AllReadyH.nil);rw[if_pos (by kernel_rfl)];go_simp;refine hK.out _ _ (KS _ ((C6.alloc (.cells #[.int .i64 0,.int .i64 0,.int .i64 0] 43)).alloc (.cells #[.int .i64 tx,.int .i64 kx,.int .i64 ix] 43))) (fun hHeld=>?_);clear hK K;refine wpAnyH_ready (rs:=[12]) (by kernel_rfl) (by simp) (AllReadyH.cons rfl (fun K hK=>?_) AllReadyH.nil);rw[if_pos (by kernel_rfl)];go_simp;refine hK.out _ _ (KS _ ((C6.alloc (.cells #[.int .i64 ty,.int .i64 ky,.int .i64 iy] 43)).alloc (.cells #[.int .i64 tx,.int .i64 kx,.int .i64 ix] 43))) (fun hHeld=>?_);clear hK K;refine wpAnyH_done (by kernel_rfl) ?_ _;obtain⟨w8,ew8⟩:∃ w8,w8=((w6.alloc (.cells #[.int .i64 ty,.int .i64 ky,.int .i64 iy] 43)).alloc (.cells #[.int .i64 tx,.int .i64 kx,.int .i64 ix] 43)).drew:=⟨_,rfl⟩
     have z8:w8.heap.size=w6.heap.size+1+1:=by rw[ew8];exact (by simp:((w6.alloc (.cells #[.int .i64 ty,.int .i64 ky,.int .i64 iy] 43)).alloc (.cells #[.int .i64 tx,.int .i64 kx,.int .i64 ix] 43)).heap.size=w6.heap.size+1+1)
     have n12:w8.heap[w6.heap.size]? = some (.cells #[.int .i64 ty,.int .i64 ky,.int .i64 iy] 43 (0,0)):=by rw[ew8];exact (heap_alloc_old _ _ (by simp)).trans (heap_alloc_new _ _)
     have n11:w8.heap[w6.heap.size+1]? = some (.cells #[.int .i64 tx,.int .i64 kx,.int .i64 ix] 43 (0,0)):=by
      rw[ew8]
      have e1:(w6.alloc (.cells #[.int .i64 ty,.int .i64 ky,.int .i64 iy] 43)).heap.size=w6.heap.size+1:=by simp
      have:=heap_alloc_new (w6.alloc (.cells #[.int .i64 ty,.int .i64 ky,.int .i64 iy] 43)) (.cells #[.int .i64 tx,.int .i64 kx,.int .i64 ix] 43);rw[e1]at this;exact this
     have B68:Below w6.heap.size w6 w8:=by rw[ew8];exact (((Below.refl _ _).alloc (A8 _) _).alloc (by simp) _).trans ⟨rfl,rfl,rfl,A8 _,fun _ _=>rfl⟩
     obtain⟨bp,hbp⟩:∃ bp,bp=w6.heap.size+1:=⟨_,rfl⟩;obtain⟨bq,hbq⟩:∃ bq,bq=w6.heap.size:=⟨_,rfl⟩;rw[← hbp]at n11;rw[← hbq]at n12;have HW8:=(show Hid (w8=_) from ew8);have HP:=(show Hid (bp=_) from hbp);have HQ:=(show Hid (bq=_) from hbq);clear ew8 hbp hbq hHeld;rw[← HW8.out,← HP.out,← HQ.out];have F:w8.heap.size=w6.heap.size+1+1∧w8.heap[bp]? = some (.cells #[.int .i64 tx,.int .i64 kx,.int .i64 ix] 43 (0,0))∧w8.heap[bq]? = some (.cells #[.int .i64 ty,.int .i64 ky,.int .i64 iy] 43 (0,0))∧Below w6.heap.size w6 w8:=⟨z8,n11,n12,B68⟩;clear HW8 HP HQ z8 n11 n12 B68
     revert F
     revert bq
     revert bp
     revert w8
     exact hp.out
   ·intro w8 bp bq F;obtain⟨z8,n11,n12,B68⟩:=F;have C8:=C6.below B68;have B08:Below w.heap.size w w8:=B06.trans (B68.mono B06.size)
    have cbp0:w8.cell? ⟨bp,0,none⟩=some (.int .i64 tx):=by simp[A6,n11]
    have cbp1:w8.cell? ⟨bp,1,none⟩=some (.int .i64 kx):=by simp[A6,n11]
    have cbp2:w8.cell? ⟨bp,2,none⟩=some (.int .i64 ix):=by simp[A6,n11]
    have cbq0:w8.cell? ⟨bq,0,none⟩=some (.int .i64 ty):=by simp[A6,n12]
    have cbq1:w8.cell? ⟨bq,1,none⟩=some (.int .i64 ky):=by simp[A6,n12]
    have cbq2:w8.cell? ⟨bq,2,none⟩=some (.int .i64 iy):=by simp[A6,n12]
    by_cases d1:tx=ty
    ·have d1':(tx == ty)=true:=by simp[d1]
     go_wp2_with fail
     refine Calls.mono (hawk.out w8 B08 C8) ?_
     rintro e w9 ⟨M9,rfl,hB9,s9,C9,p9⟩
     go_wp2
     go_ret
     exact⟨_,M9,rfl,hB9,s9,C9,p9,.bool _,trivial⟩
    by_cases d2:kx > 1
    ·go_wp2_with fail
     refine Calls.mono (hawk.out w8 B08 C8) ?_
     rintro e w9 ⟨M9,rfl,hB9,s9,C9,p9⟩
     go_wp2
     go_ret
     exact⟨_,M9,rfl,hB9,s9,C9,p9,.bool _,trivial⟩
    by_cases d3:ky > 1
    ·go_wp2_with fail
     refine Calls.mono (hawk.out w8 B08 C8) ?_
     rintro e w9 ⟨M9,rfl,hB9,s9,C9,p9⟩
     go_wp2
     go_ret
     exact⟨_,M9,rfl,hB9,s9,C9,p9,.bool _,trivial⟩
    have j6:A7 .i64 (kx+ky)=kx+ky:=Xy (by omega) (by omega);by_cases d4:ix=iy∧kx+ky > 0
    ·obtain⟨d4,d5⟩:=d4
     go_wp2_with fail
     refine Calls.mono (hawk.out w8 B08 C8) ?_
     rintro e w9 ⟨M9,rfl,hB9,s9,C9,p9⟩
     go_wp2
     go_ret
     exact⟨_,M9,rfl,hB9,s9,C9,p9,.bool _,trivial⟩
    ·have htk:h.take 43=h:=B7 (by omega);by_cases d6:ix=iy
     ·have d7:¬ (kx+ky > 0):=fun e=>d4 ⟨d6,e⟩
      have d8:=(show Hid (ix=iy) from d6)
      go_wp2_with fail
      clear d6;refine Calls.mono (c18 M6 w8 C8 R6) ?_
      rintro e w9 ⟨f9,M9,rfl,hB9,s9,C9,p9,r9,ow9⟩
      rw[htk]at r9 ow9;obtain⟨fa9,fcap9,rfl,hcell9⟩:=Zk (R.setLab (l':=none) r9);rw[A9]at ow9 ⊢
      obtain⟨g,o9,cur,rfl,hge,hg9,hsz,hlc⟩:∃ g o9 cur,fa9=some ⟨g,o9,none⟩∧w8.heap.size≤g∧w9.heap[g]? = some (.cells cur 44 (0,0))∧cur.size=o9+fcap9 * 3∧h.length≤fcap9:=by
       unfold OwnR l44 at ow9
       rcases ow9 with ⟨ad,hv'⟩ | ⟨g,o9,cap9,cur,hv',k1,k2,k3,k4,_⟩
       ·simp only[Value.slice.injEq]at hv';omega
       ·simp only[Value.slice.injEq]at hv';obtain⟨q1,q2,q3⟩:=hv';subst q3;exact⟨g,o9,cur,q1,k1,k2,k3,by simpa using k4⟩
      have hcur:∀ (i:Nat) (z:rf5Op),h[i]? = some z→cur[o9+i * 3]? = some (.int .i64 z.qa)∧cur[o9+i * 3+1]? = some (.int .i64 z.qb)∧cur[o9+i * 3+2]? = some (.int .i64 z.qc):=by
       intro i z hz;obtain⟨b,off',hb,k1,k2,k3⟩:=hcell9 i (cv z) (by rw[B6,hz];rfl)
       obtain⟨rfl,rfl⟩:g=b∧o9=off':=by simpa using hb
       have u1:=qu (C9 _ _ _ k1) rfl;have u2:=qu (C9 _ _ _ k2) rfl;have u3:=qu (C9 _ _ _ k3) rfl;simp only[A6,hg9]at u1 u2 u3;exact⟨u1,u2,u3⟩
      have hcx:=hcur k _ hx;have hcy:=hcur (k+1) _ hy;simp only at hcx hcy;obtain⟨xx,xk,xi⟩:=hcx;obtain⟨yx,yk,yi⟩:=hcy;have hB89:Below w6.heap.size w6 w9:=B68.trans (hB9.mono (by omega))
      have hbn:k * 3+3≤(k+1) * 3:=by omega
      have hq9:o9+(k+1) * 3+3≤cur.size:=by rw[hsz];have:(k+2) * 3≤fcap9 * 3:=Nat.mul_le_mul (by omega) (A8 _);omega
      have kx0:w9.cell? ⟨g,o9+k * 3,none⟩=some (.int .i64 tx):=by simp only[A6,hg9];exact xx
      have kx1:w9.cell? ⟨g,o9+k * 3+1,none⟩=some (.int .i64 kx):=by simp only[A6,hg9];exact xk
      have kx2:w9.cell? ⟨g,o9+k * 3+2,none⟩=some (.int .i64 ix):=by simp only[A6,hg9];exact xi
      have ky0:w9.cell? ⟨g,o9+(k+1) * 3,none⟩=some (.int .i64 ty):=by simp only[A6,hg9];exact yx
      have ky1:w9.cell? ⟨g,o9+(k+1) * 3+1,none⟩=some (.int .i64 ky):=by simp only[A6,hg9];exact yk
      have ky2:w9.cell? ⟨g,o9+(k+1) * 3+2,none⟩=some (.int .i64 iy):=by simp only[A6,hg9];exact yi
      have fr9:∀ j,w9.frozen? ⟨g,j,none⟩=false:=fun j=>by simp[World.frozen?,hg9]
      clear r9 ow9 hcell9
      go_wp2
      refine wp_region_held_drew (S:=fun _=>True) (by kernel_rfl) trivial (fun hHeld=>?_);refine wpAnyH_take (i:=0) (v:=.slice (some ⟨g,o9,none⟩) h.length fcap9) rfl (by kernel_rfl) (by kernel_rfl) (by kernel_rfl) (fun _ _ _ h=>h) (Or.inl ⟨by kernel_rfl,fun w' hw'=>?_⟩) hHeld ?_
      ·go_simp
      simp only[Act.put,A0,A1,A2,A3,A4,A5];refine wpAnyH_take (i:=1) (v:=.int .i64 k) rfl (by kernel_rfl) (by kernel_rfl) (by kernel_rfl) (fun _ _ _ h=>h) (Or.inl ⟨by kernel_rfl,fun w' hw'=>?_⟩) hHeld ?_
      ·go_simp
      simp only[Act.put,A0,A1,A2,A3,A4,A5];refine wpAnyH_take (i:=2) (v:=.slice (some ⟨g,o9,none⟩) h.length fcap9) rfl (by kernel_rfl) (by kernel_rfl) (by kernel_rfl) (fun _ _ _ h=>h) (Or.inl ⟨by kernel_rfl,fun w' hw'=>?_⟩) hHeld ?_
      ·go_simp
      simp only[Act.put,A0,A1,A2,A3,A4,A5];refine wpAnyH_take (i:=3) (v:=.int .i64 k) rfl (by kernel_rfl) (by kernel_rfl) (by kernel_rfl) (fun _ _ _ h=>h) (Or.inl ⟨by kernel_rfl,fun w' hw'=>?_⟩) hHeld ?_
      ·go_simp
      simp only[Act.put,A0,A1,A2,A3,A4,A5];refine wpAnyH_take (i:=4) (v:=.int .i64 ((k:Int)+1)) rfl (by kernel_rfl) (by kernel_rfl) (by kernel_rfl) (fun _ _ _ h=>h) (Or.inl ⟨by kernel_rfl,fun w' hw'=>?_⟩) hHeld ?_
      ·go_simp
      simp only[Act.put,A0,A1,A2,A3,A4,A5];refine wpAnyH_take (i:=5) (v:=.slice (some ⟨g,o9,none⟩) h.length fcap9) rfl (by kernel_rfl) (by kernel_rfl) (by kernel_rfl) (fun _ _ _ h=>h) (Or.inl ⟨by kernel_rfl,fun w' hw'=>?_⟩) hHeld ?_
      ·go_simp
      simp only[Act.put,A0,A1,A2,A3,A4,A5];refine wpAnyH_take (i:=6) (v:=.int .i64 k) rfl (by kernel_rfl) (by kernel_rfl) (by kernel_rfl) (fun _ _ _ h=>h) (Or.inl ⟨by kernel_rfl,fun w' hw'=>?_⟩) hHeld ?_
      ·go_simp
      simp only[Act.put,A0,A1,A2,A3,A4,A5];refine wpAnyH_take (i:=7) (v:=.int .i64 ((k:Int)+1)) rfl (by kernel_rfl) (by kernel_rfl) (by kernel_rfl) (fun _ _ _ h=>h) (Or.inl ⟨by kernel_rfl,fun w' hw'=>?_⟩) hHeld ?_
      ·go_simp
      simp only[Act.put,A0,A1,A2,A3,A4,A5];refine wpAnyH_take (i:=8) (v:=.pointer (some ⟨g,o9+(k+1) * 3,none⟩)) rfl (by kernel_rfl) (by kernel_rfl) (by kernel_rfl) (fun _ _ _ h=>h) (Or.inl ⟨by kernel_rfl,fun w' hw'=>?_⟩) hHeld ?_
      ·go_simp
      simp only[Act.put,A0,A1,A2,A3,A4,A5];refine wpAnyH_take (i:=10) (v:=.slice (some ⟨g,o9,none⟩) h.length fcap9) rfl (by kernel_rfl) (by kernel_rfl) (by kernel_rfl) (fun _ _ _ h=>h) (Or.inl ⟨by kernel_rfl,fun w' hw'=>?_⟩) hHeld ?_
      ·go_simp
      simp only[Act.put,A0,A1,A2,A3,A4,A5];refine wpAnyH_take (i:=11) (v:=.int .i64 k) rfl (by kernel_rfl) (by kernel_rfl) (by kernel_rfl) (fun _ _ _ h=>h) (Or.inl ⟨by kernel_rfl,fun w' hw'=>?_⟩) hHeld ?_
      ·go_simp
      simp only[Act.put,A0,A1,A2,A3,A4,A5];refine wpAnyH_take (i:=12) (v:=.pointer (some ⟨g,o9+k * 3,none⟩)) rfl (by kernel_rfl) (by kernel_rfl) (by kernel_rfl) (fun _ _ _ h=>h) (Or.inl ⟨by kernel_rfl,fun w' hw'=>?_⟩) hHeld ?_
      ·go_simp
      simp only[Act.put,A0,A1,A2,A3,A4,A5];apply merge
      ·intro hp;refine wpAnyH_ready (rs:=[9,13]) (by kernel_rfl) (by simp) (AllReadyH.cons rfl (fun K hK=>?_) (AllReadyH.cons rfl (fun K hK=>?_) AllReadyH.nil))
       ·rw[if_pos (by kernel_rfl)];go_simp;refine hK.out _ _ trivial (fun hHeld=>?_);clear hK K;refine wpAnyH_ready (rs:=[13]) (by kernel_rfl) (by simp) (AllReadyH.cons rfl (fun K hK=>?_) AllReadyH.nil);rw[if_pos (by kernel_rfl)];go_simp;refine hK.out _ _ trivial (fun hHeld=>?_);clear hK K;exact hp.out
       ·rw[if_pos (by kernel_rfl)];go_simp;refine hK.out _ _ trivial (fun hHeld=>?_);clear hK K;refine wpAnyH_ready (rs:=[9]) (by kernel_rfl) (by simp) (AllReadyH.cons rfl (fun K hK=>?_) AllReadyH.nil);rw[if_pos (by kernel_rfl)];go_simp;refine hK.out _ _ trivial (fun hHeld=>?_);clear hK K;exact hp.out
      ·clear hHeld;have hHeld:True:=trivial;refine wpAnyH_take (i:=14) (v:=.pointer (some ⟨g,o9+k * 3,none⟩)) rfl (by kernel_rfl) (by kernel_rfl) (by kernel_rfl) (fun _ _ _ h=>h) (Or.inl ⟨by kernel_rfl,fun w' hw'=>?_⟩) hHeld ?_
       ·go_simp
       simp only[Act.put,A0,A1,A2,A3,A4,A5];refine wpAnyH_ready (rs:=[15]) (by kernel_rfl) (by simp) (AllReadyH.cons rfl (fun K hK=>?_) AllReadyH.nil);rw[if_pos (by kernel_rfl)];go_simp;refine hK.out _ _ trivial (fun hHeld=>?_);clear hK K;refine wpAnyH_take (i:=16) (v:=.pointer (some ⟨g,o9+(k+1) * 3,none⟩)) rfl (by kernel_rfl) (by kernel_rfl) (by kernel_rfl) (fun _ _ _ h=>h) (Or.inl ⟨by kernel_rfl,fun w' hw'=>?_⟩) hHeld ?_
       ·go_simp
       simp only[Act.put,A0,A1,A2,A3,A4,A5];refine wpAnyH_ready (rs:=[17]) (by kernel_rfl) (by simp) (AllReadyH.cons rfl (fun K hK=>?_) AllReadyH.nil);rw[if_pos (by kernel_rfl)];go_simp;refine hK.out _ _ trivial (fun hHeld=>?_);clear hK K;refine wpAnyH_done (by kernel_rfl) ?_ _;obtain⟨w11,ew11⟩:∃ w11,w11=((((((w9.setCell ⟨g,o9+k * 3,none⟩ (.int .i64 ty)).setCell ⟨g,o9+k * 3+1,none⟩ (.int .i64 ky)).setCell ⟨g,o9+k * 3+2,none⟩ (.int .i64 iy)).setCell ⟨g,o9+(k+1) * 3,none⟩ (.int .i64 tx)).setCell ⟨g,o9+(k+1) * 3+1,none⟩ (.int .i64 kx)).setCell ⟨g,o9+(k+1) * 3+2,none⟩ (.int .i64 ix)).drew:=⟨_,rfl⟩;rw[← ew11];obtain⟨c6,hc6⟩:∃ c6,c6=(((((cur.setIfInBounds (o9+k * 3) (.int .i64 ty)).setIfInBounds (o9+k * 3+1) (.int .i64 ky)).setIfInBounds (o9+k * 3+2) (.int .i64 iy)).setIfInBounds (o9+(k+1) * 3) (.int .i64 tx)).setIfInBounds (o9+(k+1) * 3+1) (.int .i64 kx)).setIfInBounds (o9+(k+1) * 3+2) (.int .i64 ix):=⟨_,rfl⟩
       have dh:∀ (w:World),w.drew.heap=w.heap:=fun _=>rfl
       have n11':w11.heap[g]? = some (.cells c6 44 (0,0)):=by
        rw[ew11,dh,hc6];exact qF (.int .i64 ix) (qF (.int .i64 kx) (qF (.int .i64 tx) (qF (.int .i64 iy) (qF (.int .i64 ky) (qF (.int .i64 ty) hg9)))))
       have b11:∀ j,j≠g→w11.heap[j]? = w9.heap[j]?:=fun j hj=>by
        rw[ew11];rw[dh,qr hj,qr hj,qr hj,qr hj,qr hj,qr hj]
       have e11:w11.os=w9.os∧w11.tape=w9.tape∧w11.output=w9.output∧w11.heap.size=w9.heap.size:=by
        have so:∀ (w:World) a v,(w.setCell a v).os=w.os:=fun _ _ _=>rfl
        have st:∀ (w:World) a v,(w.setCell a v).tape=w.tape:=fun _ _ _=>rfl
        have sp:∀ (w:World) a v,(w.setCell a v).output=w.output:=fun _ _ _=>rfl
        have do':∀ (w:World),w.drew.os=w.os:=fun _=>rfl
        have dt:∀ (w:World),w.drew.tape=w.tape:=fun _=>rfl
        have dp:∀ (w:World),w.drew.output=w.output:=fun _=>rfl
        rw[ew11];simp only[do',dt,dp,dh,so,st,sp,Ju,and_self]
       have z9:=hB9.size;have B811:Below w8.heap.size w8 w11:=⟨e11.1.trans hB9.os,e11.2.1.trans hB9.tape,e11.2.2.1.trans hB9.output,by rw[e11.2.2.2];exact z9,fun j hj=>by rw[b11 j (by omega)];exact hB9.block j hj⟩;have B611:Below w6.heap.size w6 w11:=B68.trans (B811.mono (by omega));have B011:Below w.heap.size w w11:=B06.trans (B611.mono B06.size)
       have hs:swapB ⟨tx,kx,ix⟩ ⟨ty,ky,iy⟩=true:=by
        have q1:(tx != ty)=true:=by simpa using d1
        have q2:clash ⟨tx,kx,ix⟩ ⟨ty,ky,iy⟩=false:=by
         unfold clash;simp only;by_cases e:ix=iy
         ·have d9:¬ (kx+ky > 0):=fun h=>d4 ⟨e,h⟩
          have:(if ky > kx then ky else kx)=0:=by split <;> omega
          rw[this];simp
         ·have:(ix == iy)=false:=by simpa using e
          rw[this];simp
        unfold swapB;rw[q2]
        simpa using q1
       obtain⟨h',hsw,hl',hy',hx',hoth⟩:=UL hx hy hs;obtain⟨s0,s1,s2,s3,s4,s5,srest⟩:=VG hq9 (by omega) _ _ _ _ _ _ hc6
       have hMg:∀ o,M6 g o=none:=fun o=>by
        cases hm:M6 g o with
        | none=>rfl
        | some u=>have:=XV (C6 _ _ _ hm);omega
       obtain⟨Mx,eMx⟩:∃ Mx,Mx=mblk M6 (mc w11) g:=⟨_,rfl⟩
       have Cx:Cons Mx w11:=by rw[eMx];exact Yy (C6.below B611) (fun b o u hu=>hu)
       have sx:Sub M6 Mx:=by rw[eMx];exact Yg hMg
       have px:∀ b o,b<w.heap.size→Mx b o=M b o:=fun b o hb=>by
        have:=B06.size;rw[eMx];unfold mblk;rw[if_neg (by omega)];exact old6 b o hb
       have cx:∀ j u,c6[j]? = some u→isTup u=false→Mx g j=some u:=fun j u hu ht=>by
        rw[eMx];unfold mblk;rw[if_pos rfl];exact XW n11' hu ht
       have Rx:R Mx (l44 none (h'.map cv)) (.slice (some ⟨g,o9,none⟩) h.length fcap9):=by
        have e1:(h'.map cv).length=h.length:=by rw[A9,hl']
        rw[← e1];refine qbS (by omega) (fun i z hz=>?_);rw[B6]at hz;obtain⟨z',hz',rfl⟩:=Option.map_eq_some_iff.1 hz;by_cases i1:i=k
        ·subst i1;rw[hy']at hz';cases hz';exact⟨cx _ _ s0 rfl,cx _ _ s1 rfl,cx _ _ s2 rfl⟩
        by_cases i2:i=k+1
        ·subst i2;rw[hx']at hz';cases hz';exact⟨cx _ _ s3 rfl,cx _ _ s4 rfl,cx _ _ s5 rfl⟩
        rw[hoth i i1 i2]at hz';obtain⟨k1,k2,k3⟩:=hcur i z' hz';exact⟨cx _ _ ((srest _ (by omega)).trans k1) rfl,cx _ _ ((srest _ (by omega)).trans k2) rfl,cx _ _ ((srest _ (by omega)).trans k3) rfl⟩
       have htk':h'.take 43=h':=B7 (by omega);have v1:=ZQ h';have v2:=ZW h';have v3':=VD h';rw[htk',← hsw.order,← Ha.out]at v1;rw[htk',← hsw.cycle,← Hb.out]at v2;rw[htk',← hsw.view,← Hc.out]at v3'
       have la:a.1.length≤100:=by rw[Ha.out];exact Na h
       have lb:b.1.length≤100:=by rw[Hb.out];exact NC h
       have lc:c.1.length≤100:=by rw[Hc.out];exact Hy h
       have q6:=B06.size;have q11:=B611.size;have K17:=jg (QE bigFuel _ a v1) Mx w11 [.slice (some ⟨g,o9,none⟩) h.length fcap9] (glob0 Mx) Cx rfl (fun j a b ha hb=>by match j,ha,hb with | 0,ha,hb=>cases ha;cases hb;exact Rx);have HE:=(show Hid _ from ew11);clear dh ew11 hc6 s0 s1 s2 s3 s4 s5 srest hcur xx xk xi yx yk yi kx0 kx1 kx2 ky0 ky1 ky2 fr9 hHeld
       go_wp2_with fail
       refine Calls.mono K17 ?_
       rintro e w12 ⟨f12,M12,rfl,B12,S12,C12,P12,R12,_⟩
       obtain⟨va',ia',rfl,ra',ri'⟩:=Jt R12;obtain rfl:ia'=.int .i64 a.2:=ri'.int_inv;have K19:=jg (.ext0 (cycle19 v2)) M12 w12 [.slice (some ⟨g,o9,none⟩) h.length fcap9] (glob0 M12) C12 rfl (fun j a b ha hb=>by match j,ha,hb with | 0,ha,hb=>cases ha;cases hb;exact Rx.mono S12)
       go_wp2_with fail
       refine Calls.mono K19 ?_
       rintro e w13 ⟨f13,M13,rfl,B13,S13,C13,P13,R13,_⟩
       obtain⟨vb',ib',rfl,rb',ri'⟩:=Jt R13;obtain rfl:ib'=.int .i64 b.2:=ri'.int_inv;have K30:=jg (.ext0 (view30 v3')) M13 w13 [.slice (some ⟨g,o9,none⟩) h.length fcap9] (glob0 M13) C13 rfl (fun j a b ha hb=>by match j,ha,hb with | 0,ha,hb=>cases ha;cases hb;exact Rx.mono (Sub.trans S12 S13))
       go_wp2_with fail
       refine Calls.mono K30 ?_
       rintro e w14 ⟨f14,M14,rfl,B14,S14,C14,P14,R14,_⟩
       obtain⟨vc',ic',rfl,rc',ri'⟩:=Jt R14;obtain rfl:ic'=.int .i64 c.2:=ri'.int_inv
       have KA':=jg (jc a.1 a.1 true (Qi (by omega))) M14 w14 [va,va'] (glob0 M14) C14 rfl (fun j x y hx hy=>by
        match j,hx,hy with
        | 0,hx,hy=>cases hx;cases hy;exact ra6.mono (Sub.trans sx (Sub.trans S12 (Sub.trans S13 S14)))
        | 1,hx,hy=>cases hx;cases hy;exact ra'.mono (Sub.trans S13 S14))
       go_wp2_with fail
       refine Calls.mono KA' ?_
       rintro e w15 ⟨f15,M15,rfl,B15,S15,C15,P15,R15,_⟩
       cases R15
       have KB':=jg (jc b.1 b.1 true (Qi (by omega))) M15 w15 [vb,vb'] (glob0 M15) C15 rfl (fun j x y hx hy=>by
        match j,hx,hy with
        | 0,hx,hy=>cases hx;cases hy;exact rb6.mono (Sub.trans sx (Sub.trans S12 (Sub.trans S13 (Sub.trans S14 S15))))
        | 1,hx,hy=>cases hx;cases hy;exact rb'.mono (Sub.trans S14 S15))
       go_wp2_with fail
       refine Calls.mono KB' ?_
       rintro e w16 ⟨f16,M16,rfl,B16,S16,C16,P16,R16,_⟩
       cases R16
       have KC':=jg (jc c.1 c.1 true (Qi (by omega))) M16 w16 [vc,vc'] (glob0 M16) C16 rfl (fun j x y hx hy=>by
        match j,hx,hy with
        | 0,hx,hy=>cases hx;cases hy;exact rc.mono (Sub.trans sx (Sub.trans S12 (Sub.trans S13 (Sub.trans S14 (Sub.trans S15 S16)))))
        | 1,hx,hy=>cases hx;cases hy;exact rc'.mono (Sub.trans S15 S16))
       go_wp2_with fail
       refine Calls.mono KC' ?_
       rintro e w17 ⟨f17,M17,rfl,B17,S17,C17,P17,R17,_⟩
       cases R17;have y12:=B12.size;have y13:=B13.size;have y14:=B14.size;have y15:=B15.size;have y16:=B16.size;have y17:=B17.size;have awk:=jg (Xh bigFuel true Va) M17 w17 [] (glob0 M17) C17 rfl (fun j a b ha hb=>by cases ha)
       go_wp2_with fail
       refine Calls.mono awk ?_
       rintro e w18 ⟨f18,M18,rfl,B18,S18,C18,P18,R18,_⟩
       cases R18
       go_wp2
       go_ret
       refine⟨_,M18,rfl,?_,?_,C18,fun b o hb=>?_,.bool _,trivial⟩
       ·exact ((((((B011.trans (B12.mono (by omega))).trans (B13.mono (by omega))).trans (B14.mono (by omega))).trans (B15.mono (by omega))).trans (B16.mono (by omega))).trans (B17.mono (by omega))).trans (B18.mono (by omega))
       ·exact Sub.trans s06 (Sub.trans sx (Sub.trans S12 (Sub.trans S13 (Sub.trans S14 (Sub.trans S15 (Sub.trans S16 (Sub.trans S17 S18)))))))
       ·rw[P18 b o (by omega),P17 b o (by omega),P16 b o (by omega),P15 b o (by omega),P14 b o (by omega),P13 b o (by omega),P12 b o (by omega)];exact px b o hb
     ·have d8:=(show Hid (¬ ix=iy) from d6)
      go_wp2_with fail
      clear d6;refine Calls.mono (c18 M6 w8 C8 R6) ?_
      rintro e w9 ⟨f9,M9,rfl,hB9,s9,C9,p9,r9,ow9⟩
      rw[htk]at r9 ow9;obtain⟨fa9,fcap9,rfl,hcell9⟩:=Zk (R.setLab (l':=none) r9);rw[A9]at ow9 ⊢
      obtain⟨g,o9,cur,rfl,hge,hg9,hsz,hlc⟩:∃ g o9 cur,fa9=some ⟨g,o9,none⟩∧w8.heap.size≤g∧w9.heap[g]? = some (.cells cur 44 (0,0))∧cur.size=o9+fcap9 * 3∧h.length≤fcap9:=by
       unfold OwnR l44 at ow9
       rcases ow9 with ⟨ad,hv'⟩ | ⟨g,o9,cap9,cur,hv',k1,k2,k3,k4,_⟩
       ·simp only[Value.slice.injEq]at hv';omega
       ·simp only[Value.slice.injEq]at hv';obtain⟨q1,q2,q3⟩:=hv';subst q3;exact⟨g,o9,cur,q1,k1,k2,k3,by simpa using k4⟩
      have hcur:∀ (i:Nat) (z:rf5Op),h[i]? = some z→cur[o9+i * 3]? = some (.int .i64 z.qa)∧cur[o9+i * 3+1]? = some (.int .i64 z.qb)∧cur[o9+i * 3+2]? = some (.int .i64 z.qc):=by
       intro i z hz;obtain⟨b,off',hb,k1,k2,k3⟩:=hcell9 i (cv z) (by rw[B6,hz];rfl)
       obtain⟨rfl,rfl⟩:g=b∧o9=off':=by simpa using hb
       have u1:=qu (C9 _ _ _ k1) rfl;have u2:=qu (C9 _ _ _ k2) rfl;have u3:=qu (C9 _ _ _ k3) rfl;simp only[A6,hg9]at u1 u2 u3;exact⟨u1,u2,u3⟩
      have hcx:=hcur k _ hx;have hcy:=hcur (k+1) _ hy;simp only at hcx hcy;obtain⟨xx,xk,xi⟩:=hcx;obtain⟨yx,yk,yi⟩:=hcy;have hB89:Below w6.heap.size w6 w9:=B68.trans (hB9.mono (by omega))
      have hbn:k * 3+3≤(k+1) * 3:=by omega
      have hq9:o9+(k+1) * 3+3≤cur.size:=by rw[hsz];have:(k+2) * 3≤fcap9 * 3:=Nat.mul_le_mul (by omega) (A8 _);omega
      have kx0:w9.cell? ⟨g,o9+k * 3,none⟩=some (.int .i64 tx):=by simp only[A6,hg9];exact xx
      have kx1:w9.cell? ⟨g,o9+k * 3+1,none⟩=some (.int .i64 kx):=by simp only[A6,hg9];exact xk
      have kx2:w9.cell? ⟨g,o9+k * 3+2,none⟩=some (.int .i64 ix):=by simp only[A6,hg9];exact xi
      have ky0:w9.cell? ⟨g,o9+(k+1) * 3,none⟩=some (.int .i64 ty):=by simp only[A6,hg9];exact yx
      have ky1:w9.cell? ⟨g,o9+(k+1) * 3+1,none⟩=some (.int .i64 ky):=by simp only[A6,hg9];exact yk
      have ky2:w9.cell? ⟨g,o9+(k+1) * 3+2,none⟩=some (.int .i64 iy):=by simp only[A6,hg9];exact yi
      have fr9:∀ j,w9.frozen? ⟨g,j,none⟩=false:=fun j=>by simp[World.frozen?,hg9]
      clear r9 ow9 hcell9
      go_wp2
      refine wp_region_held_drew (S:=fun _=>True) (by kernel_rfl) trivial (fun hHeld=>?_);refine wpAnyH_take (i:=0) (v:=.slice (some ⟨g,o9,none⟩) h.length fcap9) rfl (by kernel_rfl) (by kernel_rfl) (by kernel_rfl) (fun _ _ _ h=>h) (Or.inl ⟨by kernel_rfl,fun w' hw'=>?_⟩) hHeld ?_
      ·go_simp
      simp only[Act.put,A0,A1,A2,A3,A4,A5];refine wpAnyH_take (i:=1) (v:=.int .i64 k) rfl (by kernel_rfl) (by kernel_rfl) (by kernel_rfl) (fun _ _ _ h=>h) (Or.inl ⟨by kernel_rfl,fun w' hw'=>?_⟩) hHeld ?_
      ·go_simp
      simp only[Act.put,A0,A1,A2,A3,A4,A5];refine wpAnyH_take (i:=2) (v:=.slice (some ⟨g,o9,none⟩) h.length fcap9) rfl (by kernel_rfl) (by kernel_rfl) (by kernel_rfl) (fun _ _ _ h=>h) (Or.inl ⟨by kernel_rfl,fun w' hw'=>?_⟩) hHeld ?_
      ·go_simp
      simp only[Act.put,A0,A1,A2,A3,A4,A5];refine wpAnyH_take (i:=3) (v:=.int .i64 k) rfl (by kernel_rfl) (by kernel_rfl) (by kernel_rfl) (fun _ _ _ h=>h) (Or.inl ⟨by kernel_rfl,fun w' hw'=>?_⟩) hHeld ?_
      ·go_simp
      simp only[Act.put,A0,A1,A2,A3,A4,A5];refine wpAnyH_take (i:=4) (v:=.int .i64 ((k:Int)+1)) rfl (by kernel_rfl) (by kernel_rfl) (by kernel_rfl) (fun _ _ _ h=>h) (Or.inl ⟨by kernel_rfl,fun w' hw'=>?_⟩) hHeld ?_
      ·go_simp
      simp only[Act.put,A0,A1,A2,A3,A4,A5];refine wpAnyH_take (i:=5) (v:=.slice (some ⟨g,o9,none⟩) h.length fcap9) rfl (by kernel_rfl) (by kernel_rfl) (by kernel_rfl) (fun _ _ _ h=>h) (Or.inl ⟨by kernel_rfl,fun w' hw'=>?_⟩) hHeld ?_
      ·go_simp
      simp only[Act.put,A0,A1,A2,A3,A4,A5];refine wpAnyH_take (i:=6) (v:=.int .i64 k) rfl (by kernel_rfl) (by kernel_rfl) (by kernel_rfl) (fun _ _ _ h=>h) (Or.inl ⟨by kernel_rfl,fun w' hw'=>?_⟩) hHeld ?_
      ·go_simp
      simp only[Act.put,A0,A1,A2,A3,A4,A5];refine wpAnyH_take (i:=7) (v:=.int .i64 ((k:Int)+1)) rfl (by kernel_rfl) (by kernel_rfl) (by kernel_rfl) (fun _ _ _ h=>h) (Or.inl ⟨by kernel_rfl,fun w' hw'=>?_⟩) hHeld ?_
      ·go_simp
      simp only[Act.put,A0,A1,A2,A3,A4,A5];refine wpAnyH_take (i:=8) (v:=.pointer (some ⟨g,o9+(k+1) * 3,none⟩)) rfl (by kernel_rfl) (by kernel_rfl) (by kernel_rfl) (fun _ _ _ h=>h) (Or.inl ⟨by kernel_rfl,fun w' hw'=>?_⟩) hHeld ?_
      ·go_simp
      simp only[Act.put,A0,A1,A2,A3,A4,A5];refine wpAnyH_take (i:=10) (v:=.slice (some ⟨g,o9,none⟩) h.length fcap9) rfl (by kernel_rfl) (by kernel_rfl) (by kernel_rfl) (fun _ _ _ h=>h) (Or.inl ⟨by kernel_rfl,fun w' hw'=>?_⟩) hHeld ?_
      ·go_simp
      simp only[Act.put,A0,A1,A2,A3,A4,A5];refine wpAnyH_take (i:=11) (v:=.int .i64 k) rfl (by kernel_rfl) (by kernel_rfl) (by kernel_rfl) (fun _ _ _ h=>h) (Or.inl ⟨by kernel_rfl,fun w' hw'=>?_⟩) hHeld ?_
      ·go_simp
      simp only[Act.put,A0,A1,A2,A3,A4,A5];refine wpAnyH_take (i:=12) (v:=.pointer (some ⟨g,o9+k * 3,none⟩)) rfl (by kernel_rfl) (by kernel_rfl) (by kernel_rfl) (fun _ _ _ h=>h) (Or.inl ⟨by kernel_rfl,fun w' hw'=>?_⟩) hHeld ?_
      ·go_simp
      simp only[Act.put,A0,A1,A2,A3,A4,A5];apply merge
      ·intro hp;refine wpAnyH_ready (rs:=[9,13]) (by kernel_rfl) (by simp) (AllReadyH.cons rfl (fun K hK=>?_) (AllReadyH.cons rfl (fun K hK=>?_) AllReadyH.nil))
       ·rw[if_pos (by kernel_rfl)];go_simp;refine hK.out _ _ trivial (fun hHeld=>?_);clear hK K;refine wpAnyH_ready (rs:=[13]) (by kernel_rfl) (by simp) (AllReadyH.cons rfl (fun K hK=>?_) AllReadyH.nil);rw[if_pos (by kernel_rfl)];go_simp;refine hK.out _ _ trivial (fun hHeld=>?_);clear hK K;exact hp.out
       ·rw[if_pos (by kernel_rfl)];go_simp;refine hK.out _ _ trivial (fun hHeld=>?_);clear hK K;refine wpAnyH_ready (rs:=[9]) (by kernel_rfl) (by simp) (AllReadyH.cons rfl (fun K hK=>?_) AllReadyH.nil);rw[if_pos (by kernel_rfl)];go_simp;refine hK.out _ _ trivial (fun hHeld=>?_);clear hK K;exact hp.out
      ·clear hHeld;have hHeld:True:=trivial;refine wpAnyH_take (i:=14) (v:=.pointer (some ⟨g,o9+k * 3,none⟩)) rfl (by kernel_rfl) (by kernel_rfl) (by kernel_rfl) (fun _ _ _ h=>h) (Or.inl ⟨by kernel_rfl,fun w' hw'=>?_⟩) hHeld ?_
       ·go_simp
       simp only[Act.put,A0,A1,A2,A3,A4,A5];refine wpAnyH_ready (rs:=[15]) (by kernel_rfl) (by simp) (AllReadyH.cons rfl (fun K hK=>?_) AllReadyH.nil);rw[if_pos (by kernel_rfl)];go_simp;refine hK.out _ _ trivial (fun hHeld=>?_);clear hK K;refine wpAnyH_take (i:=16) (v:=.pointer (some ⟨g,o9+(k+1) * 3,none⟩)) rfl (by kernel_rfl) (by kernel_rfl) (by kernel_rfl) (fun _ _ _ h=>h) (Or.inl ⟨by kernel_rfl,fun w' hw'=>?_⟩) hHeld ?_
       ·go_simp
       simp only[Act.put,A0,A1,A2,A3,A4,A5];refine wpAnyH_ready (rs:=[17]) (by kernel_rfl) (by simp) (AllReadyH.cons rfl (fun K hK=>?_) AllReadyH.nil);rw[if_pos (by kernel_rfl)];go_simp;refine hK.out _ _ trivial (fun hHeld=>?_);clear hK K;refine wpAnyH_done (by kernel_rfl) ?_ _;obtain⟨w11,ew11⟩:∃ w11,w11=((((((w9.setCell ⟨g,o9+k * 3,none⟩ (.int .i64 ty)).setCell ⟨g,o9+k * 3+1,none⟩ (.int .i64 ky)).setCell ⟨g,o9+k * 3+2,none⟩ (.int .i64 iy)).setCell ⟨g,o9+(k+1) * 3,none⟩ (.int .i64 tx)).setCell ⟨g,o9+(k+1) * 3+1,none⟩ (.int .i64 kx)).setCell ⟨g,o9+(k+1) * 3+2,none⟩ (.int .i64 ix)).drew:=⟨_,rfl⟩;rw[← ew11];obtain⟨c6,hc6⟩:∃ c6,c6=(((((cur.setIfInBounds (o9+k * 3) (.int .i64 ty)).setIfInBounds (o9+k * 3+1) (.int .i64 ky)).setIfInBounds (o9+k * 3+2) (.int .i64 iy)).setIfInBounds (o9+(k+1) * 3) (.int .i64 tx)).setIfInBounds (o9+(k+1) * 3+1) (.int .i64 kx)).setIfInBounds (o9+(k+1) * 3+2) (.int .i64 ix):=⟨_,rfl⟩
       have dh:∀ (w:World),w.drew.heap=w.heap:=fun _=>rfl
       have n11':w11.heap[g]? = some (.cells c6 44 (0,0)):=by
        rw[ew11,dh,hc6];exact qF (.int .i64 ix) (qF (.int .i64 kx) (qF (.int .i64 tx) (qF (.int .i64 iy) (qF (.int .i64 ky) (qF (.int .i64 ty) hg9)))))
       have b11:∀ j,j≠g→w11.heap[j]? = w9.heap[j]?:=fun j hj=>by
        rw[ew11];rw[dh,qr hj,qr hj,qr hj,qr hj,qr hj,qr hj]
       have e11:w11.os=w9.os∧w11.tape=w9.tape∧w11.output=w9.output∧w11.heap.size=w9.heap.size:=by
        have so:∀ (w:World) a v,(w.setCell a v).os=w.os:=fun _ _ _=>rfl
        have st:∀ (w:World) a v,(w.setCell a v).tape=w.tape:=fun _ _ _=>rfl
        have sp:∀ (w:World) a v,(w.setCell a v).output=w.output:=fun _ _ _=>rfl
        have do':∀ (w:World),w.drew.os=w.os:=fun _=>rfl
        have dt:∀ (w:World),w.drew.tape=w.tape:=fun _=>rfl
        have dp:∀ (w:World),w.drew.output=w.output:=fun _=>rfl
        rw[ew11];simp only[do',dt,dp,dh,so,st,sp,Ju,and_self]
       have z9:=hB9.size;have B811:Below w8.heap.size w8 w11:=⟨e11.1.trans hB9.os,e11.2.1.trans hB9.tape,e11.2.2.1.trans hB9.output,by rw[e11.2.2.2];exact z9,fun j hj=>by rw[b11 j (by omega)];exact hB9.block j hj⟩;have B611:Below w6.heap.size w6 w11:=B68.trans (B811.mono (by omega));have B011:Below w.heap.size w w11:=B06.trans (B611.mono B06.size)
       have hs:swapB ⟨tx,kx,ix⟩ ⟨ty,ky,iy⟩=true:=by
        have q1:(tx != ty)=true:=by simpa using d1
        have q2:clash ⟨tx,kx,ix⟩ ⟨ty,ky,iy⟩=false:=by
         unfold clash;simp only;by_cases e:ix=iy
         ·have d9:¬ (kx+ky > 0):=fun h=>d4 ⟨e,h⟩
          have:(if ky > kx then ky else kx)=0:=by split <;> omega
          rw[this];simp
         ·have:(ix == iy)=false:=by simpa using e
          rw[this];simp
        unfold swapB;rw[q2]
        simpa using q1
       obtain⟨h',hsw,hl',hy',hx',hoth⟩:=UL hx hy hs;obtain⟨s0,s1,s2,s3,s4,s5,srest⟩:=VG hq9 (by omega) _ _ _ _ _ _ hc6
       have hMg:∀ o,M6 g o=none:=fun o=>by
        cases hm:M6 g o with
        | none=>rfl
        | some u=>have:=XV (C6 _ _ _ hm);omega
       obtain⟨Mx,eMx⟩:∃ Mx,Mx=mblk M6 (mc w11) g:=⟨_,rfl⟩
       have Cx:Cons Mx w11:=by rw[eMx];exact Yy (C6.below B611) (fun b o u hu=>hu)
       have sx:Sub M6 Mx:=by rw[eMx];exact Yg hMg
       have px:∀ b o,b<w.heap.size→Mx b o=M b o:=fun b o hb=>by
        have:=B06.size;rw[eMx];unfold mblk;rw[if_neg (by omega)];exact old6 b o hb
       have cx:∀ j u,c6[j]? = some u→isTup u=false→Mx g j=some u:=fun j u hu ht=>by
        rw[eMx];unfold mblk;rw[if_pos rfl];exact XW n11' hu ht
       have Rx:R Mx (l44 none (h'.map cv)) (.slice (some ⟨g,o9,none⟩) h.length fcap9):=by
        have e1:(h'.map cv).length=h.length:=by rw[A9,hl']
        rw[← e1];refine qbS (by omega) (fun i z hz=>?_);rw[B6]at hz;obtain⟨z',hz',rfl⟩:=Option.map_eq_some_iff.1 hz;by_cases i1:i=k
        ·subst i1;rw[hy']at hz';cases hz';exact⟨cx _ _ s0 rfl,cx _ _ s1 rfl,cx _ _ s2 rfl⟩
        by_cases i2:i=k+1
        ·subst i2;rw[hx']at hz';cases hz';exact⟨cx _ _ s3 rfl,cx _ _ s4 rfl,cx _ _ s5 rfl⟩
        rw[hoth i i1 i2]at hz';obtain⟨k1,k2,k3⟩:=hcur i z' hz';exact⟨cx _ _ ((srest _ (by omega)).trans k1) rfl,cx _ _ ((srest _ (by omega)).trans k2) rfl,cx _ _ ((srest _ (by omega)).trans k3) rfl⟩
       have htk':h'.take 43=h':=B7 (by omega);have v1:=ZQ h';have v2:=ZW h';have v3':=VD h';rw[htk',← hsw.order,← Ha.out]at v1;rw[htk',← hsw.cycle,← Hb.out]at v2;rw[htk',← hsw.view,← Hc.out]at v3'
       have la:a.1.length≤100:=by rw[Ha.out];exact Na h
       have lb:b.1.length≤100:=by rw[Hb.out];exact NC h
       have lc:c.1.length≤100:=by rw[Hc.out];exact Hy h
       have q6:=B06.size;have q11:=B611.size;have K17:=jg (QE bigFuel _ a v1) Mx w11 [.slice (some ⟨g,o9,none⟩) h.length fcap9] (glob0 Mx) Cx rfl (fun j a b ha hb=>by match j,ha,hb with | 0,ha,hb=>cases ha;cases hb;exact Rx);have HE:=(show Hid _ from ew11);clear dh ew11 hc6 s0 s1 s2 s3 s4 s5 srest hcur xx xk xi yx yk yi kx0 kx1 kx2 ky0 ky1 ky2 fr9 hHeld
       go_wp2_with fail
       refine Calls.mono K17 ?_
       rintro e w12 ⟨f12,M12,rfl,B12,S12,C12,P12,R12,_⟩
       obtain⟨va',ia',rfl,ra',ri'⟩:=Jt R12;obtain rfl:ia'=.int .i64 a.2:=ri'.int_inv;have K19:=jg (.ext0 (cycle19 v2)) M12 w12 [.slice (some ⟨g,o9,none⟩) h.length fcap9] (glob0 M12) C12 rfl (fun j a b ha hb=>by match j,ha,hb with | 0,ha,hb=>cases ha;cases hb;exact Rx.mono S12)
       go_wp2_with fail
       refine Calls.mono K19 ?_
       rintro e w13 ⟨f13,M13,rfl,B13,S13,C13,P13,R13,_⟩
       obtain⟨vb',ib',rfl,rb',ri'⟩:=Jt R13;obtain rfl:ib'=.int .i64 b.2:=ri'.int_inv;have K30:=jg (.ext0 (view30 v3')) M13 w13 [.slice (some ⟨g,o9,none⟩) h.length fcap9] (glob0 M13) C13 rfl (fun j a b ha hb=>by match j,ha,hb with | 0,ha,hb=>cases ha;cases hb;exact Rx.mono (Sub.trans S12 S13))
       go_wp2_with fail
       refine Calls.mono K30 ?_
       rintro e w14 ⟨f14,M14,rfl,B14,S14,C14,P14,R14,_⟩
       obtain⟨vc',ic',rfl,rc',ri'⟩:=Jt R14;obtain rfl:ic'=.int .i64 c.2:=ri'.int_inv
       have KA':=jg (jc a.1 a.1 true (Qi (by omega))) M14 w14 [va,va'] (glob0 M14) C14 rfl (fun j x y hx hy=>by
        match j,hx,hy with
        | 0,hx,hy=>cases hx;cases hy;exact ra6.mono (Sub.trans sx (Sub.trans S12 (Sub.trans S13 S14)))
        | 1,hx,hy=>cases hx;cases hy;exact ra'.mono (Sub.trans S13 S14))
       go_wp2_with fail
       refine Calls.mono KA' ?_
       rintro e w15 ⟨f15,M15,rfl,B15,S15,C15,P15,R15,_⟩
       cases R15
       have KB':=jg (jc b.1 b.1 true (Qi (by omega))) M15 w15 [vb,vb'] (glob0 M15) C15 rfl (fun j x y hx hy=>by
        match j,hx,hy with
        | 0,hx,hy=>cases hx;cases hy;exact rb6.mono (Sub.trans sx (Sub.trans S12 (Sub.trans S13 (Sub.trans S14 S15))))
        | 1,hx,hy=>cases hx;cases hy;exact rb'.mono (Sub.trans S14 S15))
       go_wp2_with fail
       refine Calls.mono KB' ?_
       rintro e w16 ⟨f16,M16,rfl,B16,S16,C16,P16,R16,_⟩
       cases R16
       have KC':=jg (jc c.1 c.1 true (Qi (by omega))) M16 w16 [vc,vc'] (glob0 M16) C16 rfl (fun j x y hx hy=>by
        match j,hx,hy with
        | 0,hx,hy=>cases hx;cases hy;exact rc.mono (Sub.trans sx (Sub.trans S12 (Sub.trans S13 (Sub.trans S14 (Sub.trans S15 S16)))))
        | 1,hx,hy=>cases hx;cases hy;exact rc'.mono (Sub.trans S15 S16))
       go_wp2_with fail
       refine Calls.mono KC' ?_
       rintro e w17 ⟨f17,M17,rfl,B17,S17,C17,P17,R17,_⟩
       cases R17;have y12:=B12.size;have y13:=B13.size;have y14:=B14.size;have y15:=B15.size;have y16:=B16.size;have y17:=B17.size;have awk:=jg (Xh bigFuel true Va) M17 w17 [] (glob0 M17) C17 rfl (fun j a b ha hb=>by cases ha)
       go_wp2_with fail
       refine Calls.mono awk ?_
       rintro e w18 ⟨f18,M18,rfl,B18,S18,C18,P18,R18,_⟩
       cases R18
       go_wp2
       go_ret
       refine⟨_,M18,rfl,?_,?_,C18,fun b o hb=>?_,.bool _,trivial⟩
       ·exact ((((((B011.trans (B12.mono (by omega))).trans (B13.mono (by omega))).trans (B14.mono (by omega))).trans (B15.mono (by omega))).trans (B16.mono (by omega))).trans (B17.mono (by omega))).trans (B18.mono (by omega))
       ·exact Sub.trans s06 (Sub.trans sx (Sub.trans S12 (Sub.trans S13 (Sub.trans S14 (Sub.trans S15 (Sub.trans S16 (Sub.trans S17 S18)))))))
       ·rw[P18 b o (by omega),P17 b o (by omega),P16 b o (by omega),P15 b o (by omega),P14 b o (by omega),P13 b o (by omega),P12 b o (by omega)];exact px b o hb
theorem Xi {h:List rf5Op} {at':Int} (hlh:lenOk h=true):Run Try.prog (.call 8 [l43 none h,.int .i64 at'] (.bool true)):=.ext0 (exch8 hlh)
end Go.Proofs
namespace Go.AM
open Go.Proofs Go.Proofs.Ytoiejpkfpjingaa Go.ChangeShapes Go.WideShapes Go.ChangeAt Go.RowKit
theorem readsOp:Reads Try.prog 43 YE (fun _=>True) :=
 NX (P := Try.prog) (size := 3) (fs := #[Field.mk "Txn" 3 0 false "" "" 0, Field.mk "Kind" 3 1 false "" "" 8, Field.mk "Item" 3 2 false "" "" 16]) (fun b : Int × Int × Int × Unit => (⟨b.1, b.2.1, b.2.2.1⟩ : rf5Op)) (by kernel_rfl) (by kernel_rfl)
  (XQ (f:=AV.int .i64) (ok:=fun n=>(Lit.int .i64 n).wf=true) (n:=1) (off':=1) rfl (by kernel_rfl) rfl (Yt (k:=.i64) (by kernel_rfl)) (XQ (f:=AV.int .i64) (ok:=fun n=>(Lit.int .i64 n).wf=true) (n:=1) (off':=2) rfl (by kernel_rfl) rfl (Yt (k:=.i64) (by kernel_rfl)) (XQ (f:=AV.int .i64) (ok:=fun n=>(Lit.int .i64 n).wf=true) (n:=1) (off':=3) rfl (by kernel_rfl) rfl (Yt (k:=.i64) (by kernel_rfl)) (Dz rfl))))
  (fun b=>rfl) (fun b h=>trivial)
theorem qbd:Reads Try.prog 23 (encL 43 3 YE) (fun l=>l.length≤maxLen∧∀ d,d∈l→True) :=
 Da (by kernel_rfl) (by kernel_rfl) (by decide) readsOp (fun _=>rfl) (fun _=>rfl)
theorem qbP:Reads Try.prog 3 (AV.int .i64) (fun _=>True):=fun H enc w fuel cs x h =>
 let ⟨a,_,h2⟩:=Yt (P:=Try.prog) (t:=3) (k:=.i64) (by kernel_rfl) H enc w fuel cs x h
 ⟨a,trivial,h2⟩
theorem qbp {α:Type} {l:List α} (h:l.length≤maxLen):lenOk l=true:=Nat.ble_eq_true_of_le (by unfold maxLen at h;omega)
theorem own:ownKnob Try.prog.godebug=none:=by kernel_rfl
theorem mixed:Try.prog.follows .mixedOrders=true:=by kernel_rfl
theorem laid:laidOutB Try.prog=true:=by kernel_rfl
end Go.AM
