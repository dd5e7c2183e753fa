/- s -/
import Derived.Test.YtdghpfejmlpjhaaRMap
import Derived.Test.YtdghpfejmlpjhaaShelf4
import Derived.Test.YtdghpfejmlpjhaaRA1
import Derived.Sort.Grow
import Derived.Test.YtdghpfejmlpjhaaRRaw
import Derived.Test.YtdghpfejmlpjhaaAWq
set_option maxRecDepth 100000
set_option linter.unusedVariables false
set_option linter.unusedSimpArgs false
namespace Go.Proofs
open Go.RowKit Go.Sort Go.AM Go.Lib
def cmpI (x y:Int):Int:=if x<y then -1 else if y<x then 1 else 0
def orI2 (x y:Int):Int:=if x≠0 then x else y
def cmpL:List Int→List Int→Int
 | [],[]=>0
 | [],_::_ => -1
 | _::_,[]=>1
 | x::a,y::b=>if cmpI x y≠0 then cmpI x y else cmpL a b
set_option maxHeartbeats 4000000 in
theorem Try.cmp112 (x y:Int) (W:World):Calls Try.prog 112 #[.int .i64 x,.int .i64 y] W fun e w'=>e=.returned (.int .i64 (cmpI x y))∧w'=W:=by
 have t3:=Try.underlying3;have a3:=Try.isAgg3;have z3:=Try.sizeOf3;have v3:=Try.zeroValue3;have u3:=run_underlying Try.underlying3;have t4:=Try.underlying4;have a4:=Try.isAgg4;have z4:=Try.sizeOf4;have v4:=Try.zeroValue4;have u4:=run_underlying Try.underlying4;unfold cmpI
 go_enter Try.func112,Try.ntmps112
 by_cases h1:x<y
 ·go_wp2
  go_ret
  simp[h1]
 ·by_cases h2:y<x
  ·go_wp2
   go_ret
   simp[h1,h2]
  ·go_wp2
   go_ret
   simp[h1,h2]
set_option maxHeartbeats 4000000 in
theorem Try.or111 (x y:Int) (g cap:Nat) (W:World) (h0:W.cell? ⟨g,0,none⟩=some (.int .i64 x)) (h1:W.cell? ⟨g,1,none⟩=some (.int .i64 y)):Calls Try.prog 111 #[.slice (some ⟨g,0,none⟩) 2 cap] W fun e w'=>e=.returned (.int .i64 (orI2 x y))∧w'=W:=by
 have t3:=Try.underlying3;have a3:=Try.isAgg3;have z3:=Try.sizeOf3;have v3:=Try.zeroValue3;have u3:=run_underlying Try.underlying3;have t4:=Try.underlying4;have a4:=Try.isAgg4;have z4:=Try.sizeOf4;have v4:=Try.zeroValue4;have u4:=run_underlying Try.underlying4;have t39:=Try.underlying39;have a39:=Try.isAgg39;have z39:=Try.sizeOf39;have v39:=Try.zeroValue39;have u39:=run_underlying Try.underlying39;obtain⟨r,hr⟩:∃ r,r=orI2 x y:=⟨_,rfl⟩;rw[← hr]
 go_enter Try.func111,Try.ntmps111
 go_wp2
 go_loop [8] (fun i=>∃ k:Nat,k≤2∧i=.int .i64 k∧(1≤k→x=0)∧(2≤k→y=0)) (fun i=>2 - (RowKit.intOf i).toNat)
 case atStart=>exact⟨0,by omega,rfl,fun h=>by omega,fun h=>by omega⟩
 case round =>
  obtain⟨k,hk,rfl,k1,k2⟩:=hrel
  match k,hk with
  | 0,_ =>
   by_cases hx:x=0
   ·subst hx
    go_wp2
    go_round
    case rel=>exact⟨1,by omega,rfl,by simp_all,by simp_all⟩
    case measure=>simp[RowKit.intOf]
   ·go_wp2
    go_ret
    simp[orI2,hx]
  | 1,_ =>
   have hx:=k1 (by omega)
   by_cases hy:y=0
   ·subst hy
    go_wp2
    go_round
    case rel=>exact⟨2,by omega,rfl,by simp_all,by simp_all⟩
    case measure=>simp[RowKit.intOf]
   ·go_wp2
    go_ret
    simp[orI2,hx,hy]
  | 2,_ =>
   have hx:=k1 (by omega);have hy:=k2 (by omega)
   go_wp2
   go_ret
   simp[orI2,hx,hy]
theorem cmpL_drop {a b:List Int} {k:Nat} (ha:k<a.length) (hb:k<b.length):cmpL (a.drop k) (b.drop k)=if cmpI a[k] b[k]≠0 then cmpI a[k] b[k] else cmpL (a.drop (k+1)) (b.drop (k+1)):=by
 rw[List.drop_eq_getElem_cons ha,List.drop_eq_getElem_cons hb,cmpL]
theorem slice_form2 {M:Mem} {e k:Nat} {l:Option Nat} {xs:List AV} {v:Value} (h:R M (.lst e k l xs) v):∃ a cap,v=.slice a xs.length cap:=by
 cases h with
 | lstn=>exact⟨none,0,rfl⟩
 | lste _ _ _ ad cap=>exact⟨some ad,cap,rfl⟩
 | lst us h1 h2 h5 h3 h4=>exact⟨_,_,rfl⟩
set_option maxHeartbeats 4000000 in
theorem Try.cmp113 (a b:List Int) (va vb:Value) (M:Mem) (W:World) (hC:Cons M W) (ra:R M (l3 none a) va) (rb:R M (l3 none b) vb) (hla:a.length≤1000000):Calls Try.prog 113 #[va,vb] W fun e w'=>e=.returned (.int .i64 (cmpL a b))∧w'=W:=by
 have t3:=Try.underlying3;have a3:=Try.isAgg3;have z3:=Try.sizeOf3;have v3:=Try.zeroValue3;have u3:=run_underlying Try.underlying3;have t4:=Try.underlying4;have a4:=Try.isAgg4;have z4:=Try.sizeOf4;have v4:=Try.zeroValue4;have u4:=run_underlying Try.underlying4;have t39:=Try.underlying39;have a39:=Try.isAgg39;have z39:=Try.sizeOf39;have v39:=Try.zeroValue39;have u39:=run_underlying Try.underlying39;obtain⟨pa,ca,rfl,ha⟩:=ints_form (l:=a) ra;obtain⟨pb,cb,rfl,hb⟩:=ints_form (l:=b) rb;have hcmp:=Try.cmp112;obtain⟨r,hr⟩:∃ r,r=cmpL a b:=⟨_,rfl⟩;rw[← hr];have HR:=(show Hid _ from hr);clear hr
 go_enter Try.func113,Try.ntmps113
 go_wp2
 go_loop [11] (fun i=>∃ k:Nat,k≤a.length∧k≤b.length∧i=.int .i64 k∧r=cmpL (a.drop k) (b.drop k)) (fun i=>a.length - (RowKit.intOf i).toNat)
 case atStart=>exact⟨0,Nat.zero_le _,Nat.zero_le _,rfl,HR.out⟩
 case round =>
  obtain⟨k,hk,hkb,rfl,hrk⟩:=hrel
  rcases Nat.lt_or_ge k a.length with h1 | h1
  ·obtain⟨ga,oa,rfl,hMa⟩:=ha k h1;have fa:=Jk (hC _ _ _ hMa) rfl;have i0:(0:Int)≤(k:Int):=Int.natCast_nonneg _
   have i1:(k:Int)<(a.length:Int):=by omega
   rcases Nat.lt_or_ge k b.length with h2 | h2
   ·obtain⟨gb,ob,rfl,hMb⟩:=hb k h2;have fb:=Jk (hC _ _ _ hMb) rfl
    have i2:(k:Int)<(b.length:Int):=by omega
    have n1:¬ (b.length:Int)≤(k:Int):=by omega
    have hst:=cmpL_drop h1 h2;rw[← hrk]at hst;generalize a[k]=x at fa hst;generalize b[k]=y at fb hst;have hc:=hcmp x y W;generalize cmpI x y=c at hst hc;clear ha hb hcmp hrk
    by_cases h0:c=0
    ·subst h0
     go_wp2_with fail
     refine hc.mono ?_
     rintro e w5 ⟨rfl,rfl⟩
     go_wp2
     go_round
     case rel=>exact⟨k+1,h1,h2,by go_num,by simpa using hst⟩
     case measure=>simp[RowKit.intOf];omega
    ·rw[if_pos h0]at hst
     go_wp2_with fail
     refine hc.mono ?_
     rintro e w5 ⟨rfl,rfl⟩
     go_wp2
     go_ret
     (first | exact⟨rfl,rfl⟩ | (refine⟨?_,rfl⟩;rw[hst];done) | (refine⟨?_,rfl⟩;rw[hst];rfl))
   ·have n1:(b.length:Int)≤(k:Int):=by omega
    have hst:r=1:=by
     rw[hrk,List.drop_eq_nil_of_le h2,List.drop_eq_getElem_cons h1];rfl
    clear ha hb hcmp hrk;generalize a[k]=x at fa
    go_wp2
    go_ret
    (first | exact⟨rfl,rfl⟩ | (refine⟨?_,rfl⟩;rw[hst];done) | (refine⟨?_,rfl⟩;rw[hst];rfl))
  ·have hkl:k=a.length:=by omega
   subst hkl;rw[List.drop_length]at hrk
   rcases Nat.lt_or_ge a.length b.length with h2 | h2
   ·have hst:r = -1:=by
     rw[hrk,List.drop_eq_getElem_cons h2];rfl
    have n1:(a.length:Int)<(b.length:Int):=by omega
    clear hrk
    go_wp2
    go_ret
    (first | exact⟨rfl,rfl⟩ | (refine⟨?_,rfl⟩;rw[hst];done) | (refine⟨?_,rfl⟩;rw[hst];rfl))
   ·have hst:r=0:=by
     rw[hrk,List.drop_eq_nil_of_le h2];rfl
    have n1:¬ (a.length:Int)<(b.length:Int):=by omega
    clear hrk
    go_wp2
    go_ret
    (first | exact⟨rfl,rfl⟩ | (refine⟨?_,rfl⟩;rw[hst];done) | (refine⟨?_,rfl⟩;rw[hst];rfl))
set_option maxHeartbeats 8000000 in
theorem Try.cmp110 (ra rb:Int) (a b:List Int) (va vb:Value) (M:Mem) (W:World) (hC:Cons M W) (hva:R M (l3 none a) va) (hvb:R M (l3 none b) vb) (hla:a.length≤1000000) :
  Calls Try.prog 110 #[.agg #[.int .i64 ra,va],.agg #[.int .i64 rb,vb]] W fun e w'=>e=.returned (.int .i64 (orI2 (cmpI ra rb) (cmpL a b)))∧∃ q os,w'=grow (W.drewN q) os:=by
 have mixed:=mixedP;have t3:=Try.underlying3;have a3:=Try.isAgg3;have z3:=Try.sizeOf3;have v3:=Try.zeroValue3;have u3:=run_underlying Try.underlying3;have t4:=Try.underlying4;have a4:=Try.isAgg4;have z4:=Try.sizeOf4;have v4:=Try.zeroValue4;have u4:=run_underlying Try.underlying4;have t39:=Try.underlying39;have a39:=Try.isAgg39;have z39:=Try.sizeOf39;have v39:=Try.zeroValue39;have u39:=run_underlying Try.underlying39;have t41:=Try.underlying41;have a41:=Try.isAgg41;have z41:=Try.sizeOf41;have v41:=Try.zeroValue41;have u41:=run_underlying Try.underlying41;obtain⟨pa,ca,eva⟩:=slice_form2 hva;obtain⟨pb,cb,evb⟩:=slice_form2 hvb;obtain⟨c0,hc0⟩:∃ c,c=cmpI ra rb:=⟨_,rfl⟩;obtain⟨c1,hc1⟩:∃ c,c=cmpL a b:=⟨_,rfl⟩
 have k0:∀ w,Calls Try.prog 112 #[.int .i64 ra,.int .i64 rb] w fun e w'=>e=.returned (.int .i64 c0)∧w'=w:=fun w=>by rw[hc0];exact Try.cmp112 ra rb w
 have k1:∀ w,Cons M w→Calls Try.prog 113 #[va,vb] w fun e w'=>e=.returned (.int .i64 c1)∧w'=w:=fun w hw=>by rw[hc1];exact Try.cmp113 a b va vb M w hw hva hvb hla
 rw[← hc0,← hc1];clear hc0 hc1;obtain⟨r,hr⟩:∃ r,r=orI2 c0 c1:=⟨_,rfl⟩;rw[← hr];subst eva evb;generalize hna:(List.map (AV.int .i64) a).length=na at *;generalize hnb:(List.map (AV.int .i64) b).length=nb at *;clear hna hnb
 go_enter Try.func110,Try.ntmps110
 go_wp2_with fail
 obtain⟨W2,hW2⟩:∃ W2,W2=(W.alloc (.cells #[.int .i64 ra,.slice pa na ca] 41)).alloc (.cells #[.int .i64 rb,.slice pb nb cb] 41):=⟨_,rfl⟩
 have hea:W2.heap[W.heap.size]? = some (.cells #[.int .i64 ra,.slice pa na ca] 41 (0,0)):=by
  rw[hW2,heap_alloc_old _ _ (by simp)];exact heap_alloc_new _ _
 have heb:W2.heap[W.heap.size+1]? = some (.cells #[.int .i64 rb,.slice pb nb cb] 41 (0,0)):=by
  have:=heap_alloc_new (W.alloc (.cells #[.int .i64 ra,.slice pa na ca] 41)) (.cells #[.int .i64 rb,.slice pb nb cb] 41);rw[hW2]
  simpa using this
 have hg:∃ os,W2=grow W os:=⟨_,by rw[hW2,alloc_eq_grow,alloc_eq_grow,grow_grow]⟩
 have hCW:Cons M W2.drew:=by rw[hW2];exact (hC.alloc _).alloc _
 rw[← hW2];clear hW2
 have K0:W2.cell? ⟨W.heap.size,0,none⟩=some (.int .i64 ra)∧W2.cell? ⟨W.heap.size,1,none⟩=some (.slice pa na ca)∧W2.cell? ⟨W.heap.size+1,0,none⟩=some (.int .i64 rb)∧W2.cell? ⟨W.heap.size+1,1,none⟩=some (.slice pb nb cb):=by
  refine⟨?_,?_,?_,?_⟩ <;> simp[World.cell?,hea,heb]
 refine wp_region_held_drew (S:=(fun w'=>w'.cell? ⟨W.heap.size,0,none⟩=some (.int .i64 ra)∧w'.cell? ⟨W.heap.size,1,none⟩=some (.slice pa na ca)∧w'.cell? ⟨W.heap.size+1,0,none⟩=some (.int .i64 rb)∧w'.cell? ⟨W.heap.size+1,1,none⟩=some (.slice pb nb cb))) (by kernel_rfl) K0 (fun hHeld=>?_);refine wpAnyH_take (i:=0) (v:=.pointer (some ⟨W.heap.size,0,none⟩)) rfl (by kernel_rfl) (by kernel_rfl) (by kernel_rfl) (fun _ _ _ h=>h) (Or.inl ⟨by kernel_rfl,fun w' hw'=>?_⟩) hHeld ?_
 ·obtain⟨q0,q1,q2,q3⟩:=hw';go_simp
 simp only[Act.put,List.getElem_toArray,List.getElem_cons_succ,List.getElem_cons_zero,List.setIfInBounds_toArray,List.set_cons_zero,List.set_cons_succ];refine wpAnyH_take (i:=1) (v:=.int .i64 ra) rfl (by kernel_rfl) (by kernel_rfl) (by kernel_rfl) (fun _ _ _ h=>h) (Or.inl ⟨by kernel_rfl,fun w' hw'=>?_⟩) hHeld ?_
 ·obtain⟨q0,q1,q2,q3⟩:=hw';go_simp
 simp only[Act.put,List.getElem_toArray,List.getElem_cons_succ,List.getElem_cons_zero,List.setIfInBounds_toArray,List.set_cons_zero,List.set_cons_succ];refine wpAnyH_take (i:=2) (v:=.pointer (some ⟨W.heap.size+1,0,none⟩)) rfl (by kernel_rfl) (by kernel_rfl) (by kernel_rfl) (fun _ _ _ h=>h) (Or.inl ⟨by kernel_rfl,fun w' hw'=>?_⟩) hHeld ?_
 ·obtain⟨q0,q1,q2,q3⟩:=hw';go_simp
 simp only[Act.put,List.getElem_toArray,List.getElem_cons_succ,List.getElem_cons_zero,List.setIfInBounds_toArray,List.set_cons_zero,List.set_cons_succ];refine wpAnyH_take (i:=3) (v:=.int .i64 rb) rfl (by kernel_rfl) (by kernel_rfl) (by kernel_rfl) (fun _ _ _ h=>h) (Or.inl ⟨by kernel_rfl,fun w' hw'=>?_⟩) hHeld ?_
 ·obtain⟨q0,q1,q2,q3⟩:=hw';go_simp
 simp only[Act.put,List.getElem_toArray,List.getElem_cons_succ,List.getElem_cons_zero,List.setIfInBounds_toArray,List.set_cons_zero,List.set_cons_succ];refine wpAnyH_take (i:=5) (v:=.pointer (some ⟨W.heap.size,1,none⟩)) rfl (by kernel_rfl) (by kernel_rfl) (by kernel_rfl) (fun _ _ _ h=>h) (Or.inl ⟨by kernel_rfl,fun w' hw'=>?_⟩) hHeld ?_
 ·obtain⟨q0,q1,q2,q3⟩:=hw';go_simp
 simp only[Act.put,List.getElem_toArray,List.getElem_cons_succ,List.getElem_cons_zero,List.setIfInBounds_toArray,List.set_cons_zero,List.set_cons_succ];refine wpAnyH_take (i:=6) (v:=.slice pa na ca) rfl (by kernel_rfl) (by kernel_rfl) (by kernel_rfl) (fun _ _ _ h=>h) (Or.inl ⟨by kernel_rfl,fun w' hw'=>?_⟩) hHeld ?_
 ·obtain⟨q0,q1,q2,q3⟩:=hw';go_simp
 simp only[Act.put,List.getElem_toArray,List.getElem_cons_succ,List.getElem_cons_zero,List.setIfInBounds_toArray,List.set_cons_zero,List.set_cons_succ];refine wpAnyH_take (i:=7) (v:=.pointer (some ⟨W.heap.size+1,1,none⟩)) rfl (by kernel_rfl) (by kernel_rfl) (by kernel_rfl) (fun _ _ _ h=>h) (Or.inl ⟨by kernel_rfl,fun w' hw'=>?_⟩) hHeld ?_
 ·obtain⟨q0,q1,q2,q3⟩:=hw';go_simp
 simp only[Act.put,List.getElem_toArray,List.getElem_cons_succ,List.getElem_cons_zero,List.setIfInBounds_toArray,List.set_cons_zero,List.set_cons_succ];refine wpAnyH_take (i:=8) (v:=.slice pb nb cb) rfl (by kernel_rfl) (by kernel_rfl) (by kernel_rfl) (fun _ _ _ h=>h) (Or.inl ⟨by kernel_rfl,fun w' hw'=>?_⟩) hHeld ?_
 ·obtain⟨q0,q1,q2,q3⟩:=hw';go_simp
 simp only[Act.put,List.getElem_toArray,List.getElem_cons_succ,List.getElem_cons_zero,List.setIfInBounds_toArray,List.set_cons_zero,List.set_cons_succ];refine wpAnyH_ready (rs:=[4]) (by kernel_rfl) (by simp) (AllReadyH.cons rfl (fun K hK=>?_) AllReadyH.nil);rw[if_pos (by kernel_rfl)]
 go_simp
 go_at_call 112
 refine (k0 _).mono ?_
 rintro e w5 ⟨rfl,rfl⟩
 go_wp2_with fail
 refine hK.out _ _ hHeld (fun hHeld=>?_);clear hK K;refine wpAnyH_ready (rs:=[9]) (by kernel_rfl) (by simp) (AllReadyH.cons rfl (fun K hK=>?_) AllReadyH.nil);rw[if_pos (by kernel_rfl)]
 go_simp
 go_at_call 113
 refine (k1 _ hCW).mono ?_
 rintro e w5 ⟨rfl,rfl⟩
 go_wp2_with fail
 refine hK.out _ _ hHeld (fun hHeld=>?_);clear hK K;refine wpAnyH_ready (rs:=[10]) (by kernel_rfl) (by simp) (AllReadyH.cons rfl (fun K hK=>?_) AllReadyH.nil);rw[if_pos (by kernel_rfl)]
 go_simp
 obtain⟨W3,hW3⟩:∃ W3,W3=(W2.alloc (Obj.cells #[Value.int IntKind.i64 c0,Value.int IntKind.i64 c1] 3)).drew:=⟨_,rfl⟩
 have g0:W3.heap[W.heap.size]? = some (.cells #[.int .i64 ra,.slice pa na ca] 41 (0,0)):=by
  rw[hW3];exact (heap_alloc_old _ _ (lt_of_block hea)).trans hea
 have g1:W3.heap[W.heap.size+1]? = some (.cells #[.int .i64 rb,.slice pb nb cb] 41 (0,0)):=by
  rw[hW3];exact (heap_alloc_old _ _ (lt_of_block heb)).trans heb
 have g2:W3.heap[W2.heap.size]? = some (.cells #[.int .i64 c0,.int .i64 c1] 3 (0,0)):=by
  rw[hW3];exact heap_alloc_new _ _
 have hg3:∃ q os,W3=grow (W.drewN q) os:=by
  obtain⟨os,rfl⟩:=hg;refine⟨1,os++#[Obj.cells #[Value.int IntKind.i64 c0,Value.int IntKind.i64 c1] 3],?_⟩;rw[hW3,alloc_eq_grow,grow_grow,drew_grow];rfl
 have f0:W3.cell? ⟨W2.heap.size,0,none⟩=some (.int .i64 c0):=by simp[World.cell?,g2]
 have f1:W3.cell? ⟨W2.heap.size,1,none⟩=some (.int .i64 c1):=by simp[World.cell?,g2]
 have K3:W3.cell? ⟨W.heap.size,0,none⟩=some (.int .i64 ra)∧W3.cell? ⟨W.heap.size,1,none⟩=some (.slice pa na ca)∧W3.cell? ⟨W.heap.size+1,0,none⟩=some (.int .i64 rb)∧W3.cell? ⟨W.heap.size+1,1,none⟩=some (.slice pb nb cb):=by
  refine⟨?_,?_,?_,?_⟩ <;> simp[World.cell?,g0,g1]
 rw[← hW3];clear hW3 hea heb;refine hK.out _ _ K3 (fun _=>?_);clear hK K;have kk:=Try.or111 c0 c1 W2.heap.size 2 W3 f0 f1;rw[← hr]at kk;refine wpAnyH_ready (rs:=[11]) (by kernel_rfl) (by simp) (AllReadyH.cons rfl (fun K hK=>?_) AllReadyH.nil);rw[if_pos (by kernel_rfl)]
 go_simp
 go_at_call 111
 refine kk.mono ?_
 rintro e w5 ⟨rfl,rfl⟩
 go_wp2_with fail
 refine hK.out _ _ K3 (fun _=>?_);clear hK K;refine wpAnyH_take (i:=12) (v:=.int .i64 r) rfl (by kernel_rfl) (by kernel_rfl) (by kernel_rfl) (fun _ _ _ h=>h) (Or.inl ⟨by kernel_rfl,fun w' hw'=>?_⟩) K3 ?_
 ·go_simp
 simp only[Act.put,List.getElem_toArray,List.getElem_cons_succ,List.getElem_cons_zero,List.setIfInBounds_toArray,List.set_cons_zero,List.set_cons_succ];refine wpAnyH_done (by kernel_rfl) ?_ _
 go_wp2
 go_ret
 exact⟨rfl,hg3⟩
end Go.Proofs
namespace Go.AM
open Go.RowKit Go.Sort Go.Proofs Go.Lib
def cfF (x y:apiFact):Int:=orI2 (cmpI x.qb y.qb) (cmpL x.qa y.qa)
def sortF (l:List apiFact):List apiFact:=l.mergeSort fun x y=>!ltOf cfF y x
theorem Yi (l:List apiFact):(sortF l).length=l.length:=by unfold sortF;exact List.length_mergeSort l
theorem cmpI_neg (x y:Int):cmpI y x = - cmpI x y:=by
 unfold cmpI
 by_cases h1:x<y
 ·have:¬ y<x:=by omega
  simp[h1,this]
 ·by_cases h2:y<x <;> simp[h1,h2]
theorem JZ (x y:Int):cmpI x y=0↔x=y:=by
 unfold cmpI
 by_cases h1:x<y
 ·simp[h1];omega
 ·by_cases h2:y<x
  ·simp[h1,h2];omega
  ·simp[h1,h2];omega
theorem Xf (x y:Int):cmpI x y<0↔x<y:=by
 unfold cmpI
 by_cases h1:x<y
 ·simp[h1]
 ·by_cases h2:y<x <;> simp[h1,h2]
theorem cmpL_neg:∀ a b:List Int,cmpL b a = - cmpL a b
 | [],[]=>rfl
 | [],_::_=>rfl
 | _::_,[]=>rfl
 | x::a,y::b=>by
  simp only[cmpL];rw[cmpL_neg a b,cmpI_neg x y]
  by_cases h:cmpI x y=0 <;> simp[h]
theorem cmpL_zero:∀ a b:List Int,cmpL a b=0↔a=b
 | [],[]=>by simp[cmpL]
 | [],_::_=>by simp[cmpL]
 | _::_,[]=>by simp[cmpL]
 | x::a,y::b=>by
  simp only[cmpL]
  by_cases h:cmpI x y=0
  ·rw[if_neg (by simpa using h),cmpL_zero a b,(JZ x y).1 h]
   simp
  ·rw[if_pos h]
   have:x≠y:=fun e=>h ((JZ x y).2 e)
   simp[h,this]
theorem cmpL_trans:∀ a b c:List Int,cmpL a b<0→cmpL b c<0→cmpL a c<0
 | [],_,[],h1,h2=>by
  rename_i b
  cases b with
  | nil=>simp[cmpL]at h1
  | cons y b=>simp[cmpL]at h2
 | [],_,_::_,_,_=>by simp[cmpL]
 | x::a,[],_,h1,_=>by simp[cmpL]at h1
 | x::a,y::b,[],_,h2=>by simp[cmpL]at h2
 | x::a,y::b,z::c,h1,h2=>by
  simp only[cmpL]at h1 h2 ⊢
  by_cases k1:cmpI x y=0
  ·have e1:=(JZ x y).1 k1;subst e1;rw[if_neg (by simpa using k1)]at h1
   by_cases k2:cmpI x z=0
   ·rw[if_neg (by simpa using k2)]at h2 ⊢;exact cmpL_trans a b c h1 h2
   ·rw[if_pos k2]at h2 ⊢;exact h2
  ·rw[if_pos k1,Xf]at h1
   by_cases k2:cmpI y z=0
   ·have e2:=(JZ y z).1 k2;subst e2;rw[if_pos k1,Xf];exact h1
   ·rw[if_pos k2,Xf]at h2;have h3:cmpI x z<0:=(Xf x z).2 (by omega);rw[if_pos (by omega)];exact h3
theorem cfF_neg (x y:apiFact):cfF y x = - cfF x y:=by
 unfold cfF orI2;rw[cmpI_neg x.qb y.qb,cmpL_neg x.qa y.qa]
 by_cases h:cmpI x.qb y.qb=0 <;> simp[h]
theorem cfF_zero (x y:apiFact):cfF x y=0↔x=y:=by
 unfold cfF orI2;obtain⟨a,b⟩:=x;obtain⟨c,d⟩:=y
 by_cases h:cmpI a c=0
 ·simp only[h,ne_eq,not_true_eq_false,if_false,cmpL_zero];rw[(JZ a c).1 h]
  simp
 ·have:a≠c:=fun e=>h ((JZ a c).2 e)
  simp[h,this]
theorem cfF_trans (x y z:apiFact) (h1:cfF x y<0) (h2:cfF y z<0):cfF x z<0:=by
 obtain⟨a,b⟩:=x;obtain⟨c,d⟩:=y;obtain⟨e,f⟩:=z;unfold cfF orI2 at *;simp only at *
 by_cases k1:cmpI a c=0
 ·have e1:=(JZ a c).1 k1;subst e1;rw[if_neg (by simpa using k1)]at h1
  by_cases k2:cmpI a e=0
  ·rw[if_neg (by simpa using k2)]at h2 ⊢;exact cmpL_trans _ _ _ h1 h2
  ·rw[if_pos k2]at h2 ⊢;exact h2
 ·rw[if_pos k1,Xf]at h1
  by_cases k2:cmpI c e=0
  ·have e2:=(JZ c e).1 k2;subst e2;rw[if_pos k1,Xf];exact h1
  ·rw[if_pos k2,Xf]at h2;have h3:cmpI a e<0:=(Xf a e).2 (by omega);rw[if_pos (by omega)];exact h3
theorem ltF (a b:apiFact):ltOf cfF a b=true↔cfF a b<0:=by
 have e:ltOf cfF a b=decide (cfF a b<0):=rfl;rw[e,decide_eq_true_eq]
theorem ltFf (a b:apiFact):ltOf cfF a b=false↔¬ cfF a b<0:=by
 rw[← ltF,Bool.not_eq_true]
theorem swoF:SWO (ltOf cfF) where
 irrefl x:=by rw[ltFf,(cfF_zero x x).2 rfl];omega
 trans x y z h1 h2:=by rw[ltF]at *;exact cfF_trans x y z h1 h2
 ntrans x y z h1 h2:=by
  rw[ltFf]at *;intro h3;have n1:=cfF_neg x y;have n2:=cfF_neg y z
  by_cases k1:cfF x y=0
  ·rw[(cfF_zero x y).1 k1]at h3;exact h2 h3
  ·by_cases k2:cfF y z=0
   ·rw[← (cfF_zero y z).1 k2]at h3;exact h1 h3
   ·have h4:=cfF_trans z y x (by omega) (by omega);have n3:=cfF_neg x z;omega
theorem totF (x y:apiFact) (h1:ltOf cfF x y=false) (h2:ltOf cfF y x=false):x=y:=by
 rw[ltFf]at h1 h2;have:=cfF_neg x y;exact (cfF_zero x y).1 (by omega)
theorem cells2 (l:List apiFact):∀ x,x∈l.map qv→x.cells.length=2:=by
 intro x hx;obtain⟨y,_,rfl⟩:=List.mem_map.1 hx;rfl
theorem flat2 (l:List apiFact) {j:Nat} (hj:j<l.length * 2):(flat (l.map qv))[j]? = (qv (l[j / 2]'(by omega))).cells[j % 2]?:=by
 have hd:j / 2<l.length:=by omega
 have h2:=QY (k:=2) (xs:=l.map qv) (i:=j / 2) (x:=qv l[j / 2]) (cells2 l) (by simp[hd]) (j % 2) (by omega);rw[show j / 2 * 2+j % 2=j by omega]at h2;exact h2
theorem sortF_of {n:Nat} (l:List apiFact) (hn:l.length=n) (s:List (Fin n)) (hs:s=(List.finRange n).mergeSort fun x y=>!ltOf (fun i j:Fin n=>cfF (l[i.1]'(by omega)) (l[j.1]'(by omega))) y x):sortF l=s.map fun i=>l[i.1]'(by omega):=by
 subst hn
 have e:l=(List.finRange l.length).map fun i=>l[i.1]:=by
  refine List.ext_getElem (by simp) fun i h1 h2=>?_
  simp
 subst hs;unfold sortF
 conv=>lhs;rw[e]
 rw[List.map_mergeSort];intro a _ b _;rfl
theorem sort109 {l:List apiFact} (hl:l.length<4611686018427387904) (hnd:l.Nodup) (hla:∀ f,f∈l→f.qa.length≤1000000) :
  CallMOk Try.prog 109 [.sb 2000000 41 2 0 l.length,.clo 110 []] [(2000000,.obj 41 2 (l.map qv))] (.tup []) [(2000000,.obj 41 2 ((sortF l).map qv))]:=by
 intro M O w vs hG hC hlen hO hOi hR hH
 obtain⟨v,fv,rfl⟩:∃ v fv,vs=[v,fv]:=by
  match vs,hlen with
  | [v,fv],_=>exact⟨v,fv,rfl⟩
 have hv:=hR 0 _ v rfl rfl;have hf:=(hR 1 _ fv rfl rfl).1;have ho:=hH 2000000 (.obj 41 2 (l.map qv)) rfl;obtain⟨q1,q2⟩:=hv;obtain⟨k0,k1,k2,k3⟩:=ho
 obtain rfl:fv=.func (.func 110) #[] #[]:=by
  generalize hx:AV.clo 110 []=x at hf
  have hx':x.strip=x:=by rw[← hx];rfl
  rw[hx']at hf
  cases hf with
  | clo e1 e2 =>
   rename_i vs;cases hx
   match vs,e1 with
   | [],_=>rfl
  | _=>cases hx
 have aE:∀ w,(isAgg 41).run Try.prog w=.ok true w:=Try.isAgg41;have zE:∀ w,(Go.sizeOf 41).run Try.prog w=.ok 2 w:=Try.sizeOf41
 by_cases hne:l=[]
 ·subst hne
  have q2':∃ p cap,v=.slice p 0 cap:=by
   rcases q2 with ⟨_,ad,rfl⟩ | ⟨g,cap,rfl,_⟩
   ·exact⟨_,_,rfl⟩
   ·exact⟨_,_,rfl⟩
  obtain⟨p,cap,rfl⟩:=q2';refine (Try.slices_SortFunc_none (α:=Nat) p cap _ w).mono ?_
  rintro ed w' ⟨rfl,rfl⟩
  have es:sortF []=[]:=by simp[sortF]
  refine⟨_,M,O,rfl,BelowD.refl _ _,Sub.refl M,hC,fun _ _ _ _=>rfl,fun i c g hh=>?_,fun i i' c c' g hh hh'=>?_,fun c _ _=>Gh.Eq1.refl O c,⟨.tup (vs:=[]) rfl (fun j c v hc=>by simp at hc),trivial⟩,fun id x hx=>?_⟩
  ·obtain⟨rfl,h2⟩:=hO i c g hh;exact⟨h2,.inr ⟨c,hh⟩⟩
  ·obtain⟨rfl,_⟩:=hO i c g hh;obtain⟨rfl,_⟩:=hO i' c' g hh';exact⟨rfl,hOi c c' g hh hh'⟩
  ·simp only[look]at hx
   split at hx
   ·rename_i hb;cases hx;obtain rfl:=(Nat.eq_of_beq_eq_true hb).symm;rw[es];exact⟨k0,k1,k2,k3⟩
   ·cases hx
 have hpos:0<l.length:=List.length_pos_iff.2 hne
 rcases q2 with ⟨h0,_⟩ | ⟨g,cap,rfl,p1,p2,p3,p4⟩
 ·omega
 rcases k3 with ⟨h0,_⟩ | ⟨g',cur,r1,r2,r3,r4,r5,r6⟩
 ·exact absurd (List.map_eq_nil_iff.1 h0) hne
 have hgg:g'=g:=by rw[p1]at r1;exact (Option.some.inj r1).symm
 subst hgg
 have r4':l.length * 2≤cur.size:=by simpa using r4
 have hb:=r2.plain (by omega);have hgs:g'<w.heap.size:=(hO _ _ _ p1).2;obtain⟨n,hn⟩:∃ n,n=l.length:=⟨_,rfl⟩
 haveI:Inhabited (Fin n):=⟨⟨0,by omega⟩⟩
 let enc:Fin n→List Value:=fun i=>[.int .i64 (l[i.1]'(by omega)).qb,cur[i.1 * 2+1]'(by omega)]
 let cf:Fin n→Fin n→Int:=fun i j=>cfF (l[i.1]'(by omega)) (l[j.1]'(by omega))
 have hrel:∀ i (hi:i<l.length),cur[i * 2]? = some (.int .i64 l[i].qb):=fun i hi=>by
  have h1:=r6 (i * 2) (.int .i64 l[i].qb) (cur[i * 2]'(by omega)) (by
   rw[flat2 l (by omega)]
   have e1:i * 2 / 2=i:=by omega
   have e2:i * 2 % 2=0:=by omega
   simp only[e1,e2]
   rfl) (by rw[Array.getElem?_eq_getElem])
  rw[Array.getElem?_eq_getElem (by omega),h1.int_inv]
 have harg:∀ i (hi:i<l.length),R M (l3 none l[i].qa) (cur[i * 2+1]'(by omega)):=fun i hi=>by
  refine r6 (i * 2+1) (l3 none l[i].qa) (cur[i * 2+1]'(by omega)) ?_ (by rw[Array.getElem?_eq_getElem]);rw[flat2 l (by omega)]
  have e1:(i * 2+1) / 2=i:=by omega
  have e2:(i * 2+1) % 2=1:=by omega
  simp only[e1,e2];rfl
 have hone:∀ (x:Fin n) v,v∈enc x→v.oneCell'=true:=fun x v hv=>by
  rcases List.mem_cons.1 hv with rfl | hv
  ·rfl
  ·obtain rfl:=List.mem_singleton.1 hv;obtain⟨a,c,e⟩:=slice_form2 (harg x.1 (by omega));rw[e];rfl
 obtain⟨d,hd⟩:∃ d:Array (Fin n),d=(List.finRange n).toArray:=⟨_,rfl⟩
 have hds:d.size=l.length:=by rw[hd];simp[hn]
 have hdat:∀ i (hi:i<n),d[i]! = ⟨i,hi⟩:=fun i hi=>by
  rw[hd]
  simp[hi]
 have hflat:∀ (s:Array (Fin n)) (j:Nat),j<s.size * 2→(flatK enc 2 s)[j]! = (enc s[j / 2]!)[j % 2]!:=fun s j hj=>get_flatK _ _ _ j hj
 have hHd:HoldsK enc 2 w g' 0 d:=by
  intro j hj
  have hj':j<l.length * 2:=by simpa[hds] using hj
  constructor
  ·simp only[World.cell?,hb,Nat.zero_add,Option.isSome_none,Bool.false_eq_true,if_false];have e0:=hflat d j (by omega);rw[hdat _ (by omega)]at e0;show cur[j]? = some (flatK enc 2 d)[j]!;rw[e0]
   rcases Nat.mod_two_eq_zero_or_one j with h0 | h0
   ·have:=hrel (j / 2) (by omega);rw[show j / 2 * 2=j by omega]at this;rw[this,h0];rfl
   ·rw[h0]
    have e1:j / 2 * 2+1=j:=by omega
    show cur[j]? = some (cur[j / 2 * 2+1]'(by omega));simp only[e1];rw[Array.getElem?_eq_getElem (by omega)]
  ·simp[World.frozen?,hb]
 have eg:∀ args w,(callFunc 110 args).run Try.prog w=.ok (.enter 110 args) w:=enters_of Try.func110 (by kernel_rfl) rfl
 have hbk0:∀ (m:Nat) (os:Array Obj) (dk:Array (Fin n)),∀ q,q<w.heap.size→q≠g'→(sortWorldK enc 2 w g' 0 m dk os).heap[q]? = w.heap[q]?:=by
  intro m os dk q hq hne2;show (grow (Go.Sort.putRow id (Sort.ahead w m) g' 0 (flatK enc 2 dk)) os).heap[q]? = _;rw[heap_grow_old _ _ (by simpa using hq)]
  have:g'≠q:=fun e=>hne2 e.symm
  simp[Go.Sort.putRow,mapBlock,Sort.ahead,Array.getElem?_modify,this]
 have hCk:∀ (m:Nat) (os:Array Obj) (dk:Array (Fin n)),Cons M (sortWorldK enc 2 w g' 0 m dk os):=fun m os dk b o u hu=>by
  have h1:=hC b o u hu
  have hne2:b≠g':=fun e1=>by rw[e1,r5]at hu;cases hu
  rw[Qk (hbk0 m os dk b (mc_lt h1) hne2)];exact h1
 have hcmp:CmpLays Try.prog 110 #[] enc 2 cf g' 0 d.size w:=by
  intro m os dk hs x y;exact Try.cmp110 _ _ _ _ _ _ M _ (hCk m os dk) (harg x.1 (by omega)) (harg y.1 (by omega)) (hla _ (List.getElem_mem _))
 have hswo:SWO (ltOf cf):=⟨fun x=>swoF.irrefl _,fun x y z h1 h2=>swoF.trans _ _ _ h1 h2,fun x y z h1 h2=>swoF.ntrans _ _ _ h1 h2⟩
 have htot:∀ x y:Fin n,ltOf cf x y=false→ltOf cf y x=false→x=y:=fun x y h1 h2=>by
  have:=totF _ _ h1 h2;exact Fin.ext ((List.getElem_inj hnd).1 this)
 have hcon:=Try.slices_SortFunc_total (α:=Fin n) 2 aE zE enc (fun _=>rfl) hone cf hswo 110 #[] g' 0 cap d w eg hcmp hHd hgs (by rw[hds];exact hl) htot;rw[hds]at hcon;refine hcon.mono ?_
 rintro ed w' ⟨rfl,m,os,hw⟩
 obtain⟨s,hs⟩:∃ s,s=(d.toList.mergeSort fun x y=>!(ltOf cf) y x):=⟨_,rfl⟩;rw[← hs]at hw
 have hsl:s.length=l.length:=by rw[hs,List.length_mergeSort,Array.length_toList,hds]
 have hsort:sortF l=s.map fun i=>l[i.1]'(by omega):=by
  refine sortF_of l hn.symm s ?_;rw[hs,hd]
 have hw2:w'=grow (Go.Sort.putRow id (Sort.ahead w m) g' 0 (flatK enc 2 s.toArray)) os:=hw
 have hb':w'.heap[g']? = some (.cells (putCells id 0 (flatK enc 2 s.toArray) cur) 41 (0,0)):=by
  subst hw2;rw[heap_grow_old _ _ (by simpa using hgs)]
  simp[Go.Sort.putRow,mapBlock,Sort.ahead,Array.getElem?_modify,hb,onCells]
 have hbk:∀ q,q<w.heap.size→q≠g'→w'.heap[q]? = w.heap[q]?:=fun q hq hne2=>by rw[hw];exact hbk0 m os _ q hq hne2
 have hszw:w.heap.size≤w'.heap.size:=by subst hw2;simp[grow]
 have hps:(putCells id 0 (flatK enc 2 s.toArray) cur).size=cur.size:=by simp[putCells]
 refine⟨_,M,O,rfl,⟨by subst hw2;rfl,by subst hw2;rfl,by subst hw2;rfl,hszw,fun q hq=>hbk q hq.1 fun e1=>hq.2 2000000 (by rw[e1];exact p1)⟩,Sub.refl M,?_,fun _ _ _ _=>rfl,fun i c g hh=>?_,fun i i' c c' g hh hh'=>?_,fun c _ _=>Gh.Eq1.refl O c,⟨.tup (vs:=[]) rfl (fun j c v hc=>by simp at hc),trivial⟩,fun id x hx=>?_⟩
 ·rw[hw];exact hCk m os _
 ·obtain⟨rfl,h2⟩:=hO i c g hh;exact⟨Nat.lt_of_lt_of_le h2 hszw,.inr ⟨c,hh⟩⟩
 ·obtain⟨rfl,_⟩:=hO i c g hh;obtain⟨rfl,_⟩:=hO i' c' g hh';exact⟨rfl,hOi c c' g hh hh'⟩
 ·simp only[look]at hx
  split at hx
  ·rename_i hbq;cases hx;obtain rfl:=(Nat.eq_of_beq_eq_true hbq).symm;refine⟨k0,fun y hy=>?_,by simpa[Yi] using k2,.inr ⟨g',_,p1,RowAt.of hb',by rw[hps];exact r3,by rw[hps];simpa[Yi] using r4,r5,fun j c u hc hu=>?_⟩⟩
   ·obtain⟨z,_,rfl⟩:=List.mem_map.1 hy;exact⟨rfl,rfl⟩
   ·have hjl:j<(sortF l).length * 2:=by
     have h1:=(List.getElem?_eq_some_iff.1 hc).1;rw[qW (cells2 _)]at h1
     simpa using h1
    rw[flat2 _ hjl]at hc;rw[Yi]at hjl
    have hjc:j<cur.size:=by omega
    have hput:(putCells id 0 (flatK enc 2 s.toArray) cur)[j]? = some ((flatK enc 2 s.toArray)[j]!):=by
     have hz:(flatK enc 2 s.toArray).size=l.length * 2:=by simp[hsl]
     simp only[putCells,Array.getElem?_mapIdx,Array.getElem?_eq_getElem hjc,Option.map_some,hz];rw[if_pos (by omega)]
     simp
    rw[hput,hflat _ _ (by simpa[hsl] using hjl)]at hu
    have hsj:j / 2<s.length:=by omega
    have e1:s.toArray[j / 2]! = s[j / 2]:=by simp[hsj]
    have e2:(sortF l)[j / 2]'(by rw[Yi];omega)=l[(s[j / 2]).1]'(by omega):=by
     simp only[hsort,List.getElem_map]
    rw[e1]at hu;rw[e2]at hc;have hu:=Option.some.inj hu;subst hu
    rcases Nat.mod_two_eq_zero_or_one j with h0 | h0
    ·rw[h0]at hc ⊢;cases hc;exact .int _ _
    ·rw[h0]at hc ⊢;cases hc;exact harg _ (by omega)
  ·cases hx
end Go.AM
