import Derived.Ground.SlsfProg
import Derived.Shelf.SlSortCmp.NoneTotal
import Derived.Test.YtdghpfejmlpjhaaProg
import Derived.Test.YtdghpfejmlpjhaaRCon3
import Derived.Test.YtdghpfejmlpjhaaRA1
import Derived.Sort.Grow
import Derived.Test.YtdghpfejmlpjhaaRAT
import Derived.Test.YtdghpfejmlpjhaaAWq
import Derived.Test.YtdghpfejmlpjhaaChecked
import Derived.Test.YtdghpfejmlpjhaaASimM
import Derived.Test.YtdghpfejmlpjhaaRInst
set_option linter.all false
set_option maxRecDepth 100000
set_option maxRecDepth 1000000
open Option renaming bind_some→A0
open List renaming mem_cons_self→A1, getElem_cons_succ→A2, mem_cons→A3, getElem_toArray→A4, getElem_cons_zero→A5, setIfInBounds_toArray→A6, set_cons_zero→A7, set_cons_succ→A8, mem_cons_of_mem→A9, length_map→B0, map→C7, append_assoc→D0, range→D1, drop_eq_getElem_cons→D2, map_cons→D7, mem_append_left→D9, finRange→E7, length_append→E9, take_of_length_le→F6, take_succ_cons→F7, drop_eq_nil_of_le→F9, length_mergeSort→G0, getD_eq_getElem?_getD→G4, getElem?_eq_getElem→G5
open Int renaming toNat→B1
open Go.IntKind renaming wrap→B4, i64→D3
open Bool renaming not_true→B7, not_false→C0, not_eq_true'→D4, or_eq_true→D5, and_eq_true→D6, false_eq_true→E8
open Go.World renaming cell?→C8
open Array renaming getElem?_eq_getElem→C9, getElem?_modify→G3
open Nat renaming or_lt_two_pow→D8, lt_or_ge→E0, testBit_or→F8, eq_of_beq_eq_true→G1, mod_two_eq_zero_or_one→G2, testBit_lt_two_pow→G6
namespace Go.Proofs
open Go.Shelf
def Try.laysSlF06_f109_ren:Go.Shelf.Ren:=⟨fun | 6=>109 | 15=>126 | 14=>125 | 28=>139 | 29=>140 | 20=>131 | 21=>132 | 22=>133 | 23=>134 | 24=>135 | 25=>136 | 26=>137 | 27=>138 | 46=>141 | 47=>142 | 48=>143 | 49=>144 | 50=>145 | 57=>146 | n=>n,fun | 22=>23 | 24=>41 | 25=>176 | 3=>3 | 39=>49 | 0=>0 | 53=>204 | 55=>206 | 4=>4 | 46=>197 | 45=>196 | 50=>201 | 5=>5 | 9=>9 | 66=>207 | 70=>163 | 76=>212 | 77=>81 | n=>n,fun | n=>n⟩
theorem Try.laysSlF06_f109:Go.Proofs.SlLaysF0.n6 Try.prog Try.laysSlF06_f109_ren:={
 mixed:=by kernel_rfl
 f6:=⟨Try.f109.name,by decide,Try.func109.trans (congrArg some (by kernel_rfl))⟩
 f14:=⟨Try.f125.name,by decide,Try.func125.trans (congrArg some (by kernel_rfl))⟩
 f15:=Try.func126.trans (congrArg some (by kernel_rfl))
 f20:=⟨Try.f131.name,by decide,Try.func131.trans (congrArg some (by kernel_rfl))⟩
 f21:=⟨Try.f132.name,by decide,Try.func132.trans (congrArg some (by kernel_rfl))⟩
 f22:=⟨Try.f133.name,by decide,Try.func133.trans (congrArg some (by kernel_rfl))⟩
 f23:=⟨Try.f134.name,by decide,Try.func134.trans (congrArg some (by kernel_rfl))⟩
 f24:=⟨Try.f135.name,by decide,Try.func135.trans (congrArg some (by kernel_rfl))⟩
 f25:=⟨Try.f136.name,by decide,Try.func136.trans (congrArg some (by kernel_rfl))⟩
 f26:=⟨Try.f137.name,by decide,Try.func137.trans (congrArg some (by kernel_rfl))⟩
 f27:=⟨Try.f138.name,by decide,Try.func138.trans (congrArg some (by kernel_rfl))⟩
 f28:=Try.func139.trans (congrArg some (by kernel_rfl))
 f29:=Try.func140.trans (congrArg some (by kernel_rfl))
 f46:=⟨Try.f141.name,by decide,Try.func141.trans (congrArg some (by kernel_rfl))⟩
 f47:=Try.func142.trans (congrArg some (by kernel_rfl))
 f48:=Try.func143.trans (congrArg some (by kernel_rfl))
 f49:=⟨Try.f144.name,by decide,Try.func144.trans (congrArg some (by kernel_rfl))⟩
 f50:=⟨Try.f145.name,by decide,Try.func145.trans (congrArg some (by kernel_rfl))⟩
 f57:=⟨Try.f146.name,by decide,Try.func146.trans (congrArg some (by kernel_rfl))⟩
 t0:=Try.underlying0
 a0:=Try.isAgg0
 z0:=Try.sizeOf0
 v0:=Try.zeroValue0
 t3:=Try.underlying3
 a3:=Try.isAgg3
 z3:=Try.sizeOf3
 v3:=Try.zeroValue3
 t4:=Try.underlying4
 a4:=Try.isAgg4
 z4:=Try.sizeOf4
 v4:=Try.zeroValue4
 t5:=Try.underlying5
 a5:=Try.isAgg5
 z5:=Try.sizeOf5
 v5:=Try.zeroValue5
 t9:=Try.underlying9
 a9:=Try.isAgg9
 z9:=Try.sizeOf9
 v9:=Try.zeroValue9
 t22:=Try.underlying23
 a22:=Try.isAgg23
 z22:=Try.sizeOf23
 v22:=Try.zeroValue23
 t25:=Try.underlying176
 a25:=Try.isAgg176
 z25:=Try.sizeOf176
 v25:=Try.zeroValue176
 t39:=Try.underlying49
 a39:=Try.isAgg49
 z39:=Try.sizeOf49
 v39:=Try.zeroValue49
 t45:=Try.underlying196
 a45:=Try.isAgg196
 z45:=Try.sizeOf196
 v45:=Try.zeroValue196
 t46:=Try.underlying197
 a46:=Try.isAgg197
 z46:=Try.sizeOf197
 v46:=Try.zeroValue197
 t50:=Try.underlying201
 a50:=Try.isAgg201
 z50:=Try.sizeOf201
 v50:=Try.zeroValue201
 t53:=Try.underlying204
 a53:=Try.isAgg204
 z53:=Try.sizeOf204
 v53:=Try.zeroValue204
 t55:=Try.underlying206
 a55:=Try.isAgg206
 z55:=Try.sizeOf206
 v55:=Try.zeroValue206
 t66:=Try.underlying207
 a66:=Try.isAgg207
 z66:=Try.sizeOf207
 v66:=Try.zeroValue207
 t70:=Try.underlying163
 a70:=Try.isAgg163
 z70:=Try.sizeOf163
 v70:=Try.zeroValue163
 t76:=Try.underlying212
 a76:=Try.isAgg212
 z76:=Try.sizeOf212
 v76:=Try.zeroValue212
 t77:=Try.underlying81
 a77:=Try.isAgg81
 z77:=Try.sizeOf81
 v77:=Try.zeroValue81 }
open Go.RowKit Go.Lib Go.Sort in
theorem Try.slices_SortFunc_none {α:Type} [Inhabited α] (p:Option Addr) (cap:Nat) (fv:Value) (w:World) :
  Calls Try.prog 109 #[.slice p 0 cap,fv] w fun e w'=>e=.returned (.tuple #[])∧w'=w:=AnyF.slices_SortFunc_none Try.laysSlF06_f109 p cap fv w
open Go.RowKit Go.Lib Go.Sort in
theorem Try.slices_SortFunc_total {α:Type} [Inhabited α] (k:Nat) (aE:∀ w,(isAgg 41).run Try.prog w=.ok true w) (zE:∀ w,(Go.sizeOf 41).run Try.prog w=.ok k w) (enc:α→List Value) (hk:∀ x,(enc x).length=k) (h1:∀ x,∀ v∈enc x,v.oneCell'=true) (cf:α→α→Int) (hO:SWO (ltOf cf)) (g:Nat) (cb:Array Value) (blk off cap:Nat) (d:Array α) (w:World) (eg:∀ args w,(callFunc g args).run Try.prog w=.ok (.enter g args) w) (hcmp:CmpLays Try.prog g cb enc k cf blk off d.size w) (hH:HoldsK enc k w blk off d) (hblk:blk<w.heap.size) (hsz:d.size<4611686018427387904) (hT:∀ x y,(ltOf cf) x y=false→(ltOf cf) y x=false→x=y) :
  Calls Try.prog 109 #[.slice (some ⟨blk,off,none⟩) d.size cap,.func (.func g) #[] cb] w fun e w' =>
   e=.returned (.tuple #[])∧∃ n os,w'=sortWorldK enc k w blk off n (d.toList.mergeSort fun x y=>!(ltOf cf) y x).toArray os:=AnyQ.slices_SortFunc_total Try.laysSlF06_f109 k aE zE enc hk h1 cf hO g cb blk off cap d w eg hcmp hH hblk hsz hT
end Go.Proofs
namespace Go.Proofs
open Go.RowKit Go.Sort Go.AM Go.Lib
def cmpI (x y:Int):Int:=if x<y then -1 else if y<x then 1 else 0
def orI2 (x y:Int):Int:=if x≠0 then x else y
def cmpL:List Int→List Int→Int
 | [],[]=>0
 | [],_::_ => -1
 | _::_,[]=>1
 | x::a,y::b=>if cmpI x y≠0 then cmpI x y else cmpL a b
set_option maxHeartbeats 4000000 in
theorem Try.cmp112 (x y:Int) (W:World):Calls Try.prog 112 #[.int .i64 x,.int .i64 y] W fun e w'=>e=.returned (.int .i64 (cmpI x y))∧w'=W:=by
 have t3:=Try.underlying3;have a3:=Try.isAgg3;have z3:=Try.sizeOf3;have v3:=Try.zeroValue3;have u3:=run_underlying Try.underlying3;have t4:=Try.underlying4;have a4:=Try.isAgg4;have z4:=Try.sizeOf4;have v4:=Try.zeroValue4;have u4:=run_underlying Try.underlying4;unfold cmpI
 go_enter Try.func112,Try.ntmps112
 by_cases h1:x<y
 ·go_wp2
  go_ret
  simp[h1]
 ·by_cases h2:y<x
  ·go_wp2
   go_ret
   simp[h1,h2]
  ·go_wp2
   go_ret
   simp[h1,h2]
set_option maxHeartbeats 4000000 in
theorem Try.or111 (x y:Int) (g cap:Nat) (W:World) (h0:W.cell? ⟨g,0,none⟩=some (.int .i64 x)) (h1:W.cell? ⟨g,1,none⟩=some (.int .i64 y)):Calls Try.prog 111 #[.slice (some ⟨g,0,none⟩) 2 cap] W fun e w'=>e=.returned (.int .i64 (orI2 x y))∧w'=W:=by
 have t3:=Try.underlying3;have a3:=Try.isAgg3;have z3:=Try.sizeOf3;have v3:=Try.zeroValue3;have u3:=run_underlying Try.underlying3;have t4:=Try.underlying4;have a4:=Try.isAgg4;have z4:=Try.sizeOf4;have v4:=Try.zeroValue4;have u4:=run_underlying Try.underlying4;have t39:=Try.underlying39;have a39:=Try.isAgg39;have z39:=Try.sizeOf39;have v39:=Try.zeroValue39;have u39:=run_underlying Try.underlying39;obtain⟨r,hr⟩:∃ r,r=orI2 x y:=⟨_,rfl⟩;rw[← hr]
 go_enter Try.func111,Try.ntmps111
 go_wp2
 go_loop [8] (fun i=>∃ k:Nat,k≤2∧i=.int .i64 k∧(1≤k→x=0)∧(2≤k→y=0)) (fun i=>2 - (RowKit.intOf i).toNat)
 case atStart=>exact⟨0,by omega,rfl,fun h=>by omega,fun h=>by omega⟩
 case round =>
  obtain⟨k,hk,rfl,k1,k2⟩:=hrel
  match k,hk with
  | 0,_ =>
   by_cases hx:x=0
   ·subst hx
    go_wp2
    go_round
    case rel=>exact⟨1,by omega,rfl,by simp_all,by simp_all⟩
    case measure=>simp[RowKit.intOf]
   ·go_wp2
    go_ret
    simp[orI2,hx]
  | 1,_ =>
   have hx:=k1 (by omega);by_cases hy:y=0
   ·subst hy
    go_wp2
    go_round
    case rel=>exact⟨2,by omega,rfl,by simp_all,by simp_all⟩
    case measure=>simp[RowKit.intOf]
   ·go_wp2
    go_ret
    simp[orI2,hx,hy]
  | 2,_ =>
   have hx:=k1 (by omega);have hy:=k2 (by omega)
   go_wp2
   go_ret
   simp[orI2,hx,hy]
theorem qin {a b:List Int} {k:Nat} (ha:k<a.length) (hb:k<b.length):cmpL (a.drop k) (b.drop k)=if cmpI a[k] b[k]≠0 then cmpI a[k] b[k] else cmpL (a.drop (k+1)) (b.drop (k+1)):=by
 rw[D2 ha,D2 hb,cmpL]
theorem UY {M:Mem} {e k:Nat} {l:Option Nat} {xs:List AV} {v:Value} (h:R M (.lst e k l xs) v):∃ a cap,v=.slice a xs.length cap:=by
 cases h with
 | lstn=>exact⟨none,0,rfl⟩
 | lste _ _ _ ad cap=>exact⟨some ad,cap,rfl⟩
 | lst us h1 h2 h5 h3 h4=>exact⟨_,_,rfl⟩
set_option maxHeartbeats 4000000 in
theorem Try.cmp113 (a b:List Int) (va vb:Value) (M:Mem) (W:World) (hC:Cons M W) (ra:R M (l3 none a) va) (rb:R M (l3 none b) vb) (hla:a.length≤1000000):Calls Try.prog 113 #[va,vb] W fun e w'=>e=.returned (.int .i64 (cmpL a b))∧w'=W:=by
 have t3:=Try.underlying3;have a3:=Try.isAgg3;have z3:=Try.sizeOf3;have v3:=Try.zeroValue3;have u3:=run_underlying Try.underlying3;have t4:=Try.underlying4;have a4:=Try.isAgg4;have z4:=Try.sizeOf4;have v4:=Try.zeroValue4;have u4:=run_underlying Try.underlying4;have t39:=Try.underlying39;have a39:=Try.isAgg39;have z39:=Try.sizeOf39;have v39:=Try.zeroValue39;have u39:=run_underlying Try.underlying39;obtain⟨pa,ca,rfl,ha⟩:=qam (l:=a) ra;obtain⟨pb,cb,rfl,hb⟩:=qam (l:=b) rb;have hcmp:=Try.cmp112;obtain⟨r,hr⟩:∃ r,r=cmpL a b:=⟨_,rfl⟩;rw[← hr];have HR:=(show Hid _ from hr);clear hr
 go_enter Try.func113,Try.ntmps113
 go_wp2
 go_loop [11] (fun i=>∃ k:Nat,k≤a.length∧k≤b.length∧i=.int .i64 k∧r=cmpL (a.drop k) (b.drop k)) (fun i=>a.length - (RowKit.intOf i).toNat)
 case atStart=>exact⟨0,Nat.zero_le _,Nat.zero_le _,rfl,HR.out⟩
 case round =>
  obtain⟨k,hk,hkb,rfl,hrk⟩:=hrel
  rcases E0 k a.length with h1 | h1
  ·obtain⟨ga,oa,rfl,hMa⟩:=ha k h1;have fa:=Qj (hC _ _ _ hMa) rfl;have i0:(0:Int)≤(k:Int):=Int.natCast_nonneg _
   have i1:(k:Int)<(a.length:Int):=by omega
   rcases E0 k b.length with h2 | h2
   ·obtain⟨gb,ob,rfl,hMb⟩:=hb k h2;have fb:=Qj (hC _ _ _ hMb) rfl
    have i2:(k:Int)<(b.length:Int):=by omega
    have n1:¬ (b.length:Int)≤(k:Int):=by omega
    have hst:=qin h1 h2;rw[← hrk]at hst;generalize a[k]=x at fa hst;generalize b[k]=y at fb hst;have hc:=hcmp x y W;generalize cmpI x y=c at hst hc;clear ha hb hcmp hrk;by_cases h0:c=0
    ·subst h0
     go_wp2_with fail
     refine hc.mono ?_
     rintro e w5 ⟨rfl,rfl⟩
     go_wp2
     go_round
     case rel=>exact⟨k+1,h1,h2,by go_num,by simpa using hst⟩
     case measure=>simp[RowKit.intOf];omega
    ·rw[if_pos h0]at hst
     go_wp2_with fail
     refine hc.mono ?_
     rintro e w5 ⟨rfl,rfl⟩
     go_wp2
     go_ret
     (first | exact⟨rfl,rfl⟩ | (refine⟨?_,rfl⟩;rw[hst];done) | (refine⟨?_,rfl⟩;rw[hst];rfl))
   ·have n1:(b.length:Int)≤(k:Int):=by omega
    have hst:r=1:=by
     rw[hrk,F9 h2,D2 h1];rfl
    clear ha hb hcmp hrk;generalize a[k]=x at fa
    go_wp2
    go_ret
    (first | exact⟨rfl,rfl⟩ | (refine⟨?_,rfl⟩;rw[hst];done) | (refine⟨?_,rfl⟩;rw[hst];rfl))
  ·have hkl:k=a.length:=by omega
   subst hkl;rw[List.drop_length]at hrk
   rcases E0 a.length b.length with h2 | h2
   ·have hst:r = -1:=by
     rw[hrk,D2 h2];rfl
    have n1:(a.length:Int)<(b.length:Int):=by omega
    clear hrk
    go_wp2
    go_ret
    (first | exact⟨rfl,rfl⟩ | (refine⟨?_,rfl⟩;rw[hst];done) | (refine⟨?_,rfl⟩;rw[hst];rfl))
   ·have hst:r=0:=by
     rw[hrk,F9 h2];rfl
    have n1:¬ (a.length:Int)<(b.length:Int):=by omega
    clear hrk
    go_wp2
    go_ret
    (first | exact⟨rfl,rfl⟩ | (refine⟨?_,rfl⟩;rw[hst];done) | (refine⟨?_,rfl⟩;rw[hst];rfl))
set_option maxHeartbeats 8000000 in
theorem Try.cmp110 (ra rb:Int) (a b:List Int) (va vb:Value) (M:Mem) (W:World) (hC:Cons M W) (hva:R M (l3 none a) va) (hvb:R M (l3 none b) vb) (hla:a.length≤1000000) :
  Calls Try.prog 110 #[.agg #[.int .i64 ra,va],.agg #[.int .i64 rb,vb]] W fun e w'=>e=.returned (.int .i64 (orI2 (cmpI ra rb) (cmpL a b)))∧∃ q os,w'=grow (W.drewN q) os:=by
 have mixed:=mixedP;have t3:=Try.underlying3;have a3:=Try.isAgg3;have z3:=Try.sizeOf3;have v3:=Try.zeroValue3;have u3:=run_underlying Try.underlying3;have t4:=Try.underlying4;have a4:=Try.isAgg4;have z4:=Try.sizeOf4;have v4:=Try.zeroValue4;have u4:=run_underlying Try.underlying4;have t39:=Try.underlying39;have a39:=Try.isAgg39;have z39:=Try.sizeOf39;have v39:=Try.zeroValue39;have u39:=run_underlying Try.underlying39;have t41:=Try.underlying41;have a41:=Try.isAgg41;have z41:=Try.sizeOf41;have v41:=Try.zeroValue41;have u41:=run_underlying Try.underlying41;obtain⟨pa,ca,eva⟩:=UY hva;obtain⟨pb,cb,evb⟩:=UY hvb;obtain⟨c0,hc0⟩:∃ c,c=cmpI ra rb:=⟨_,rfl⟩;obtain⟨c1,hc1⟩:∃ c,c=cmpL a b:=⟨_,rfl⟩
 have k0:∀ w,Calls Try.prog 112 #[.int .i64 ra,.int .i64 rb] w fun e w'=>e=.returned (.int .i64 c0)∧w'=w:=fun w=>by rw[hc0];exact Try.cmp112 ra rb w
 have k1:∀ w,Cons M w→Calls Try.prog 113 #[va,vb] w fun e w'=>e=.returned (.int .i64 c1)∧w'=w:=fun w hw=>by rw[hc1];exact Try.cmp113 a b va vb M w hw hva hvb hla
 rw[← hc0,← hc1];clear hc0 hc1;obtain⟨r,hr⟩:∃ r,r=orI2 c0 c1:=⟨_,rfl⟩;rw[← hr];subst eva evb;generalize hna:(C7 (AV.int .i64) a).length=na at *;generalize hnb:(C7 (AV.int .i64) b).length=nb at *;clear hna hnb
 go_enter Try.func110,Try.ntmps110
 go_wp2_with fail
 obtain⟨W2,hW2⟩:∃ W2,W2=(W.alloc (.cells #[.int .i64 ra,.slice pa na ca] 41)).alloc (.cells #[.int .i64 rb,.slice pb nb cb] 41):=⟨_,rfl⟩
 have hea:W2.heap[W.heap.size]? = some (.cells #[.int .i64 ra,.slice pa na ca] 41 (0,0)):=by
  rw[hW2,heap_alloc_old _ _ (by simp)];exact heap_alloc_new _ _
 have heb:W2.heap[W.heap.size+1]? = some (.cells #[.int .i64 rb,.slice pb nb cb] 41 (0,0)):=by
  have:=heap_alloc_new (W.alloc (.cells #[.int .i64 ra,.slice pa na ca] 41)) (.cells #[.int .i64 rb,.slice pb nb cb] 41);rw[hW2]
  simpa using this
 have hg:∃ os,W2=grow W os:=⟨_,by rw[hW2,alloc_eq_grow,alloc_eq_grow,grow_grow]⟩
 have hCW:Cons M W2.drew:=by rw[hW2];exact (hC.alloc _).alloc _
 rw[← hW2];clear hW2
 have K0:W2.cell? ⟨W.heap.size,0,none⟩=some (.int .i64 ra)∧W2.cell? ⟨W.heap.size,1,none⟩=some (.slice pa na ca)∧W2.cell? ⟨W.heap.size+1,0,none⟩=some (.int .i64 rb)∧W2.cell? ⟨W.heap.size+1,1,none⟩=some (.slice pb nb cb):=by
  refine⟨?_,?_,?_,?_⟩<;>simp[C8,hea,heb]
 refine wp_region_held_drew (S:=(fun w'=>w'.cell? ⟨W.heap.size,0,none⟩=some (.int .i64 ra)∧w'.cell? ⟨W.heap.size,1,none⟩=some (.slice pa na ca)∧w'.cell? ⟨W.heap.size+1,0,none⟩=some (.int .i64 rb)∧w'.cell? ⟨W.heap.size+1,1,none⟩=some (.slice pb nb cb))) (by kernel_rfl) K0 (fun hHeld=>?_);refine tkH (i:=0) (v:=.pointer (some ⟨W.heap.size,0,none⟩)) rfl (Or.inl ⟨by kernel_rfl,fun w' hw'=>?_⟩) hHeld ?_
 ·obtain⟨q0,q1,q2,q3⟩:=hw';go_simp
 simp only[Act.put,A4,A2,A5,A6,A7,A8];refine tkH (i:=1) (v:=.int .i64 ra) rfl (Or.inl ⟨by kernel_rfl,fun w' hw'=>?_⟩) hHeld ?_
 ·obtain⟨q0,q1,q2,q3⟩:=hw';go_simp
 simp only[Act.put,A4,A2,A5,A6,A7,A8];refine tkH (i:=2) (v:=.pointer (some ⟨W.heap.size+1,0,none⟩)) rfl (Or.inl ⟨by kernel_rfl,fun w' hw'=>?_⟩) hHeld ?_
 ·obtain⟨q0,q1,q2,q3⟩:=hw';go_simp
 simp only[Act.put,A4,A2,A5,A6,A7,A8];refine tkH (i:=3) (v:=.int .i64 rb) rfl (Or.inl ⟨by kernel_rfl,fun w' hw'=>?_⟩) hHeld ?_
 ·obtain⟨q0,q1,q2,q3⟩:=hw';go_simp
 simp only[Act.put,A4,A2,A5,A6,A7,A8];refine tkH (i:=5) (v:=.pointer (some ⟨W.heap.size,1,none⟩)) rfl (Or.inl ⟨by kernel_rfl,fun w' hw'=>?_⟩) hHeld ?_
 ·obtain⟨q0,q1,q2,q3⟩:=hw';go_simp
 simp only[Act.put,A4,A2,A5,A6,A7,A8];refine tkH (i:=6) (v:=.slice pa na ca) rfl (Or.inl ⟨by kernel_rfl,fun w' hw'=>?_⟩) hHeld ?_
 ·obtain⟨q0,q1,q2,q3⟩:=hw';go_simp
 simp only[Act.put,A4,A2,A5,A6,A7,A8];refine tkH (i:=7) (v:=.pointer (some ⟨W.heap.size+1,1,none⟩)) rfl (Or.inl ⟨by kernel_rfl,fun w' hw'=>?_⟩) hHeld ?_
 ·obtain⟨q0,q1,q2,q3⟩:=hw';go_simp
 simp only[Act.put,A4,A2,A5,A6,A7,A8];refine tkH (i:=8) (v:=.slice pb nb cb) rfl (Or.inl ⟨by kernel_rfl,fun w' hw'=>?_⟩) hHeld ?_
 ·obtain⟨q0,q1,q2,q3⟩:=hw';go_simp
 simp only[Act.put,A4,A2,A5,A6,A7,A8];refine wpAnyH_ready (rs:=[4]) (by kernel_rfl) (by simp) (AllReadyH.cons rfl (fun K hK=>?_) AllReadyH.nil);rw[if_pos (by kernel_rfl)];go_simp
 go_at_call 112
 refine (k0 _).mono ?_
 rintro e w5 ⟨rfl,rfl⟩
 go_wp2_with fail
 refine hK.out _ _ hHeld (fun hHeld=>?_);clear hK K;refine wpAnyH_ready (rs:=[9]) (by kernel_rfl) (by simp) (AllReadyH.cons rfl (fun K hK=>?_) AllReadyH.nil);rw[if_pos (by kernel_rfl)];go_simp
 go_at_call 113
 refine (k1 _ hCW).mono ?_
 rintro e w5 ⟨rfl,rfl⟩
 go_wp2_with fail
 refine hK.out _ _ hHeld (fun hHeld=>?_);clear hK K;refine wpAnyH_ready (rs:=[10]) (by kernel_rfl) (by simp) (AllReadyH.cons rfl (fun K hK=>?_) AllReadyH.nil);rw[if_pos (by kernel_rfl)];go_simp;obtain⟨W3,hW3⟩:∃ W3,W3=(W2.alloc (Obj.cells #[Value.int D3 c0,Value.int D3 c1] 3)).drew:=⟨_,rfl⟩
 have g0:W3.heap[W.heap.size]? = some (.cells #[.int .i64 ra,.slice pa na ca] 41 (0,0)):=by
  rw[hW3];exact (heap_alloc_old _ _ (lt_of_block hea)).trans hea
 have g1:W3.heap[W.heap.size+1]? = some (.cells #[.int .i64 rb,.slice pb nb cb] 41 (0,0)):=by
  rw[hW3];exact (heap_alloc_old _ _ (lt_of_block heb)).trans heb
 have g2:W3.heap[W2.heap.size]? = some (.cells #[.int .i64 c0,.int .i64 c1] 3 (0,0)):=by
  rw[hW3];exact heap_alloc_new _ _
 have hg3:∃ q os,W3=grow (W.drewN q) os:=by
  obtain⟨os,rfl⟩:=hg;refine⟨1,os++#[Obj.cells #[Value.int D3 c0,Value.int D3 c1] 3],?_⟩;rw[hW3,alloc_eq_grow,grow_grow,drew_grow];rfl
 have f0:W3.cell? ⟨W2.heap.size,0,none⟩=some (.int .i64 c0):=by simp[C8,g2]
 have f1:W3.cell? ⟨W2.heap.size,1,none⟩=some (.int .i64 c1):=by simp[C8,g2]
 have K3:W3.cell? ⟨W.heap.size,0,none⟩=some (.int .i64 ra)∧W3.cell? ⟨W.heap.size,1,none⟩=some (.slice pa na ca)∧W3.cell? ⟨W.heap.size+1,0,none⟩=some (.int .i64 rb)∧W3.cell? ⟨W.heap.size+1,1,none⟩=some (.slice pb nb cb):=by
  refine⟨?_,?_,?_,?_⟩<;>simp[C8,g0,g1]
 rw[← hW3];clear hW3 hea heb;refine hK.out _ _ K3 (fun _=>?_);clear hK K;have kk:=Try.or111 c0 c1 W2.heap.size 2 W3 f0 f1;rw[← hr]at kk;refine wpAnyH_ready (rs:=[11]) (by kernel_rfl) (by simp) (AllReadyH.cons rfl (fun K hK=>?_) AllReadyH.nil);rw[if_pos (by kernel_rfl)];go_simp
 go_at_call 111
 refine kk.mono ?_
 rintro e w5 ⟨rfl,rfl⟩
 go_wp2_with fail
 refine hK.out _ _ K3 (fun _=>?_);clear hK K;refine tkH (i:=12) (v:=.int .i64 r) rfl (Or.inl ⟨by kernel_rfl,fun w' hw'=>?_⟩) K3 ?_
 ·go_simp
 simp only[Act.put,A4,A2,A5,A6,A7,A8];refine wpAnyH_done (by kernel_rfl) ?_ _
 go_wp2
 go_ret
 exact⟨rfl,hg3⟩
end Go.Proofs
namespace Go.AM
open Go.RowKit Go.Sort Go.Proofs Go.Lib
def cfF (x y:apiFact):Int:=orI2 (cmpI x.qb y.qb) (cmpL x.qa y.qa)
def sortF (l:List apiFact):List apiFact:=l.mergeSort fun x y=>!ltOf cfF y x
theorem Ue (l:List apiFact):(sortF l).length=l.length:=by unfold sortF;exact G0 l
theorem qfE (x y:Int):cmpI y x = - cmpI x y:=by
 unfold cmpI;by_cases h1:x<y
 ·have:¬ y<x:=by omega
  simp[h1,this]
 ·by_cases h2:y<x<;>simp[h1,h2]
theorem YZ (x y:Int):cmpI x y=0↔x=y:=by
 unfold cmpI;by_cases h1:x<y
 ·simp[h1];omega
 ·by_cases h2:y<x
  ·simp[h1,h2];omega
  ·simp[h1,h2];omega
theorem VO (x y:Int):cmpI x y<0↔x<y:=by
 unfold cmpI;by_cases h1:x<y
 ·simp[h1]
 ·by_cases h2:y<x<;>simp[h1,h2]
theorem qfD:∀ a b:List Int,cmpL b a = - cmpL a b
 | [],[]=>rfl
 | [],_::_=>rfl
 | _::_,[]=>rfl
 | x::a,y::b=>by
  simp only[cmpL];rw[qfD a b,qfE x y];by_cases h:cmpI x y=0<;>simp[h]
theorem qdy:∀ a b:List Int,cmpL a b=0↔a=b
 | [],[]=>by simp[cmpL]
 | [],_::_=>by simp[cmpL]
 | _::_,[]=>by simp[cmpL]
 | x::a,y::b=>by
  simp only[cmpL];by_cases h:cmpI x y=0
  ·rw[if_neg (by simpa using h),qdy a b,(YZ x y).1 h];simp
  ·rw[if_pos h]
   have:x≠y:=fun e=>h ((YZ x y).2 e)
   simp[h,this]
theorem qbZ:∀ a b c:List Int,cmpL a b<0→cmpL b c<0→cmpL a c<0
 | [],_,[],h1,h2=>by
  rename_i b
  cases b with
  | nil=>simp[cmpL]at h1
  | cons y b=>simp[cmpL]at h2
 | [],_,_::_,_,_=>by simp[cmpL]
 | x::a,[],_,h1,_=>by simp[cmpL]at h1
 | x::a,y::b,[],_,h2=>by simp[cmpL]at h2
 | x::a,y::b,z::c,h1,h2=>by
  simp only[cmpL]at h1 h2 ⊢;by_cases k1:cmpI x y=0
  ·have e1:=(YZ x y).1 k1;subst e1;rw[if_neg (by simpa using k1)]at h1;by_cases k2:cmpI x z=0
   ·rw[if_neg (by simpa using k2)]at h2 ⊢;exact qbZ a b c h1 h2
   ·rw[if_pos k2]at h2 ⊢;exact h2
  ·rw[if_pos k1,VO]at h1;by_cases k2:cmpI y z=0
   ·have e2:=(YZ y z).1 k2;subst e2;rw[if_pos k1,VO];exact h1
   ·rw[if_pos k2,VO]at h2;have h3:cmpI x z<0:=(VO x z).2 (by omega);rw[if_pos (by omega)];exact h3
theorem DK (x y:apiFact):cfF y x = - cfF x y:=by
 unfold cfF orI2;rw[qfE x.qb y.qb,qfD x.qa y.qa];by_cases h:cmpI x.qb y.qb=0<;>simp[h]
theorem DJ (x y:apiFact):cfF x y=0↔x=y:=by
 unfold cfF orI2;obtain⟨a,b⟩:=x;obtain⟨c,d⟩:=y;by_cases h:cmpI a c=0
 ·simp only[h,ne_eq,not_true_eq_false,if_false,qdy];rw[(YZ a c).1 h];simp
 ·have:a≠c:=fun e=>h ((YZ a c).2 e)
  simp[h,this]
theorem qdz (x y z:apiFact) (h1:cfF x y<0) (h2:cfF y z<0):cfF x z<0:=by
 obtain⟨a,b⟩:=x;obtain⟨c,d⟩:=y;obtain⟨e,f⟩:=z;unfold cfF orI2 at *;simp only at *;by_cases k1:cmpI a c=0
 ·have e1:=(YZ a c).1 k1;subst e1;rw[if_neg (by simpa using k1)]at h1;by_cases k2:cmpI a e=0
  ·rw[if_neg (by simpa using k2)]at h2 ⊢;exact qbZ _ _ _ h1 h2
  ·rw[if_pos k2]at h2 ⊢;exact h2
 ·rw[if_pos k1,VO]at h1;by_cases k2:cmpI c e=0
  ·have e2:=(YZ c e).1 k2;subst e2;rw[if_pos k1,VO];exact h1
  ·rw[if_pos k2,VO]at h2;have h3:cmpI a e<0:=(VO a e).2 (by omega);rw[if_pos (by omega)];exact h3
theorem ltF (a b:apiFact):ltOf cfF a b=true↔cfF a b<0:=by
 have e:ltOf cfF a b=decide (cfF a b<0):=rfl;rw[e,decide_eq_true_eq]
theorem ltFf (a b:apiFact):ltOf cfF a b=false↔¬ cfF a b<0:=by
 rw[← ltF,Bool.not_eq_true]
theorem swoF:SWO (ltOf cfF) where
 irrefl x:=by rw[ltFf,(DJ x x).2 rfl];omega
 trans x y z h1 h2:=by rw[ltF]at *;exact qdz x y z h1 h2
 ntrans x y z h1 h2:=by
  rw[ltFf]at *;intro h3;have n1:=DK x y;have n2:=DK y z;by_cases k1:cfF x y=0
  ·rw[(DJ x y).1 k1]at h3;exact h2 h3
  ·by_cases k2:cfF y z=0
   ·rw[← (DJ y z).1 k2]at h3;exact h1 h3
   ·have h4:=qdz z y x (by omega) (by omega);have n3:=DK x z;omega
theorem totF (x y:apiFact) (h1:ltOf cfF x y=false) (h2:ltOf cfF y x=false):x=y:=by
 rw[ltFf]at h1 h2;have:=DK x y;exact (DJ x y).1 (by omega)
theorem cells2 (l:List apiFact):∀ x,x∈l.map qM→x.cells.length=2:=by
 intro x hx;obtain⟨y,_,rfl⟩:=List.mem_map.1 hx;rfl
theorem flat2 (l:List apiFact) {j:Nat} (hj:j<l.length*2):(flat (l.map qM))[j]? = (qM (l[j / 2]'(by omega))).cells[j % 2]?:=by
 have hd:j / 2<l.length:=by omega
 have h2:=YH (k:=2) (xs:=l.map qM) (i:=j / 2) (x:=qM l[j / 2]) (cells2 l) (by simp[hd]) (j % 2) (by omega);rw[show j / 2*2+j % 2=j by omega]at h2;exact h2
theorem qiF {n:Nat} (l:List apiFact) (hn:l.length=n) (s:List (Fin n)) (hs:s=(E7 n).mergeSort fun x y=>!ltOf (fun i j:Fin n=>cfF (l[i.1]'(by omega)) (l[j.1]'(by omega))) y x):sortF l=s.map fun i=>l[i.1]'(by omega):=by
 subst hn
 have e:l=(E7 l.length).map fun i=>l[i.1]:=by
  refine List.ext_getElem (by simp) fun i h1 h2=>?_
  simp
 subst hs;unfold sortF
 conv=>lhs;rw[e]
 rw[List.map_mergeSort];intro a _ b _;rfl
theorem sort109 {l:List apiFact} (hl:l.length<4611686018427387904) (hnd:l.Nodup) (hla:∀ f,f∈l→f.qa.length≤1000000) :
  CallMOk Try.prog 109 [.sb 2000000 41 2 0 l.length,.clo 110 []] [(2000000,.obj 41 2 (l.map qM))] (.tup []) [(2000000,.obj 41 2 ((sortF l).map qM))]:=by
 intro M O w vs hG hC hlen hO hOi hR hH
 obtain⟨v,fv,rfl⟩:∃ v fv,vs=[v,fv]:=by
  match vs,hlen with
  | [v,fv],_=>exact⟨v,fv,rfl⟩
 have hv:=hR 0 _ v rfl rfl;have hf:=(hR 1 _ fv rfl rfl).1;have ho:=hH 2000000 (.obj 41 2 (l.map qM)) rfl;obtain⟨q1,q2⟩:=hv;obtain⟨k0,k1,k2,k3⟩:=ho
 obtain rfl:fv=.func (.func 110) #[] #[]:=by
  generalize hx:AV.clo 110 []=x at hf
  have hx':x.strip=x:=by rw[← hx];rfl
  rw[hx']at hf
  cases hf with
  | clo e1 e2 =>
   rename_i vs;cases hx
   match vs,e1 with
   | [],_=>rfl
  | _=>cases hx
 have aE:∀ w,(isAgg 41).run Try.prog w=.ok true w:=Try.isAgg41;have zE:∀ w,(Go.sizeOf 41).run Try.prog w=.ok 2 w:=Try.sizeOf41;by_cases hne:l=[]
 ·subst hne
  have q2':∃ p cap,v=.slice p 0 cap:=by
   rcases q2 with ⟨_,ad,rfl⟩ | ⟨g,cap,rfl,_⟩
   ·exact⟨_,_,rfl⟩
   ·exact⟨_,_,rfl⟩
  obtain⟨p,cap,rfl⟩:=q2';refine (Try.slices_SortFunc_none (α:=Nat) p cap _ w).mono ?_
  rintro ed w' ⟨rfl,rfl⟩
  have es:sortF []=[]:=by simp[sortF]
  refine⟨_,M,O,rfl,BelowD.refl _ _,Sub.refl M,hC,fun _ _ _ _=>rfl,fun i c g hh=>?_,fun i i' c c' g hh hh'=>?_,fun c _ _=>Gh.Eq1.refl O c,⟨.tup (vs:=[]) rfl (fun j c v hc=>by simp at hc),trivial⟩,fun id x hx=>?_⟩
  ·obtain⟨rfl,h2⟩:=hO i c g hh;exact⟨h2,.inr ⟨c,hh⟩⟩
  ·obtain⟨rfl,_⟩:=hO i c g hh;obtain⟨rfl,_⟩:=hO i' c' g hh';exact⟨rfl,hOi c c' g hh hh'⟩
  ·simp only[look]at hx;split at hx
   ·rename_i hb;cases hx;obtain rfl:=(G1 hb).symm;rw[es];exact⟨k0,k1,k2,k3⟩
   ·cases hx
 have hpos:0<l.length:=List.length_pos_iff.2 hne
 rcases q2 with ⟨h0,_⟩ | ⟨g,cap,rfl,p1,p2,p3,p4⟩
 ·omega
 rcases k3 with ⟨h0,_⟩ | ⟨g',cur,r1,r2,r3,r4,r5,r6⟩
 ·exact absurd (List.map_eq_nil_iff.1 h0) hne
 have hgg:g'=g:=by rw[p1]at r1;exact (Option.some.inj r1).symm
 subst hgg
 have r4':l.length*2≤cur.size:=by simpa using r4
 have hb:=r2.plain (by omega);have hgs:g'<w.heap.size:=(hO _ _ _ p1).2;obtain⟨n,hn⟩:∃ n,n=l.length:=⟨_,rfl⟩
 haveI:Inhabited (Fin n):=⟨⟨0,by omega⟩⟩
 let enc:Fin n→List Value:=fun i=>[.int .i64 (l[i.1]'(by omega)).qb,cur[i.1*2+1]'(by omega)]
 let cf:Fin n→Fin n→Int:=fun i j=>cfF (l[i.1]'(by omega)) (l[j.1]'(by omega))
 have hrel:∀ i (hi:i<l.length),cur[i*2]? = some (.int .i64 l[i].qb):=fun i hi=>by
  have h1:=r6 (i*2) (.int .i64 l[i].qb) (cur[i*2]'(by omega)) (by
   rw[flat2 l (by omega)]
   have e1:i*2 / 2=i:=by omega
   have e2:i*2 % 2=0:=by omega
   simp only[e1,e2]
   rfl) (by rw[C9])
  rw[C9 (by omega),h1.int_inv]
 have harg:∀ i (hi:i<l.length),R M (l3 none l[i].qa) (cur[i*2+1]'(by omega)):=fun i hi=>by
  refine r6 (i*2+1) (l3 none l[i].qa) (cur[i*2+1]'(by omega)) ?_ (by rw[C9]);rw[flat2 l (by omega)]
  have e1:(i*2+1) / 2=i:=by omega
  have e2:(i*2+1) % 2=1:=by omega
  simp only[e1,e2];rfl
 have hone:∀ (x:Fin n) v,v∈enc x→v.oneCell'=true:=fun x v hv=>by
  rcases List.mem_cons.1 hv with rfl | hv
  ·rfl
  ·obtain rfl:=List.mem_singleton.1 hv;obtain⟨a,c,e⟩:=UY (harg x.1 (by omega));rw[e];rfl
 obtain⟨d,hd⟩:∃ d:Array (Fin n),d=(E7 n).toArray:=⟨_,rfl⟩
 have hds:d.size=l.length:=by rw[hd];simp[hn]
 have hdat:∀ i (hi:i<n),d[i]! = ⟨i,hi⟩:=fun i hi=>by
  rw[hd];simp[hi]
 have hflat:∀ (s:Array (Fin n)) (j:Nat),j<s.size*2→(flatK enc 2 s)[j]! = (enc s[j / 2]!)[j % 2]!:=fun s j hj=>get_flatK _ _ _ j hj
 have hHd:HoldsK enc 2 w g' 0 d:=by
  intro j hj
  have hj':j<l.length*2:=by simpa[hds] using hj
  constructor
  ·simp only[C8,hb,Nat.zero_add,Option.isSome_none,E8,if_false];have e0:=hflat d j (by omega);rw[hdat _ (by omega)]at e0;show cur[j]? = some (flatK enc 2 d)[j]!;rw[e0]
   rcases G2 j with h0 | h0
   ·have:=hrel (j / 2) (by omega);rw[show j / 2*2=j by omega]at this;rw[this,h0];rfl
   ·rw[h0]
    have e1:j / 2*2+1=j:=by omega
    show cur[j]? = some (cur[j / 2*2+1]'(by omega));simp only[e1];rw[C9 (by omega)]
  ·simp[World.frozen?,hb]
 have eg:∀ args w,(callFunc 110 args).run Try.prog w=.ok (.enter 110 args) w:=enters_of Try.func110 (by kernel_rfl) rfl
 have hbk0:∀ (m:Nat) (os:Array Obj) (dk:Array (Fin n)),∀ q,q<w.heap.size→q≠g'→(sortWorldK enc 2 w g' 0 m dk os).heap[q]? = w.heap[q]?:=by
  intro m os dk q hq hne2;show (grow (Go.Sort.putRow id (Sort.ahead w m) g' 0 (flatK enc 2 dk)) os).heap[q]? = _;rw[heap_grow_old _ _ (by simpa using hq)]
  have:g'≠q:=fun e=>hne2 e.symm
  simp[Go.Sort.putRow,mapBlock,Sort.ahead,G3,this]
 have hCk:∀ (m:Nat) (os:Array Obj) (dk:Array (Fin n)),Cons M (sortWorldK enc 2 w g' 0 m dk os):=fun m os dk b o u hu=>by
  have h1:=hC b o u hu
  have hne2:b≠g':=fun e1=>by rw[e1,r5]at hu;cases hu
  rw[XJ (hbk0 m os dk b (UT h1) hne2)];exact h1
 have hcmp:CmpLays Try.prog 110 #[] enc 2 cf g' 0 d.size w:=by
  intro m os dk hs x y;exact Try.cmp110 _ _ _ _ _ _ M _ (hCk m os dk) (harg x.1 (by omega)) (harg y.1 (by omega)) (hla _ (List.getElem_mem _))
 have hswo:SWO (ltOf cf):=⟨fun x=>swoF.irrefl _,fun x y z h1 h2=>swoF.trans _ _ _ h1 h2,fun x y z h1 h2=>swoF.ntrans _ _ _ h1 h2⟩
 have htot:∀ x y:Fin n,ltOf cf x y=false→ltOf cf y x=false→x=y:=fun x y h1 h2=>by
  have:=totF _ _ h1 h2;exact Fin.ext ((List.getElem_inj hnd).1 this)
 have hcon:=Try.slices_SortFunc_total (α:=Fin n) 2 aE zE enc (fun _=>rfl) hone cf hswo 110 #[] g' 0 cap d w eg hcmp hHd hgs (by rw[hds];exact hl) htot;rw[hds]at hcon;refine hcon.mono ?_
 rintro ed w' ⟨rfl,m,os,hw⟩
 obtain⟨s,hs⟩:∃ s,s=(d.toList.mergeSort fun x y=>!(ltOf cf) y x):=⟨_,rfl⟩;rw[← hs]at hw
 have hsl:s.length=l.length:=by rw[hs,G0,Array.length_toList,hds]
 have hsort:sortF l=s.map fun i=>l[i.1]'(by omega):=by
  refine qiF l hn.symm s ?_;rw[hs,hd]
 have hw2:w'=grow (Go.Sort.putRow id (Sort.ahead w m) g' 0 (flatK enc 2 s.toArray)) os:=hw
 have hb':w'.heap[g']? = some (.cells (putCells id 0 (flatK enc 2 s.toArray) cur) 41 (0,0)):=by
  subst hw2;rw[heap_grow_old _ _ (by simpa using hgs)];simp[Go.Sort.putRow,mapBlock,Sort.ahead,G3,hb,onCells]
 have hbk:∀ q,q<w.heap.size→q≠g'→w'.heap[q]? = w.heap[q]?:=fun q hq hne2=>by rw[hw];exact hbk0 m os _ q hq hne2
 have hszw:w.heap.size≤w'.heap.size:=by subst hw2;simp[grow]
 have hps:(putCells id 0 (flatK enc 2 s.toArray) cur).size=cur.size:=by simp[putCells]
 refine⟨_,M,O,rfl,⟨by subst hw2;rfl,by subst hw2;rfl,by subst hw2;rfl,hszw,fun q hq=>hbk q hq.1 fun e1=>hq.2 2000000 (by rw[e1];exact p1)⟩,Sub.refl M,?_,fun _ _ _ _=>rfl,fun i c g hh=>?_,fun i i' c c' g hh hh'=>?_,fun c _ _=>Gh.Eq1.refl O c,⟨.tup (vs:=[]) rfl (fun j c v hc=>by simp at hc),trivial⟩,fun id x hx=>?_⟩
 ·rw[hw];exact hCk m os _
 ·obtain⟨rfl,h2⟩:=hO i c g hh;exact⟨Nat.lt_of_lt_of_le h2 hszw,.inr ⟨c,hh⟩⟩
 ·obtain⟨rfl,_⟩:=hO i c g hh;obtain⟨rfl,_⟩:=hO i' c' g hh';exact⟨rfl,hOi c c' g hh hh'⟩
 ·simp only[look]at hx;split at hx
  ·rename_i hbq;cases hx;obtain rfl:=(G1 hbq).symm;refine⟨k0,fun y hy=>?_,by simpa[Ue] using k2,.inr ⟨g',_,p1,RowAt.of hb',by rw[hps];exact r3,by rw[hps];simpa[Ue] using r4,r5,fun j c u hc hu=>?_⟩⟩
   ·obtain⟨z,_,rfl⟩:=List.mem_map.1 hy;exact⟨rfl,rfl⟩
   ·have hjl:j<(sortF l).length*2:=by
     have h1:=(List.getElem?_eq_some_iff.1 hc).1;rw[jL (cells2 _)]at h1
     simpa using h1
    rw[flat2 _ hjl]at hc;rw[Ue]at hjl
    have hjc:j<cur.size:=by omega
    have hput:(putCells id 0 (flatK enc 2 s.toArray) cur)[j]? = some ((flatK enc 2 s.toArray)[j]!):=by
     have hz:(flatK enc 2 s.toArray).size=l.length*2:=by simp[hsl]
     simp only[putCells,Array.getElem?_mapIdx,C9 hjc,Option.map_some,hz];rw[if_pos (by omega)];simp
    rw[hput,hflat _ _ (by simpa[hsl] using hjl)]at hu
    have hsj:j / 2<s.length:=by omega
    have e1:s.toArray[j / 2]! = s[j / 2]:=by simp[hsj]
    have e2:(sortF l)[j / 2]'(by rw[Ue];omega)=l[(s[j / 2]).1]'(by omega):=by
     simp only[hsort,List.getElem_map]
    rw[e1]at hu;rw[e2]at hc;have hu:=Option.some.inj hu;subst hu
    rcases G2 j with h0 | h0
    ·rw[h0]at hc ⊢;cases hc;exact .int _ _
    ·rw[h0]at hc ⊢;cases hc;exact harg _ (by omega)
  ·cases hx
def apiF (f:rufact):apiFact:=if f.f_b=0 then ⟨f.qr,[f.f_a]⟩ else ⟨f.qr,[f.f_a,f.f_b]⟩
theorem qjW (f:rufact):VK f=some (apiF f):=by
 obtain⟨a,b,c⟩:=f;unfold VK apiF;by_cases h:c=0
 ·subst h;rfl
 ·have:(c == 0)=false:=by simp[h]
  simp[this,h]
theorem qjC {f g:rufact} (h:apiF f=apiF g):f=g:=by
 obtain⟨a,b,c⟩:=f;obtain⟨d,e,i⟩:=g;unfold apiF at h;by_cases h1:c=0<;>by_cases h2:i=0<;>simp_all
abbrev fK (l:List (rufact×Bool)):List AV:=l.map fun p=>qj p.1
abbrev fV (l:List (rufact×Bool)):List AV:=l.map fun p=>AV.bool p.2
abbrev aL (l:List apiFact):List AV:=l.map qM
abbrev apis (l:List (rufact×Bool)):List apiFact:=l.map fun p=>apiF p.1
theorem HQ {α β:Type} (f:α→β):∀ (l:List α) (j:Nat),(l.map f).eraseIdx j=(l.eraseIdx j).map f
 | [],j=>by simp
 | a::l,0=>by simp
 | a::l,j+1=>by simp[HQ f l j]
theorem qgw (rem:List (rufact×Bool)) {j:Nat} (h:j<rem.length):nextEnt (fK rem) (fV rem) j=.hob 2 (qj rem[j].1::fK (rem.eraseIdx j)) (AV.bool rem[j].2::fV (rem.eraseIdx j)):=by
 unfold nextEnt fK fV;rw[HQ,HQ]
 have e1:(rem.map fun p=>qj p.1).getD j .und=qj rem[j].1:=by
  rw[G4,List.getElem?_map,G5 h];rfl
 have e2:(rem.map fun p=>AV.bool p.2).getD j .und=AV.bool rem[j].2:=by
  rw[G4,List.getElem?_map,G5 h];rfl
 rw[e1,e2]
theorem qaH {α:Type}:∀ (l:List α) (j:Nat) (h:j<l.length),l.Perm (l[j]::l.eraseIdx j)
 | [],j,h=>by simp at h
 | a::l,0,h=>by simp
 | a::l,j+1,h=>by
  have ih:=qaH l j (by simpa using h);simp only[A2,List.eraseIdx_cons_succ];exact (ih.cons a).trans (List.Perm.swap _ _ _)
theorem qfY {l m:List apiFact} (h:l.Perm m):sortF l=sortF m:=by
 have h1:∀ l:List apiFact,(sortF l).Pairwise fun a b=>(!ltOf cfF b a)=true:=fun l=>List.pairwise_mergeSort (le:=fun a b=>!ltOf cfF b a) (by
  intro a b c h1 h2;simp only[D4]at *
  exact swoF.ntrans _ _ _ h2 h1) (by
  intro a b;simp only[D5,D4]
  cases hh:ltOf cfF b a with
  | false=>exact .inl rfl
  | true =>
   right;rw[ltF]at hh;rw[ltFf];have:=DK a b
   omega) l
 refine List.Perm.eq_of_pairwise (le:=fun a b=>(!ltOf cfF b a)=true) (fun a b _ _ x y=>?_) (h1 l) (h1 m) ?_
 ·simp only[D4]at x y;exact totF a b y x
 ·exact ((List.mergeSort_perm l _).trans h).trans (List.mergeSort_perm m _).symm
def nodupF:List rufact→Bool
 | []=>true
 | f::r=>!(r.any (qu f))&&nodupF r
theorem qaC:∀ {l:List rufact},nodupF l=true→l.Nodup
 | [],_=>by simp
 | f::r,h=>by
  simp only[nodupF,D6,D4,List.any_eq_false]at h;rw[List.nodup_cons];exact⟨fun hm=>h.1 f hm (Dw.2 rfl),qaC h.2⟩
def ListI (l:List (rufact×Bool)) (k:Nat) (e:Env):Prop:=∃ (acc:List apiFact) (rem:List (rufact×Bool)) (y:AV),rem.length=k∧leftE y=some (fK rem,fV rem)∧(acc++apis rem).Perm (apis l) ∧
 Goes 19 e [(3,.sb 1500003 41 2 0 acc.length),(6,.mb 1 1000006),(1000006,y),(1500003,.obj 41 2 (aL acc))]
theorem list58 {l:List (rufact×Bool)} (hl:l.length≤1000) (hnd:(l.map Prod.fst).Nodup):CallOk Try.prog 58 [mpE qj AV.bool l] (.lst 41 2 none (aL (sortF (apis l)))):=by
 have hnd2:(apis l).Nodup:=by
  have e:apis l=(l.map Prod.fst).map apiF:=by simp[apis,List.map_map,Function.comp_def]
  rw[e];exact List.Pairwise.map apiF (fun a b h e=>h (qjC e)) hnd
 refine qfF Try.func58 rfl (by kernel_rfl) (fun e k q xs hh=>by cases hh) ?_;refine CodeP.seq (CodeP.reg mixedP (e2:=[(0,mpE qj AV.bool l),(2,.nils)]) ?_);refine CodeP.wk (env':=[(0,mpE qj AV.bool l)])<|CodeP.seq (CodeP.reg mixedP (e2:=[(0,mpE qj AV.bool l),(3,.nils)]) ?_);refine CodeP.mv [.nil 3 41 2 1500003] (env':=[(0,mpE qj AV.bool l),(3,.sb 1500003 41 2 0 0),(1500003,.obj 41 2 [])])<|CodeP.seq (CodeP.seq (CodeP.reg mixedP (e2:=[(0,mpE qj AV.bool l),(3,.sb 1500003 41 2 0 0),(5,mpE qj AV.bool l),(6,.mb 1 1000006),(1000006,.hob 1 (fK l) (fV l)),(1500003,.obj 41 2 [])]) ?_));refine CodeP.wk (env':=[(3,.sb 1500003 41 2 0 0),(6,.mb 1 1000006),(1000006,.hob 1 (fK l) (fV l)),(1500003,.obj 41 2 [])])<|CodeP.block (CodeP.loop (I:=ListI l) ?_ l.length ⟨[],l,.hob 1 (fK l) (fV l),rfl,rfl,List.Perm.refl _,Goes.refl _⟩)
 rintro k e ⟨acc,rem,y,hk,hy,hp,hg⟩
 have hlen:acc.length+rem.length≤1000:=by
  have:=hp.length_eq;simp only[E9,B0]at this;omega
 refine CodeP.goes hg<|CodeP.seq<|CodeP.next mixedP rfl rfl (by kernel_rfl) (it:=1000006) (y:=y) (ks:=fK rem) (vs:=fV rem) rfl rfl hy (envF:=[(3,.sb 1500003 41 2 0 acc.length),(6,.mb 1 1000006),(7,.tup [.bool false]),(1000006,y),(1500003,.obj 41 2 (aL acc))]) (by kernel_rfl)
  (envT:=fun j=>[(3,.sb 1500003 41 2 0 acc.length),(6,.mb 1 1000006),(7,.tup [.bool true,.top,.top]),(1000006,nextEnt (fK rem) (fV rem) j),(1500003,.obj 41 2 (aL acc))]) (fun j _=>by kernel_rfl) (fun h0 _=>?_) (fun j hj _=>?_)
 ·
  refine WO.end0 (e2:=[(3,.sb 1500003 41 2 0 acc.length),(6,.mb 1 1000006),(7,.tup [.bool false]),(8,.bool false),(1000006,y),(1500003,.obj 41 2 (aL acc))]) (by kernel_rfl) ?_
  have hr0:rem=[]:=by simpa[fK] using h0
  subst hr0
  have hpa:acc.Perm (apis l):=by simpa using hp
  have hnda:acc.Nodup:=hpa.nodup_iff.2 hnd2
  have hca:∀ f,f∈acc→f.qa.length≤1000000:=fun f hf=>by
   obtain⟨p,_,rfl⟩:=List.mem_map.1 (hpa.mem_iff.1 hf);unfold apiF;split<;>simp
  refine CodeP.seq (CodeP.cond false (by kernel_rfl) (fun h=>Bool.noConfusion h) (fun _=>CodeP.of mixedP (W.exit ?_)));refine CodeP.wk (env':=[(3,.sb 1500003 41 2 0 acc.length),(1500003,.obj 41 2 (aL acc))])<|CodeP.of mixedP<|W.seq<|W.region (by kernel_rfl) ?_;have hsort:Run Try.prog (.callM 109 [.sb 2000000 41 2 0 acc.length,.clo 110 []] [(2000000,.obj 41 2 (aL acc))] (.tup []) [(2000000,.obj 41 2 (aL (sortF acc)))]):=.extM (sort109 (by have:=hlen;simp at this;omega) hnda hca) (fun id x hx=>by simp only[look]at hx;split at hx<;>cases hx;rfl);refine WO.callMK 1 [(1500003,2000000)] [] (F:=109) (args:=[.sb 2000000 41 2 0 acc.length,.clo 110 []]) (hp:=[(2000000,.obj 41 2 (aL acc))]) (hp2:=[(2000000,.obj 41 2 (aL (sortF acc)))]) (r:=.tup []) (by kernel_rfl) hsort (e1:=[(3,.sb 1500003 41 2 0 acc.length),(16,.sb 1500003 41 2 0 acc.length),(17,.tup []),(1500003,.obj 41 2 (aL (sortF acc)))]) (by kernel_rfl)<|WO.fin [3,1500003] [] [] [] (e2:=[(3,.sb 1500003 41 2 0 acc.length),(1500003,.obj 41 2 (aL (sortF acc)))]) (by kernel_rfl) (fun _ h=>h) ?_;refine W.seq<|W.regT [2,1500003] [] [] [] (e2:=[(2,.sb 1500003 41 2 0 acc.length),(1500003,.obj 41 2 (aL (sortF acc)))]) (by kernel_rfl) (by kernel_rfl) (fun _ h=>h) ?_;have hsl:(sortF acc).length=acc.length:=Ue acc
  have hsn:snapA 0 acc.length (aL (sortF acc))=aL (sortF (apis l)):=by
   rw[qfY hpa]at hsl ⊢;unfold snapA aL;rw[List.drop_zero,F6 (by rw[B0,hsl];exact Nat.le_refl _)]
  refine W.mv [.frz 1500003] (env':=[(2,.lst 41 2 none (aL (sortF (apis l))))]) ((by kernel_rfl:mvAll [(2,.sb 1500003 41 2 0 acc.length),(1500003,.obj 41 2 (aL (sortF acc)))] [.frz 1500003]=[(2,.lst 41 2 none (snapA 0 acc.length (aL (sortF acc))))]).trans (by rw[hsn])) ?_
  have hr:ju Try.prog Try.f58 [(2,.lst 41 2 none (aL (sortF (apis l))))]=some (.lst 41 2 none (aL (sortF (apis l)))):=by kernel_rfl
  exact W.ret hr
 ·
  have hj:j<rem.length:=by simpa[fK] using hj
  show WO Try.prog _ false _ _ _ [(3,.sb 1500003 41 2 0 acc.length),(6,.mb 1 1000006),(7,.tup [.bool true,.top,.top]),(1000006,nextEnt (fK rem) (fV rem) j),(1500003,.obj 41 2 (aL acc))];rw[qgw rem hj]
  have hpt:(acc++[apiF rem[j].1]++apis (rem.eraseIdx j)).Perm (apis l):=by
   refine List.Perm.trans ?_ hp;rw[D0];refine List.Perm.append_left _ ?_;exact ((qaH rem j hj).map fun p=>apiF p.1).symm
  have hel:(rem.eraseIdx j).length=rem.length - 1:=by rw[List.length_eraseIdx,if_pos hj]
  generalize hp1:rem[j].1=pk at hpt ⊢;generalize hp2:rem[j].2=pv at hpt ⊢;generalize rem.eraseIdx j=rem2 at hpt hel ⊢;refine WO.end0 (e2:=[(3,.sb 1500003 41 2 0 acc.length),(6,.mb 1 1000006),(7,.tup [.bool true,.top,.top]),(8,.bool true),(1000006,.hob 2 (qj pk::fK rem2) (.bool pv::fV rem2)),(1500003,.obj 41 2 (aL acc))]) (by kernel_rfl)<|CodeP.seq (CodeP.cond true (by kernel_rfl) (fun _=>CodeP.of mixedP (W.skip ?_)) (fun h=>Bool.noConfusion h));refine CodeP.wk (env':=[(3,.sb 1500003 41 2 0 acc.length),(6,.mb 1 1000006),(1000006,.hob 2 (qj pk::fK rem2) (.bool pv::fV rem2)),(1500003,.obj 41 2 (aL acc))])<|CodeP.block (CodeP.seq (CodeP.reg mixedP (e2:=[(3,.sb 1500003 41 2 0 acc.length),(4,.box [.int .i64 pk.qr,.int .i64 pk.f_a,.int .i64 pk.f_b]),(6,.mb 1 1000006),(9,.tup [qj pk,.bool pv]),(10,qj pk),(1000006,.hob 2 (qj pk::fK rem2) (.bool pv::fV rem2)),(1500003,.obj 41 2 (aL acc))]) ?_));refine CodeP.wk (env':=[(3,.sb 1500003 41 2 0 acc.length),(4,.box [.int .i64 pk.qr,.int .i64 pk.f_a,.int .i64 pk.f_b]),(6,.mb 1 1000006),(1000006,.hob 2 (qj pk::fK rem2) (.bool pv::fV rem2)),(1500003,.obj 41 2 (aL acc))])<|CodeP.of mixedP (W.region (by kernel_rfl) ?_);refine WO.callK 2 (F:=108) (l:=[qj pk]) (C:=[]) (r:=qM (apiF pk)) (by kernel_rfl) (by kernel_rfl) (qaV pk _ (qjW pk)) (e1:=[(3,.sb 1500003 41 2 0 acc.length),(4,.box [.int .i64 pk.qr,.int .i64 pk.f_a,.int .i64 pk.f_b]),(6,.mb 1 1000006),(11,.sb 1500003 41 2 0 acc.length),(12,qj pk),(13,qM (apiF pk)),(1000006,.hob 2 (qj pk::fK rem2) (.bool pv::fV rem2)),(1500003,.obj 41 2 (aL acc))]) (by kernel_rfl)<|WO.appendOK 1 (d:=15) (e:=41) (s:=2) (bytes:=32) (m:=acc.length) (n2:=(acc++[apiF pk]).length) (xs:=aL acc) (ys:=aL [apiF pk]) (zs:=aL (acc++[apiF pk])) (env1:=[(3,.top),(4,.box [.int .i64 pk.qr,.int .i64 pk.f_a,.int .i64 pk.f_b]),(6,.mb 1 1000006),(11,.top),(12,qj pk),(13,qM (apiF pk)),(14,.lst 41 2 (some 14) (aL [apiF pk])),(1000006,.hob 2 (qj pk::fK rem2) (.bool pv::fV rem2))]) (by kernel_rfl) ?_ ?_ (B0 _) (e1:=[(3,.top),(4,.box [.int .i64 pk.qr,.int .i64 pk.f_a,.int .i64 pk.f_b]),(6,.mb 1 1000006),(11,.top),(12,qj pk),(13,qM (apiF pk)),(14,.lst 41 2 (some 14) (aL [apiF pk])),(15,.sb 1000015 41 2 0 (acc++[apiF pk]).length),(1000006,.hob 2 (qj pk::fK rem2) (.bool pv::fV rem2)),(1000015,.obj 41 2 (aL (acc++[apiF pk])))]) (by kernel_rfl) ?_
  ·have:(aL [apiF pk]).length=1:=rfl;rw[this];simp only[capOk,D6,Nat.ble_eq];omega
  ·unfold snapA aL;rw[List.drop_zero,List.map_append,F6 (by rw[B0];exact Nat.le_refl _)]
  ·refine WO.end0 (e2:=[(3,.sb 1000015 41 2 0 (acc++[apiF pk]).length),(4,.box [.int .i64 pk.qr,.int .i64 pk.f_a,.int .i64 pk.f_b]),(6,.mb 1 1000006),(11,.top),(12,qj pk),(13,qM (apiF pk)),(14,.lst 41 2 (some 14) (aL [apiF pk])),(15,.sb 1000015 41 2 0 (acc++[apiF pk]).length),(1000006,.hob 2 (qj pk::fK rem2) (.bool pv::fV rem2)),(1000015,.obj 41 2 (aL (acc++[apiF pk])))]) (by kernel_rfl) ?_;exact⟨rem.length - 1,by omega,acc++[apiF pk],rem2,.hob 2 (qj pk::fK rem2) (.bool pv::fV rem2),hel,rfl,hpt,Goes.wk (e1:=[(3,.sb 1000015 41 2 0 (acc++[apiF pk]).length),(6,.mb 1 1000006),(1000006,.hob 2 (qj pk::fK rem2) (.bool pv::fV rem2)),(1000015,.obj 41 2 (aL (acc++[apiF pk])))]) (Goes.mv [.ren 1000015 1500003] (Goes.refl _))⟩
end Go.AM
namespace Go.AM
open Go.Proofs
def ZY (fuel:Nat) (a1:(List ruRule)) (a2:(List (rufact×Bool))) (a3:(List (rufact×Bool))):Option (List (rufact×Bool)):=consP fuel a1 a2 a3
theorem Hf (fuel:Nat) (a1:(List ruRule)) (a2:(List (rufact×Bool))) (a3:(List (rufact×Bool))) (r:(List (rufact×Bool))) (h:ZY fuel a1 a2 a3=some r):Run Try.prog (.call 74 [l54 none a1,mpE qj AV.bool a2,mpE qj AV.bool a3] (mpE qj AV.bool r)):=.ext0 (Try.cons74 h)
def Jv (v29:(List (rufact×Bool))):Option ((List (rufact×Bool))×Bool) :=
 (some (v29,true))
def Xf (fuel:Nat) (v14:(List (rufact×Bool))) (N1:((List (rufact×Bool))→Option ((List (rufact×Bool))×Bool))) (v27:(List ruRule)):Option ((List (rufact×Bool))×Bool) :=
 ((ZY fuel v27 v14 v14).bind fun w28=>(N1 w28))
def Zc (N2:((List ruRule)→Option ((List (rufact×Bool))×Bool))) (v26:(List ruRule)):Option ((List (rufact×Bool))×Bool) :=
 (N2 v26)
def JS (k1:Nat) (w5:((List Int)×Bool)) (K18:((List ruRule)→Option ((List (rufact×Bool))×Bool))):List ruRule→Nat→(List ruRule)→Option ((List (rufact×Bool))×Bool)
 | [],k2,v20=>(K18 v20)
 | x2::r2,k2,v20=>((idx w5.1 x2.qg.qb).bind fun e24=>(bif (e24 == (k1:Int)) then (chk (capOk 56 ((v20++[x2])).length) ((Zc (JS k1 w5 K18 r2 (k2+1))) (v20++[x2]))) else ((Zc (JS k1 w5 K18 r2 (k2+1))) v20)))
def Jd (fuel:Nat) (a1:(List ruRule)) (w5:((List Int)×Bool)) (K11:((List (rufact×Bool))→Option ((List (rufact×Bool))×Bool))):List Nat→Nat→(List (rufact×Bool))→Option ((List (rufact×Bool))×Bool)
 | [],k1,v14=>(K11 v14)
 | x1::r1,k1,v14=>(chk (lenOk a1) (JS k1 w5 (Xf fuel v14 (Jd fuel a1 w5 K11 r1 (k1+1))) a1 0 ([]:(List ruRule))))
def Yz (fuel:Nat) (a1:(List ruRule)) (a2:(List apiFact)):Option ((List (rufact×Bool))×Bool) :=
 ((Zu fuel a1).bind fun w5=>(bif (!w5.2) then (some (([]:(List (rufact×Bool))),false)) else ((Uh a2).bind fun w10=>((Qs fuel w5.1).bind fun w13=>(chk (lenOk (D1 (B1 (B4 .i64 (w13+1))))) (Jd fuel a1 w5 (Jv) (D1 (B1 (B4 .i64 (w13+1)))) 0 w10))))))
theorem Df (fuel:Nat) (a1:(List ruRule)) (a2:(List apiFact)) (r:((List (rufact×Bool))×Bool)) (h:Yz fuel a1 a2=some r):Run Try.prog (.call 57 [l54 none a1,l41 none a2] (.tup [mpE qj AV.bool r.1,.bool r.2])):=by
 refine cW Try.func57 rfl (env0:=[(0,l54 none a1),(1,l41 none a2)]) ?_;unfold Yz at h;refine W.seq ?_;let z0:=fun t=>EN ((0,l54 none a1)::t);let z1:=fun t=>z0 ((1,l41 none a2)::t);refine W.rt (e2:=z1 []) ?_;refine W.sr ?_;obtain⟨w5,hw5,h⟩:=qe h;refine WO.ck 1 (F:=85) (l:=[l54 none a1]) (C:=[]) (r:=.tup [l3 none w5.1,.bool w5.2]) (qcn fuel a1 w5 hw5) (e1:=z1 [(14,l54 none a1),(15,.tup [l3 none w5.1,.bool w5.2])]) ?_;let z2:=fun t=>z1 ((6,l3 none w5.1)::t);refine WO.fn (e2:=z2 [(7,.bool w5.2)]) ?_;refine W.seq<|W.seq<|W.rt (e2:=z2 [(19,.bool (!w5.2))]) ?_;refine W.ch (!w5.2) h (fun h=>?_) (fun h=>?_)
 ·refine W.seq ?_;let z3:=fun t=>EN ((4,mpE qj AV.bool ([]:(List (rufact×Bool))))::(5,.bool false)::t);refine W.rt (e2:=z3 []) ?_;refine W.wk (e:=z3 []) ?_;cases h;exact W.rr
 refine W.sw (e:=z2 []) ?_;refine W.sr ?_;obtain⟨w10,hw10,h⟩:=qe h;refine WO.ck 1 (F:=73) (l:=[l41 none a2]) (C:=[]) (r:=mpE qj AV.bool w10) (Dg a2 w10 hw10) (e1:=z2 [(20,l41 none a2),(21,mpE qj AV.bool w10)]) ?_;let z4:=fun t=>z0 ((6,l3 none w5.1)::t);let z5:=fun t=>z4 ((8,mpE qj AV.bool w10)::t);refine WO.fn (e2:=z5 []) ?_;refine W.seq<|W.join (σ:=((List (rufact×Bool)))) (fun s=>[(8,mpE qj AV.bool s)]) (fun s=>(Jv) s=some r) (fun v29 h=>?_) (fun hK11=>?_)
 ·unfold Jv at h;refine W.seq ?_;let z6:=fun t=>EN ((4,mpE qj AV.bool v29)::(5,.bool true)::t);refine W.rt (e2:=z6 []) ?_;refine W.wk (e:=z6 []) ?_;cases h;exact W.rr
 refine W.sr ?_;obtain⟨w13,hw13,h⟩:=qe h;refine WO.ck 1 (F:=107) (l:=[l3 none w5.1]) (C:=[]) (r:=I6 w13) (Za fuel w5.1 w13 hw13) (e1:=z5 [(22,l3 none w5.1),(23,I6 w13)])<|WO.fn (e2:=z5 [(24,I6 (W6 (w13+1))),(25,.int .i64 0)]) ?_;refine W.block ?_;obtain⟨hl1,h⟩:=qi h;refine W.wk (e:=z5 [(24,I6 (W6 (w13+1))),(25,I6 ((0:Nat):Int))])<|W.range (σ:=((List (rufact×Bool)))) (D1 (B1 (W6 (w13+1)))) (fun k1 s=>z4 [(8,mpE qj AV.bool s),(24,I6 (W6 (w13+1))),(25,I6 (k1:Int))]) (fun r0 k0 s=>Jd fuel a1 w5 (Jv) r0 k0 s=some r) (fun v14 h=>?_) (fun x1 r1 k1 s hx1 hk1 h hN1=>?_) w10 h
 ·have h:Jd fuel a1 w5 (Jv) [] ((D1 (B1 (W6 (w13+1))))).length v14=some r:=h;rw[Jd.eq_1]at h;refine W.sr ?_;let z7:=fun t=>z4 ((8,mpE qj AV.bool v14)::(24,I6 (W6 (w13+1)))::(25,I6 (((D1 (B1 (W6 (w13+1))))).length:Int))::(26,.bool false)::t);refine WO.pq 0 (jB (Up (n:=(W6 (w13+1))))) (e1:=z7 [])<|WO.fn (e2:=z7 []) ?_;refine W.seq<|W.cF<|W.exit<|W.wk (e:=[(8,mpE qj AV.bool v14)]) ?_;exact hK11 v14 h
 ·obtain⟨v14,rfl⟩:∃ x,x=s:=⟨s,rfl⟩;have h:Jd fuel a1 w5 (Jv) (x1::r1) k1 v14=some r:=h;rw[Jd.eq_2]at h;refine W.sr ?_;let z8:=fun t=>z4 ((8,mpE qj AV.bool v14)::t);let z9:=fun t=>z8 ((24,I6 (W6 (w13+1)))::(25,I6 (k1:Int))::t);refine WO.pq 0 (jB (Nq hk1)) (e1:=z9 [(26,.bool true)])<|WO.fn (e2:=z9 [(26,.bool true)]) ?_;refine W.seq<|W.cT<|W.sw (e:=z9 []) ?_;refine W.seq<|W.block<|W.seq ?_;let z10:=fun t=>z8 ((9,I6 (k1:Int))::t);refine W.rt (e2:=z10 [(24,I6 (W6 (w13+1))),(25,I6 (k1:Int))]) ?_;refine W.seq ?_;let z11:=fun t=>z10 ((10,.nils)::(24,I6 (W6 (w13+1)))::(25,I6 (k1:Int))::t);refine W.rt (e2:=z11 []) ?_;refine W.seq<|W.join (σ:=((List ruRule))) (fun s=>z8 [(10,l54 (some 11000) s),(24,I6 (W6 (w13+1))),(25,I6 (k1:Int))]) (fun s=>(Xf fuel v14 (Jd fuel a1 w5 (Jv) r1 (k1+1))) s=some r) (fun v27 h=>?_) (fun hK18=>?_)
  ·unfold Xf at h;refine W.rg ?_;obtain⟨w28,hw28,h⟩:=qe h;refine WO.ck 3 (F:=74) (l:=[l54 none v27,mpE qj AV.bool v14,mpE qj AV.bool v14]) (C:=[]) (r:=mpE qj AV.bool w28) (Hf fuel v27 v14 v14 w28 hw28) (e1:=z8 [(10,l54 (some 11000) v27),(24,I6 (W6 (w13+1))),(25,I6 (k1:Int)),(47,l54 (some 11000) v27),(48,mpE qj AV.bool v14),(49,mpE qj AV.bool v14),(50,mpE qj AV.bool w28)]) ?_;let z12:=fun t=>z4 ((8,mpE qj AV.bool w28)::t);refine WO.fn (e2:=z12 [(24,I6 (W6 (w13+1))),(25,I6 (k1:Int))]) ?_;refine W.rg<|WO.pq 0 (jI (qy hl1 hk1)) (e1:=z12 [(24,I6 (B4 .i64 (w13+1))),(25,I6 (k1:Int)),(51,I6 ((k1+1:Nat):Int))])<|WO.fn (e2:=z12 [(24,I6 (W6 (w13+1))),(25,I6 ((k1+1:Nat):Int))]) ?_;exact hN1 w28 h
  refine W.sr ?_;let z13:=fun t=>z11 ((28,l54 none a1)::(29,I6 (a1.length:Int))::t);refine WO.pq 1 (jM Qp a1) (e1:=z13 [])<|WO.fn (e2:=z13 [(30,.int .i64 0)]) ?_;refine W.block ?_;obtain⟨hl2,h⟩:=qi h;refine W.weak [0,6,8,9,10,24,25,28,29,30] [] [(10,0,54,3,11000)] [] (env':=z10 [(10,l54 (some 11000) ([]:(List ruRule))),(24,I6 (W6 (w13+1))),(25,I6 (k1:Int)),(28,l54 none a1),(29,I6 (a1.length:Int)),(30,I6 ((0:Nat):Int))]) (by kernel_rfl)<|W.range (σ:=((List ruRule))) a1 (fun k2 s=>z10 [(10,l54 (some 11000) s),(24,I6 (W6 (w13+1))),(25,I6 (k1:Int)),(28,l54 none a1),(29,I6 (a1.length:Int)),(30,I6 (k2:Int))]) (fun r0 k0 s=>JS k1 w5 (Xf fuel v14 (Jd fuel a1 w5 (Jv) r1 (k1+1))) r0 k0 s=some r) (fun v20 h=>?_) (fun x2 r2 k2 s hx2 hk2 h hN2=>?_) ([]:(List ruRule)) h
  ·have h:JS k1 w5 (Xf fuel v14 (Jd fuel a1 w5 (Jv) r1 (k1+1))) [] (a1).length v20=some r:=h;rw[JS.eq_1]at h;refine W.sr ?_;let z14:=fun t=>z10 ((10,l54 (some 11000) v20)::(24,I6 (W6 (w13+1)))::(25,I6 (k1:Int))::(28,l54 none a1)::(29,I6 (a1.length:Int))::(30,I6 ((a1).length:Int))::(31,.bool false)::t);refine WO.pq 0 (jB (qJ (l:=a1))) (e1:=z14 [])<|WO.fn (e2:=z14 []) ?_;refine W.seq<|W.cF<|W.exit<|W.wk (e:=z8 [(10,l54 (some 11000) v20),(24,I6 (W6 (w13+1))),(25,I6 (k1:Int))]) ?_;exact hK18 v20 h
  ·obtain⟨v20,rfl⟩:∃ x,x=s:=⟨s,rfl⟩;have h:JS k1 w5 (Xf fuel v14 (Jd fuel a1 w5 (Jv) r1 (k1+1))) (x2::r2) k2 v20=some r:=h;rw[JS.eq_2]at h;refine W.sr ?_;let z15:=fun t=>z10 ((10,l54 (some 11000) v20)::(24,I6 (W6 (w13+1)))::(25,I6 (k1:Int))::(28,l54 none a1)::(29,I6 (a1.length:Int))::(30,I6 (k2:Int))::t);refine WO.pq 0 (jB (qU hk2)) (e1:=z15 [(31,.bool true)])<|WO.fn (e2:=z15 [(31,.bool true)]) ?_;refine W.seq<|W.cT<|W.sw (e:=z15 []) ?_;refine W.seq<|W.join (σ:=((List ruRule))) (fun s=>z10 [(10,l54 (some 11000) s),(24,I6 (W6 (w13+1))),(25,I6 (k1:Int)),(28,l54 none a1),(29,I6 (a1.length:Int)),(30,I6 (k2:Int))]) (fun s=>(Zc (JS k1 w5 (Xf fuel v14 (Jd fuel a1 w5 (Jv) r1 (k1+1))) r2 (k2+1))) s=some r) (fun v26 h=>?_) (fun hK21=>?_)
   ·unfold Zc at h;refine W.rg<|WO.pq 0 (jI (qy hl2 hk2)) (e1:=z10 [(10,l54 (some 11000) v26),(24,I6 (B4 .i64 (w13+1))),(25,I6 (k1:Int)),(28,l54 none a1),(29,I6 (a1.length:Int)),(30,I6 (k2:Int)),(46,I6 ((k2+1:Nat):Int))])<|WO.fn (e2:=z10 [(10,l54 (some 11000) v26),(24,I6 (W6 (w13+1))),(25,I6 (k1:Int)),(28,l54 none a1),(29,I6 (a1.length:Int)),(30,I6 ((k2+1:Nat):Int))]) ?_;exact hN2 v26 h
   refine W.block<|W.sr<|WO.pq 0 (qV (f:=Qp) hx2) (e1:=z15 [(32,.ptr (.agg [I6 x2.qg.qb,l3 none x2.qg.qa,l56 none x2.qd]))]) ?_;let z16:=fun t=>z10 ((10,l54 (some 11000) v20)::(12,.ptr (.agg [I6 x2.qg.qb,l3 none x2.qg.qa,l56 none x2.qd]))::(24,I6 (W6 (w13+1)))::(25,I6 (k1:Int))::(28,l54 none a1)::(29,I6 (a1.length:Int))::(30,I6 (k2:Int))::t);refine WO.fi [0,6,8,9,10,12,24,25,28,29,30] [12] (e2:=z16 []) ?_;refine W.sr ?_;obtain⟨e24,he24,h⟩:=qe h;refine WO.pq 4 (QZ (f:=(AV.int .i64)) he24) (e1:=z16 [(34,l3 none w5.1),(35,.ptr (.agg [I6 x2.qg.qb,l3 none x2.qg.qa])),(36,.ptr (I6 x2.qg.qb)),(37,I6 x2.qg.qb),(38,.ptr (I6 e24))])<|WO.fn (e2:=z16 [(41,.bool (e24 == (k1:Int)))]) ?_;refine W.ch (e24 == (k1:Int)) h (fun h=>?_) (fun h=>?_)
   ·refine W.rg ?_;obtain⟨hc25,h⟩:=qi h;refine WO.appendK 3 (d:=45) (e:=54) (s:=3) (bytes:=56) (xs:=(C7 Qp v20)) (ys:=(C7 Qp [x2])) (zs:=(C7 Qp (v20++[x2]))) (env1:=[(0,l54 none a1),(6,l3 none w5.1),(8,mpE qj AV.bool v14),(9,I6 (k1:Int)),(10,l54 none v20),(12,.ptr (.agg [I6 x2.qg.qb,l3 none x2.qg.qa,l56 none x2.qd])),(24,I6 (W6 (w13+1))),(25,I6 (k1:Int)),(28,l54 none a1),(29,I6 (a1.length:Int)),(30,I6 (k2:Int)),(41,.bool (e24 == (k1:Int))),(42,l54 none v20),(43,.agg [I6 x2.qg.qb,l3 none x2.qg.qa,l56 none x2.qd]),(44,l54 (some 44) [x2])]) (by kernel_rfl) (List.map_append.symm) (by rw[B0];exact hc25) (e1:=z10 [(10,l54 none v20),(12,.ptr (.agg [I6 x2.qg.qb,l3 none x2.qg.qa,l56 none x2.qd])),(24,I6 (W6 (w13+1))),(25,I6 (k1:Int)),(28,l54 none a1),(29,I6 (a1.length:Int)),(30,I6 (k2:Int)),(41,.bool (e24 == (k1:Int))),(42,l54 none v20),(43,.agg [I6 x2.qg.qb,l3 none x2.qg.qa,l56 none x2.qd]),(44,l54 (some 44) [x2]),(45,l54 (some 45) (v20++[x2]))]) (by kernel_rfl) ?_;refine WO.fin [0,6,8,9,10,24,25,28,29,30] [] [] [(45,some 11000)] (e2:=z10 [(10,l54 (some 11000) (v20++[x2])),(24,I6 (W6 (w13+1))),(25,I6 (k1:Int)),(28,l54 none a1),(29,I6 (a1.length:Int)),(30,I6 (k2:Int))]) (by kernel_rfl) (fun _ h=>h) ?_;exact hK21 (v20++[x2]) h
   refine W.sw (e:=z15 []) ?_;exact hK21 v20 h
def ZN (a1:(List (rufact×Bool))):Option (List apiFact):=chk (decide (a1.length≤1000)&&nodupF (a1.map Prod.fst)) (some (sortF (apis a1)))
theorem qaU (a1:(List (rufact×Bool))) (r:(List apiFact)) (h:ZN a1=some r):Run Try.prog (.call 58 [mpE qj AV.bool a1] (l41 none r)):=by
 unfold ZN at h;obtain⟨hc,h⟩:=qi h;cases h;rw[D6,decide_eq_true_eq]at hc;exact .ext0 (list58 hc.1 (qaC hc.2))
def Dl (fuel:Nat) (a1:(List ruRule)) (a2:(List apiFact)):Option ((List apiFact)×Int) :=
 ((Yy fuel a1 a2).bind fun w6=>(bif (!w6) then (some (([]:(List apiFact)),2)) else ((Yz fuel a1 a2).bind fun w9=>(bif (!w9.2) then (some (([]:(List apiFact)),8)) else ((ZN w9.1).bind fun w14=>(some (w14,0)))))))
theorem qdR (fuel:Nat) (a1:(List ruRule)) (a2:(List apiFact)) (r:((List apiFact)×Int)) (h:Dl fuel a1 a2=some r):Run Try.prog (.call 17 [l54 none a1,l41 none a2] (.tup [l41 none r.1,I6 r.2])):=by
 refine cW Try.func17 rfl (env0:=[(0,l54 none a1),(1,l41 none a2)]) ?_;unfold Dl at h;refine W.seq ?_;let z0:=fun t=>EN ((0,l54 none a1)::(1,l41 none a2)::t);refine W.rt (e2:=z0 []) ?_;refine W.seq<|W.sr ?_;obtain⟨w6,hw6,h⟩:=qe h;refine WO.ck 2 (F:=56) (l:=[l54 none a1,l41 none a2]) (C:=[]) (r:=.bool w6) (De fuel a1 a2 w6 hw6) (e1:=z0 [(8,l54 none a1),(9,l41 none a2),(10,.bool w6)])<|WO.fn (e2:=z0 [(11,.bool (!w6))]) ?_;refine W.ch (!w6) h (fun h=>?_) (fun h=>?_)
 ·refine W.seq<|W.rt (e2:=[(4,.nils),(5,.int .i64 2)]) ?_;refine W.weak [4,5] [] [(4,0,41,2,70004)] [] (env':=[(4,l41 (some 70004) ([]:(List apiFact))),(5,.int .i64 2)]) (by kernel_rfl) ?_;cases h;exact W.rr
 refine W.sw (e:=z0 []) ?_;refine W.sr ?_;obtain⟨w9,hw9,h⟩:=qe h;refine WO.ck 2 (F:=57) (l:=[l54 none a1,l41 none a2]) (C:=[]) (r:=.tup [mpE qj AV.bool w9.1,.bool w9.2]) (Df fuel a1 a2 w9 hw9) (e1:=z0 [(13,l54 none a1),(14,l41 none a2),(15,.tup [mpE qj AV.bool w9.1,.bool w9.2])]) ?_;let z1:=fun t=>EN ((6,mpE qj AV.bool w9.1)::t);refine WO.fn (e2:=z1 [(7,.bool w9.2)]) ?_;refine W.seq<|W.seq<|W.rt (e2:=z1 [(19,.bool (!w9.2))]) ?_;refine W.ch (!w9.2) h (fun h=>?_) (fun h=>?_)
 ·refine W.seq<|W.rt (e2:=[(4,.nils),(5,.int .i64 8)]) ?_;refine W.weak [4,5] [] [(4,0,41,2,70004)] [] (env':=[(4,l41 (some 70004) ([]:(List apiFact))),(5,.int .i64 8)]) (by kernel_rfl) ?_;cases h;exact W.rr
 refine W.sw (e:=z1 []) ?_;refine W.sr ?_;obtain⟨w14,hw14,h⟩:=qe h;refine WO.ck 1 (F:=58) (l:=[mpE qj AV.bool w9.1]) (C:=[]) (r:=l41 none w14) (qaU w9.1 w14 hw14) (e1:=z1 [(20,mpE qj AV.bool w9.1),(21,l41 none w14)])<|WO.fn (e2:=[(4,l41 none w14),(5,.int .i64 0)]) ?_;refine W.wk (e:=[(4,l41 none w14),(5,.int .i64 0)]) ?_;cases h;exact W.rr
def Ve (v6:Bool):Option Bool :=
 (some v6)
def Zy (fuel:Nat):Option Bool :=
 ((Dl fuel [(ruRule.mk (qo.mk 1 [0]) [(ruLit.mk false (qo.mk 0 [0]))])] [(apiFact.mk 0 [3])]).bind fun w3=>(bif (w3.2 == 0) then ((Np w3.1 [(apiFact.mk 0 [3]),(apiFact.mk 1 [3])]).bind fun w5=>((Ve) w5)) else ((Ve) false)))
theorem VW (fuel:Nat)  (r:Bool) (h:Zy fuel=some r):Run Try.prog (.call 21 [] (.bool r)):=by
 refine cW Try.func21 rfl (env0:=[]) ?_;unfold Zy at h;refine W.seq<|W.rt (e2:=[]) ?_;refine W.sr ?_;obtain⟨w3,hw3,h⟩:=qe h;refine WO.ck 11 (F:=17) (l:=[l54 none [(ruRule.mk (qo.mk 1 [0]) [(ruLit.mk false (qo.mk 0 [0]))])],l41 none [(apiFact.mk 0 [3])]]) (C:=[]) (r:=.tup [l41 none w3.1,I6 w3.2]) (qdR fuel [(ruRule.mk (qo.mk 1 [0]) [(ruLit.mk false (qo.mk 0 [0]))])] [(apiFact.mk 0 [3])] w3 hw3) (e1:=[(4,l3 (some 4) [0]),(5,.agg [.int .i64 1,l3 none [0]]),(6,l3 (some 6) [0]),(7,.agg [.int .i64 0,l3 none [0]]),(8,.agg [.bool false,.int .i64 0,l3 none [0]]),(9,l56 (some 9) [(ruLit.mk false (qo.mk 0 [0]))]),(10,.agg [.int .i64 1,l3 none [0],l56 none [(ruLit.mk false (qo.mk 0 [0]))]]),(11,l54 (some 11) [(ruRule.mk (qo.mk 1 [0]) [(ruLit.mk false (qo.mk 0 [0]))])]),(12,l3 (some 12) [3]),(13,.agg [.int .i64 0,l3 none [3]]),(14,l41 (some 14) [(apiFact.mk 0 [3])]),(15,.tup [l41 none w3.1,I6 w3.2])]) ?_;let z0:=fun t=>EN ((1,l41 none w3.1)::(2,I6 w3.2)::t);refine WO.fn (e2:=z0 []) ?_;refine W.seq<|W.join (σ:=(Bool)) (fun s=>[(0,.bool s)]) (fun s=>(Ve) s=some r) (fun v6 h=>?_) (fun hK4=>?_)
 ·unfold Ve at h;refine W.wk (e:=[(0,.bool v6)]) ?_;cases h;exact W.rr
 refine W.rg<|WO.bh 3 (fun b=>z0 [(18,I6 w3.2),(19,.bool b),(20,.bool b)]) (w3.2 == 0) h (fun h=>?_) (fun h=>?_)
 ·obtain⟨w5,hw5,h⟩:=qe h;refine WO.ck 6 (F:=23) (l:=[l41 none w3.1,l41 none [(apiFact.mk 0 [3]),(apiFact.mk 1 [3])]]) (C:=[]) (r:=.bool w5) (qdX w3.1 [(apiFact.mk 0 [3]),(apiFact.mk 1 [3])] w5 hw5) (e1:=z0 [(18,I6 w3.2),(19,.bool true),(20,.bool true),(21,l41 none w3.1),(22,l3 (some 22) [3]),(23,.agg [.int .i64 0,l3 none [3]]),(24,l3 (some 24) [3]),(25,.agg [.int .i64 1,l3 none [3]]),(26,l41 (some 26) [(apiFact.mk 0 [3]),(apiFact.mk 1 [3])]),(27,.bool w5)])<|WO.fn (e2:=[(0,.bool w5)]) ?_;exact hK4 w5 h
 refine WO.fn (e2:=[(0,.bool false)]) ?_;exact hK4 false h
theorem qQ {α:Type} {l:List α} (h:l.length≤9223372036854775807):lenOk l=true:=Nat.ble_eq_true_of_le (by omega)
theorem QY {b n:Nat} (hb:b≤64) (h:n≤1000000000):capOk b n=true:=by
 simp only[capOk,D6,Nat.ble_eq];refine⟨?_,by omega⟩;exact Nat.le_trans (Nat.mul_le_mul h hb) (by omega)
theorem UR {α:Type} {b:Bool} {o:Option α} (h:b=true):chk b o=o:=by rw[h];rfl
theorem wrap64 {n:Int} (h1 : -9223372036854775808≤n) (h2:n≤9223372036854775807):B4 .i64 n=n:=by
 simp[B4,IntKind.signed,IntKind.bits];omega
def cvA (a:rf2Atom):qo:=⟨a.qb,a.qa.take 5⟩
def cvL (x:rf3Lit):ruLit:=⟨x.qp,cvA x.qc⟩
def cvR (r:rf3Rule):ruRule:=⟨cvA r.qg,(r.qd.take 5).map cvL⟩
def cvF (f:apiFact):apiFact:=⟨f.qb,f.qa.take 9⟩
theorem qbi {l:List Int} (n:Nat):sub l 0 (if (n:Int)<(l.length:Int) then (n:Int) else (l.length:Int))=some (l.take n):=by
 unfold sub;split
 ·rw[if_pos ⟨by omega,by omega,by omega⟩];simp
 ·rw[if_pos ⟨by omega,by omega,by omega⟩];simp[F6 (show l.length≤n by omega)]
theorem qat {l:List Int} (h:l.length≤1000):QB l=some l:=by
 unfold QB;rw[UR (QY (by omega) (by omega))]
theorem qfM (a:rf2Atom):Un a=some (cvA a):=by
 unfold Un;have:=qbi (l:=a.qa) 5;rw[show ((5:Nat):Int)=5 from rfl]at this;rw[this];show (QB (a.qa.take 5)).bind _=_;rw[qat (by simp;omega)];rfl
theorem qjU (l:List Int):Ds l=some (l.take 9):=by
 unfold Ds;have:=qbi (l:=l) 9;rw[show ((9:Nat):Int)=9 from rfl]at this;rw[this];show (QB (l.take 9)).bind _=_;rw[qat (by simp;omega)];rfl
theorem qiZ (K:ruRule→Option (List ruRule)):∀ (body:List rf3Lit) (k:Nat) (rel:Int) (args:List Int) (acc:List ruLit),acc.length≤k→acc.length≤5→Xa K body k rel args acc=K ⟨⟨rel,args⟩,acc++(body.take (5 - k)).map cvL⟩
 | [],k,rel,args,acc,_,_=>by simp[Xa]
 | x::r,k,rel,args,acc,h1,h2=>by
  rw[Xa];by_cases hk:k<5
  ·rw[dT (by omega:(k:Int)<5),cT,qfM];show chk _ _=_;rw[UR (QY (by omega) (by simp;omega))];unfold Zz;rw[qiZ K r (k+1) rel args _ (by simp;omega) (by simp;omega)];obtain⟨m,hm⟩:∃ m,5 - k=m+1:=⟨5 - k - 1,by omega⟩;rw[hm,show 5 - (k+1)=m by omega,F7,D7,D0];rfl
  ·rw[dF (by omega:¬ (k:Int)<5),cN];unfold Zz;rw[qiZ K r (k+1) rel args acc (by omega) h2,show 5 - (k+1)=0 by omega,show 5 - k=0 by omega];simp
theorem qke (K:List ruRule→Option (List ruRule)):∀ (l:List rf3Rule) (k:Nat) (acc:List ruRule),(∀ r,r∈l→lenOk r.qd=true)→acc.length≤k→acc.length≤12→JY K l k acc=K (acc++(l.take (12 - k)).map cvR)
 | [],k,acc,_,_,_=>by simp[JY]
 | x::r,k,acc,hb,h1,h2=>by
  rw[JY];by_cases hk:k > 11
  ·rw[dT (by omega:(k:Int) > 11),cT,show 12 - k=0 by omega];simp
  ·rw[dF (by omega:¬ (k:Int) > 11),cN,qfM];show chk (lenOk x.qd) _=_;rw[UR (hb x (A1 ..)),qiZ _ _ _ _ _ _ (by simp) (by simp)];show chk _ _=_;rw[UR (QY (by omega) (by simp;omega)),qke K r (k+1) _ (fun q hq=>hb q (A9 _ hq)) (by simp;omega) (by simp;omega)];obtain⟨m,hm⟩:∃ m,12 - k=m+1:=⟨12 - k - 1,by omega⟩;rw[hm,show 12 - (k+1)=m by omega,F7,D7,D0];rfl
theorem qkh {l:List rf3Rule} (hl:lenOk l=true) (hb:∀ r,r∈l→lenOk r.qd=true):qbB l=some ((l.take 12).map cvR):=by
 unfold qbB;rw[UR hl,qke _ _ _ _ hb (by simp) (by simp)];rfl
theorem qfw (K:List apiFact→Option (List apiFact)):∀ (l:List apiFact) (k:Nat) (acc:List apiFact),acc.length≤k→acc.length≤26→Qk K l k acc=K (acc++(l.take (26 - k)).map cvF)
 | [],k,acc,_,_=>by simp[Qk]
 | x::r,k,acc,h1,h2=>by
  rw[Qk];by_cases hk:k > 25
  ·rw[dT (by omega:(k:Int) > 25),cT,show 26 - k=0 by omega];simp
  ·rw[dF (by omega:¬ (k:Int) > 25),cN,qjU];show chk _ _=_;rw[UR (QY (by omega) (by simp;omega)),qfw K r (k+1) _ (by simp;omega) (by simp;omega)];obtain⟨m,hm⟩:∃ m,26 - k=m+1:=⟨26 - k - 1,by omega⟩;rw[hm,show 26 - (k+1)=m by omega,F7,D7,D0];rfl
theorem qil {l:List apiFact} (hl:lenOk l=true):Uo l=some ((l.take 26).map cvF):=by
 unfold Uo;rw[UR hl,qfw _ _ _ _ (by simp) (by simp)];rfl
def groundP (f:apiFact):Prop:=(0≤f.qb∧f.qb≤5)∧(1≤f.qa.length∧f.qa.length≤2)∧∀ x,x∈f.qa→1≤x∧x≤6
def fitP (rel:Int) (args:List Int):Prop:=(0≤rel∧rel≤5)∧(1≤args.length∧args.length≤2)∧∀ x,x∈args → -6≤x∧x≤7
instance (f:apiFact):Decidable (groundP f):=by unfold groundP;infer_instance
instance (rel:Int) (args:List Int):Decidable (fitP rel args):=by unfold fitP;infer_instance
theorem qdi (K:Option Bool):∀ (args:List Int) (k:Nat),JG K args k=if ∀ x,x∈args→1≤x∧x≤6 then K else some false
 | [],k=>by simp[JG]
 | x::r,k=>by
  rw[JG];unfold YE;rw[qdi K r (k+1)];by_cases h1:x<1
  ·rw[dT h1,cT,cT,if_neg (fun h=>by have:=h x (A1 ..);omega)]
  ·rw[dF h1,cN];by_cases h2:x > 6
   ·rw[dT h2,cT,if_neg (fun h=>by have:=h x (A1 ..);omega)]
   ·rw[dF h2,cN]
    have:(∀ y,y∈x::r→1≤y∧y≤6)↔∀ y,y∈r→1≤y∧y≤6:=by
     simp only[A3,forall_eq_or_imp];exact⟨fun h=>h.2,fun h=>⟨by omega,h⟩⟩
    simp only[this]
theorem qbJ {f:apiFact} (hl:lenOk f.qa=true):Zx f=some (decide (groundP f)):=by
 unfold Zx;rw[UR hl,qdi];unfold XT QV;by_cases h:∀ x,x∈f.qa→1≤x∧x≤6
 ·rw[if_pos h];by_cases h1:f.qb≥0
  ·rw[dT h1,cT];by_cases h2:f.qb≤5
   ·rw[dT h2,cT];by_cases h3:(f.qa.length:Int)≥1
    ·rw[dT h3,cT]
     congr 1
     rw[decide_eq_decide];unfold groundP;constructor
     ·intro h4;exact⟨⟨h1,h2⟩,⟨by omega,by omega⟩,h⟩
     ·intro h4;have:=h4.2.1.2;omega
    ·rw[dF h3,cN,dF (fun h4:groundP f=>by have:=h4.2.1.1;omega)]
   ·rw[dF h2,cN,dF (fun h4:groundP f=>h2 h4.1.2)]
  ·rw[dF h1,cN,dF (fun h4:groundP f=>h1 h4.1.1)]
 ·rw[if_neg h,dF (fun h4:groundP f=>h h4.2.2)]
theorem qhs (K:Option Bool):∀ (args:List Int) (k:Nat),QM K args k=if ∀ x,x∈args → -6≤x∧x≤7 then K else some false
 | [],k=>by simp[QM]
 | x::r,k=>by
  rw[QM];unfold ZO;rw[qhs K r (k+1)];by_cases h1:x < -6
  ·rw[dT h1,cT,cT,if_neg (fun h=>by have:=h x (A1 ..);omega)]
  ·rw[dF h1,cN];by_cases h2:x > 7
   ·rw[dT h2,cT,if_neg (fun h=>by have:=h x (A1 ..);omega)]
   ·rw[dF h2,cN]
    have:(∀ y,y∈x::r → -6≤y∧y≤7)↔∀ y,y∈r → -6≤y∧y≤7:=by
     simp only[A3,forall_eq_or_imp];exact⟨fun h=>h.2,fun h=>⟨by omega,h⟩⟩
    simp only[this]
theorem qfs {a:rf2Atom} (hl:lenOk a.qa=true):Uj a=some (decide (fitP a.qb a.qa)):=by
 unfold Uj;rw[UR hl,qhs];unfold YX XE;by_cases h:∀ x,x∈a.qa → -6≤x∧x≤7
 ·rw[if_pos h];by_cases h1:a.qb≥0
  ·rw[dT h1,cT];by_cases h2:a.qb≤5
   ·rw[dT h2,cT];by_cases h3:(a.qa.length:Int)≥1
    ·rw[dT h3,cT]
     congr 1
     rw[decide_eq_decide];unfold fitP;constructor
     ·intro h4;exact⟨⟨h1,h2⟩,⟨by omega,by omega⟩,h⟩
     ·intro h4;have:=h4.2.1.2;omega
    ·rw[dF h3,cN,dF (fun h4:fitP _ _=>by have:=h4.2.1.1;omega)]
   ·rw[dF h2,cN,dF (fun h4:fitP _ _=>h2 h4.1.2)]
  ·rw[dF h1,cN,dF (fun h4:fitP _ _=>h1 h4.1.1)]
 ·rw[if_neg h,dF (fun h4:fitP _ _=>h h4.2.2)]
theorem qbd {a b:Nat} (ha:a<256) (hb:b<256):iOr .i64 (a:Int) (b:Int)=((a ||| b:Nat):Int):=by
 have h:a ||| b<256:=D8 (n:=8) ha hb
 unfold iOr
 have e:(BitVec.ofInt IntKind.i64.bits (a:Int) ||| BitVec.ofInt IntKind.i64.bits (b:Int)).toNat=a ||| b:=by
  rw[BitVec.toNat_or]
  have e1:∀ n:Nat,n<256→(BitVec.ofInt IntKind.i64.bits (n:Int)).toNat=n:=fun n hn=>by
   rw[BitVec.ofInt_natCast,BitVec.toNat_ofNat];exact Nat.mod_eq_of_lt (by show n<2 ^ 64;omega)
  rw[e1 a ha,e1 b hb]
 rw[e,wrap64 (by omega) (by omega)]
theorem qjj {x:Int} (h0:0≤x) (h1:x≤7):iShl .i64 1 x=((2 ^ x.toNat:Nat):Int)∧2 ^ x.toNat<256:=by
 obtain⟨n,rfl⟩:=Int.eq_ofNat_of_zero_le h0
 have hn:n≤7:=by omega
 match n,hn with
 | 0,_ | 1,_ | 2,_ | 3,_ | 4,_ | 5,_ | 6,_ | 7,_=>decide
theorem qdH (K:Int→Option Int):∀ (args:List Int) (k m:Nat),m<256→(∀ x,x∈args→x≤7)→∃ m':Nat,m'<256∧JT K args k (m:Int)=K (m':Int)∧∀ i,i<8→(m'.testBit i=true↔m.testBit i=true∨(i:Int)∈args)
 | [],k,m,hm,_=>⟨m,hm,by rw[JT],fun i _=>by simp⟩
 | x::r,k,m,hm,hx=>by
  have hx0:=hx x (A1 ..)
  have hr:∀ y,y∈r→y≤7:=fun y hy=>hx y (A9 _ hy)
  rw[JT];unfold ZP;by_cases h0:x≥0
  ·rw[dT h0,cT,UR rfl];obtain⟨e1,e2⟩:=qjj h0 hx0;rw[e1,qbd hm e2];obtain⟨m',q1,q2,q3⟩:=qdH K r (k+1) _ (D8 (n:=8) hm e2) hr;refine⟨m',q1,q2,fun i hi=>?_⟩;rw[q3 i hi,F8,D5,Nat.testBit_two_pow,decide_eq_true_eq,A3]
   have:x.toNat=i↔(i:Int)=x:=by omega
   rw[this];constructor
   ·rintro ((h | h) | h)
    ·exact .inl h
    ·exact .inr (.inl h)
    ·exact .inr (.inr h)
   ·rintro (h | h | h)
    ·exact .inl (.inl h)
    ·exact .inl (.inr h)
    ·exact .inr h
  ·rw[dF h0,cN];obtain⟨m',q1,q2,q3⟩:=qdH K r (k+1) m hm hr;refine⟨m',q1,q2,fun i hi=>?_⟩;rw[q3 i hi,A3]
   have:¬ (i:Int)=x:=by omega
   simp[this]
theorem qeu {a:rf2Atom} (hl:lenOk a.qa=true) (hx:∀ x,x∈a.qa→x≤7):∃ m:Nat,m<256∧Vr a=some (m:Int)∧∀ i,i<8→(m.testBit i=true↔(i:Int)∈a.qa):=by
 unfold Vr;rw[UR hl];obtain⟨m,h1,h2,h3⟩:=qdH Xy a.qa 0 0 (by omega) hx;exact⟨m,h1,h2,fun i hi=>by rw[h3 i hi];simp⟩
theorem qjd {a b:Nat} (ha:a<256) (hb:b<256) (h:∀ i,i<8→(a.testBit i=true↔b.testBit i=true)):a=b:=by
 refine Nat.eq_of_testBit_eq fun i=>?_
 by_cases hi:i<8
 ·rw[Bool.eq_iff_iff];exact h i hi
 ·have h8:256≤2 ^ i:=by
   calc 256=2 ^ 8:=by decide
    _≤2 ^ i:=Nat.pow_le_pow_right (by omega) (by omega)
  rw[G6 (by omega),G6 (by omega)]
open Classical
def szF (f:apiFact):qm:=⟨f.qb,(f.qa.length:Int)⟩
def szA (a:rf2Atom):qm:=⟨a.qb,(a.qa.length:Int)⟩
def sizesR (r:rf3Rule):List qm:=szA r.qg::r.qd.map fun b=>szA b.qc
def conP (S:List qm):Prop:=∀ x,x∈S→∀ y,y∈S→x.f_0=y.f_0→x.f_1=y.f_1
def safeR (r:rf3Rule):Prop:=∀ i:Nat,i<8→(((i:Int)∈r.qg.qa∨∃ b,b∈r.qd∧(i:Int)∈b.qc.qa)↔∃ b,b∈r.qd∧b.qp=false∧(i:Int)∈b.qc.qa)
def okR (r:rf3Rule):Prop:=fitP r.qg.qb r.qg.qa∧r.qd.length≤3∧(∀ b,b∈r.qd→fitP b.qc.qb b.qc.qa)∧safeR r
def VR (l:List rf3Rule) (facts:List apiFact):Prop:=l.length≤10∧facts.length≤20∧(∀ f,f∈facts→groundP f)∧(∀ r,r∈l→okR r)∧conP (facts.map szF++l.flatMap sizesR)
def okArgs (l:List Int):Prop:=lenOk l=true∧∀ x,x∈l→wfI .i64 x=true
def okAtom (a:rf2Atom):Prop:=wfI .i64 a.qb=true∧okArgs a.qa
def okRule (r:rf3Rule):Prop:=okAtom r.qg∧lenOk r.qd=true∧∀ b,b∈r.qd→okAtom b.qc
def okRules (l:List rf3Rule):Prop:=lenOk l=true∧∀ r,r∈l→okRule r
def okFact (f:apiFact):Prop:=wfI .i64 f.qb=true∧okArgs f.qa
def okFacts (l:List apiFact):Prop:=lenOk l=true∧∀ f,f∈l→okFact f
theorem qev (x:qm) (K:Option Bool):∀ (S:List qm) (k:Nat),Qe x K S k=if ∀ y,y∈S→x.f_0=y.f_0→x.f_1=y.f_1 then K else some false
 | [],k=>by simp[Qe]
 | y::r,k=>by
  rw[Qe];unfold YA;rw[qev x K r (k+1)];simp only[A3,forall_eq_or_imp];by_cases h1:x.f_0=y.f_0
  ·have:(x.f_0 == y.f_0)=true:=by simp[h1]
   rw[this,cT];by_cases h2:x.f_1=y.f_1
   ·have:(x.f_1 != y.f_1)=false:=by simp[h2]
    rw[this,cN];simp[h2]
   ·have:(x.f_1 != y.f_1)=true:=by simp[h2]
    rw[this,cT,if_neg (fun h=>h2 (h.1 h1))]
  ·have:(x.f_0 == y.f_0)=false:=by simp[h1]
   rw[this,cN,cN];simp[h1]
theorem qew (S:List qm) (hS:lenOk S=true):∀ (T:List qm) (k:Nat),JL S Qg T k=if ∀ x,x∈T→∀ y,y∈S→x.f_0=y.f_0→x.f_1=y.f_1 then some true else some false
 | [],k=>by simp[JL,Qg]
 | x::r,k=>by
  rw[JL,UR hS,qev];unfold XQ;rw[qew S hS r (k+1)];simp only[A3,forall_eq_or_imp];by_cases h1:∀ y,y∈S→x.f_0=y.f_0→x.f_1=y.f_1
  ·rw[if_pos h1];by_cases h2:∀ a,a∈r→∀ y,y∈S→a.f_0=y.f_0→a.f_1=y.f_1
   ·rw[if_pos h2,if_pos ⟨h1,h2⟩]
   ·rw[if_neg h2,if_neg (fun h=>h2 h.2)]
  ·rw[if_neg h1,if_neg (fun h=>h1 h.1)]
theorem qhC {S:List qm} (hS:lenOk S=true):jl S=if conP S then some true else some false:=by
 unfold jl;rw[UR hS,qew S hS];by_cases h:conP S
 ·rw[if_pos h];exact if_pos h
 ·rw[if_neg h];exact if_neg h
theorem qex (K:List qm→Int→Int→Option Bool):∀ (body:List rf3Lit) (k:Nat) (S:List qm) (a b:Nat),(∀ x,x∈body→okAtom x.qc)→a<256→b<256→S.length+body.length≤1000000 →
  ((∀ x,x∈body→fitP x.qc.qb x.qc.qa)∧∃ a' b':Nat,a'<256∧b'<256∧jy K body k S a b=K (S++body.map fun x=>szA x.qc) a' b' ∧
   (∀ i,i<8→(a'.testBit i=true↔a.testBit i=true∨∃ x,x∈body∧(i:Int)∈x.qc.qa))∧∀ i,i<8→(b'.testBit i=true↔b.testBit i=true∨∃ x,x∈body∧x.qp=false∧(i:Int)∈x.qc.qa)) ∨
  (¬ (∀ x,x∈body→fitP x.qc.qb x.qc.qa)∧jy K body k S a b=some false)
 | [],k,S,a,b,_,ha,hb,_=>.inl ⟨fun x hx=>by simp at hx,a,b,ha,hb,by rw[jy];simp,fun i _=>by simp,fun i _=>by simp⟩
 | x::r,k,S,a,b,ho,ha,hb,hl=>by
  have hox:=ho x (A1 ..);rw[jy,qfs hox.2.1];simp only[A0];by_cases hf:fitP x.qc.qb x.qc.qa
  ·rw[dT hf];simp only[B7,cN];rw[UR (QY (by omega) (by simp at hl ⊢;omega))];obtain⟨m,hm,hv,hbit⟩:=qeu hox.2.1 (fun y hy=>(hf.2.2 y hy).2);rw[hv];simp only[A0];unfold XR
   have ho':∀ y,y∈r→okAtom y.qc:=fun y hy=>ho y (A9 _ hy)
   have hl':(S++[qm.mk x.qc.qb (x.qc.qa.length:Int)]).length+r.length≤1000000:=by simp at hl ⊢;omega
   have ham:a ||| m<256:=D8 (n:=8) ha hm
   have hbm:b ||| m<256:=D8 (n:=8) hb hm
   have key:∀ b2:Nat,b2<256→(∀ i,i<8→(b2.testBit i=true↔b.testBit i=true∨(x.qp=false∧(i:Int)∈x.qc.qa))) →
     ((∀ y,y∈x::r→fitP y.qc.qb y.qc.qa)∧∃ a' b':Nat,a'<256∧b'<256∧jy K r (k+1) (S++[qm.mk x.qc.qb (x.qc.qa.length:Int)]) ((a ||| m:Nat):Int) (b2:Int)=K (S++(x::r).map fun x=>szA x.qc) a' b' ∧
      (∀ i,i<8→(a'.testBit i=true↔a.testBit i=true∨∃ y,y∈x::r∧(i:Int)∈y.qc.qa))∧∀ i,i<8→(b'.testBit i=true↔b.testBit i=true∨∃ y,y∈x::r∧y.qp=false∧(i:Int)∈y.qc.qa)) ∨
     (¬ (∀ y,y∈x::r→fitP y.qc.qb y.qc.qa)∧jy K r (k+1) (S++[qm.mk x.qc.qb (x.qc.qa.length:Int)]) ((a ||| m:Nat):Int) (b2:Int)=some false):=by
    intro b2 hb2 hbits
    rcases qex K r (k+1) _ (a ||| m) b2 ho' ham hb2 hl' with ⟨q1,a',b',q2,q3,q4,q5,q6⟩ | ⟨q1,q2⟩
    ·left;refine⟨fun y hy=>?_,a',b',q2,q3,?_,fun i hi=>?_,fun i hi=>?_⟩
     ·rcases List.mem_cons.1 hy with rfl | hy
      ·exact hf
      ·exact q1 y hy
     ·rw[q4,D7,D0];rfl
     ·rw[q5 i hi,F8,D5,hbit i hi];simp only[A3];constructor
      ·rintro ((h | h) | ⟨y,hy,h⟩)
       ·exact .inl h
       ·exact .inr ⟨x,.inl rfl,h⟩
       ·exact .inr ⟨y,.inr hy,h⟩
      ·rintro (h | ⟨y,rfl | hy,h⟩)
       ·exact .inl (.inl h)
       ·exact .inl (.inr h)
       ·exact .inr ⟨y,hy,h⟩
     ·rw[q6 i hi,hbits i hi];simp only[A3];constructor
      ·rintro ((h | h) | ⟨y,hy,h⟩)
       ·exact .inl h
       ·exact .inr ⟨x,.inl rfl,h⟩
       ·exact .inr ⟨y,.inr hy,h⟩
      ·rintro (h | ⟨y,rfl | hy,h⟩)
       ·exact .inl (.inl h)
       ·exact .inl (.inr h)
       ·exact .inr ⟨y,hy,h⟩
    ·exact .inr ⟨fun h=>q1 fun y hy=>h y (A9 _ hy),q2⟩
   cases hn:x.qp with
   | true =>
    simp only[B7,cN];rw[qbd ha hm];exact key b hb (fun i _=>by simp[hn])
   | false =>
    simp only[C0,cT];rw[qbd ha hm,qbd hb hm];refine key (b ||| m) hbm (fun i hi=>?_);rw[F8,D5,hbit i hi];simp[hn]
  ·rw[dF hf];simp only[C0,cT];exact .inr ⟨fun h=>hf (h x (A1 ..)),by first | rfl | trivial⟩
theorem qey (K:List qm→Option Bool):∀ (l:List rf3Rule) (k:Nat) (S:List qm),(∀ r,r∈l→okRule r)→S.length+5*l.length≤100000→jc K l k S=if ∀ r,r∈l→okR r then K (S++l.flatMap sizesR) else some false
 | [],k,S,_,_=>by simp[jc]
 | x::r,k,S,ho,hl=>by
  obtain⟨hoh,hob,hol⟩:=ho x (A1 ..);rw[jc,qfs hoh.2.1];simp only[A0,A3,forall_eq_or_imp];unfold YB;by_cases hf:fitP x.qg.qb x.qg.qa
  ·rw[dT hf];simp only[B7,cN];by_cases h3:x.qd.length≤3
   ·rw[dF (by omega:¬ (x.qd.length:Int) > 3),cN,UR (QY (by omega) (by simp at hl ⊢;omega))];obtain⟨m,hm,hv,hbit⟩:=qeu hoh.2.1 (fun y hy=>(hf.2.2 y hy).2);rw[hv];simp only[A0];rw[UR hob]
    rcases qex (Jt (jc K r (k+1))) x.qd 0 (S++[qm.mk x.qg.qb (x.qg.qa.length:Int)]) m 0 hol hm (by omega) (by simp at hl ⊢;omega) with ⟨q1,a',b',q2,q3,q4,q5,q6⟩ | ⟨q1,q2⟩
    ·rw[show ((0:Nat):Int)=0 from rfl]at q4;rw[q4];unfold Jt
     have hsafe:a'=b'↔safeR x:=by
      constructor
      ·rintro rfl i hi
       have h1:=q5 i hi;have h2:=q6 i hi;rw[hbit i hi]at h1;rw[h2]at h1;simp only[Nat.zero_testBit,E8,false_or]at h1;exact h1.symm
      ·intro h
       refine qjd q2 q3 fun i hi=>?_
       rw[q5 i hi,q6 i hi,hbit i hi];simp only[Nat.zero_testBit,E8,false_or];exact h i hi
     by_cases hs:safeR x
     ·have hab:=hsafe.2 hs
      have:((a':Int) != (b':Int))=false:=by simp[hab]
      rw[this,cN,qey K r (k+1) _ (fun q hq=>ho q (A9 _ hq)) (by simp at hl ⊢;omega)];have hokx:okR x:=⟨hf,h3,q1,hs⟩
      have e:S++[qm.mk x.qg.qb (x.qg.qa.length:Int)]++x.qd.map (fun x=>szA x.qc)++r.flatMap sizesR=S++(x::r).flatMap sizesR:=by
       simp[sizesR,szA]
      rw[e];simp only[hokx,true_and]
     ·have hab:a'≠b':=fun e=>hs (hsafe.1 e)
      have:((a':Int) != (b':Int))=true:=by simp;omega
      rw[this,cT,if_neg (fun h=>hs h.1.2.2.2)]
    ·rw[show ((0:Nat):Int)=0 from rfl]at q2;rw[q2,if_neg (fun h=>q1 h.1.2.2.1)]
   ·rw[dT (by omega:(x.qd.length:Int) > 3),cT,if_neg (fun h=>h3 h.1.2.1)]
  ·rw[dF hf];simp only[C0,cT];rw[if_neg (fun h=>hf h.1.1)]
theorem qez (K:List qm→Option Bool):∀ (l:List apiFact) (k:Nat) (S:List qm),(∀ f,f∈l→okFact f)→S.length+l.length≤100000→Qf K l k S=if ∀ f,f∈l→groundP f then K (S++l.map szF) else some false
 | [],k,S,_,_=>by simp[Qf]
 | x::r,k,S,ho,hl=>by
  obtain⟨_,hox,_⟩:=ho x (A1 ..);rw[Qf,qbJ hox];simp only[A0,A3,forall_eq_or_imp];by_cases hf:groundP x
  ·rw[dT hf];simp only[B7,cN];rw[UR (QY (by omega) (by simp at hl ⊢;omega)),qez K r (k+1) _ (fun q hq=>ho q (A9 _ hq)) (by simp at hl ⊢;omega)]
   have e:S++[qm.mk x.qb (x.qa.length:Int)]++r.map szF=S++(x::r).map szF:=by simp[szF]
   rw[e];simp only[hf,true_and]
  ·rw[dF hf];simp only[C0,cT];rw[if_neg (fun h=>hf h.1)]
theorem qea {l:List rf3Rule} {facts:List apiFact} (hl:okRules l) (hf:okFacts facts):Vh l facts=some (decide (VR l facts)):=by
 have key:Vh l facts=if VR l facts then some true else some false:=by
  unfold Vh Zj;by_cases h1:l.length≤10
  ·rw[dF (by omega:¬ (l.length:Int) > 10),cN];by_cases h2:facts.length≤20
   ·rw[dF (by omega:¬ (facts.length:Int) > 20),cN,UR hf.1,qez _ _ _ _ hf.2 (by simp;omega)];by_cases h3:∀ f,f∈facts→groundP f
    ·rw[if_pos h3];unfold XF;rw[UR hl.1,List.nil_append,qey _ _ _ _ hl.2 (by simp;omega)];by_cases h4:∀ r,r∈l→okR r
     ·rw[if_pos h4,qhC]
      ·by_cases h5:conP (facts.map szF++l.flatMap sizesR)
       ·rw[if_pos h5,if_pos ⟨h1,h2,h3,h4,h5⟩]
       ·rw[if_neg h5,if_neg (fun h=>h5 h.2.2.2.2)]
      ·refine qQ ?_
       have:∀ l:List rf3Rule,(∀ r,r∈l→okR r)→(l.flatMap sizesR).length≤4*l.length:=by
        intro l hl
        induction l with
        | nil=>simp
        | cons r l ih =>
         have h5:=ih fun q hq=>hl q (A9 _ hq)
         have h6:=(hl r (A1 ..)).2.1;simp only[List.flatMap_cons,E9,List.length_cons,sizesR,B0];omega
       have:=this l h4;simp only[E9,B0];omega
     ·rw[if_neg h4,if_neg (fun h=>h4 h.2.2.2.1)]
    ·rw[if_neg h3,if_neg (fun h=>h3 h.2.2.1)]
   ·rw[dT (by omega:(facts.length:Int) > 20),cT,if_neg (fun h=>h2 h.2.1)]
  ·rw[dT (by omega:(l.length:Int) > 10),cT,cT,if_neg (fun h=>h1 h.1)]
 rw[key];by_cases h:VR l facts<;>simp[h]
end Go.AM
namespace Go.AM
open Go.Proofs
open Classical
theorem qhk {fuel:Nat} (hf:4≤fuel) {l:List Int} (h1:1≤l.length) (h2:l.length≤2):∃ m,Yb fuel l=some m∧m∈l∧∀ x,x∈l→m≤x:=by
 obtain⟨f,rfl⟩:∃ f,fuel=f+4:=⟨fuel - 4,by omega⟩
 match l,h1,h2 with
 | [a],_,_ =>
  refine⟨a,?_,by simp,by simp⟩;simp[Yb,Qc,QG,idx]
 | [a,b],_,_ =>
  have e:Yb (f+4) [a,b]=some (if b<a then b else a):=by
   simp[Yb,Qc,QG,idx,wrap64]
  rw[e];by_cases h:b<a
  ·rw[if_pos h];exact⟨b,rfl,by simp,by simp;omega⟩
  ·rw[if_neg h];exact⟨a,rfl,by simp,by simp;omega⟩
theorem qhn {fuel:Nat} (hf:4≤fuel) {l:List Int} (h1:1≤l.length) (h2:l.length≤2):∃ m,Qs fuel l=some m∧m∈l∧∀ x,x∈l→x≤m:=by
 obtain⟨f,rfl⟩:∃ f,fuel=f+4:=⟨fuel - 4,by omega⟩
 match l,h1,h2 with
 | [a],_,_ =>
  refine⟨a,?_,by simp,by simp⟩;simp[Qs,Jf,Qd,idx]
 | [a,b],_,_ =>
  have e:Qs (f+4) [a,b]=some (if b > a then b else a):=by
   simp[Qs,Jf,Qd,idx,wrap64]
  rw[e];by_cases h:b > a
  ·rw[if_pos h];exact⟨b,rfl,by simp,by simp;omega⟩
  ·rw[if_neg h];exact⟨a,rfl,by simp,by simp;omega⟩
def rangeP (s:qm):Prop:=(0≤s.f_0∧s.f_0≤5)∧1≤s.f_1∧s.f_1≤2
def Tab (n:List Int) (S:List qm):Prop:=n.length=6∧(∀ s,s∈S→rangeP s)∧∀ i:Nat,i<6→(n[i]? = some 0∧∀ s,s∈S→s.f_0≠i)∨∃ k,n[i]? = some k∧k≠0∧(⟨i,k⟩:qm)∈S∧∀ s,s∈S→s.f_0=i→s.f_1=k
theorem Tab.zero:Tab (List.replicate 6 0) []:=⟨by simp,fun s hs=>by simp at hs,fun i hi=>.inl ⟨by rw[List.getElem?_replicate,if_pos hi],fun s hs=>by simp at hs⟩⟩
theorem Tab.con {n:List Int} {S:List qm} (h:Tab n S):conP S:=by
 intro x hx y hy hxy;obtain⟨⟨r1,r2⟩,_⟩:=h.2.1 x hx
 rcases h.2.2 x.f_0.toNat (by omega) with ⟨_,q⟩ | ⟨k,_,_,_,q⟩
 ·exact absurd (show x.f_0=(x.f_0.toNat:Int) by omega) (q x hx)
 ·rw[q x hx (by omega),q y hy (by omega)]
theorem Tab.add {n:List Int} {S:List qm} (h:Tab n S) (rel k:Int) :
  ((rangeP ⟨rel,k⟩∧conP (S++[⟨rel,k⟩]))∧∃ n',Ql n rel k=some (true,n')∧Tab n' (S++[⟨rel,k⟩]))∨(¬ (rangeP ⟨rel,k⟩∧conP (S++[⟨rel,k⟩]))∧Ql n rel k=some (false,n)):=by
 unfold Ql Ja;by_cases h1:rel<0
 ·rw[dT h1,cT,cT];exact .inr ⟨fun h2=>by have:=h2.1.1.1;simp only at this;omega,rfl⟩
 rw[dF h1,cN];by_cases h2:rel≥6
 ·rw[dT h2,cT,cT];exact .inr ⟨fun h2=>by have:=h2.1.1.2;simp only at this;omega,rfl⟩
 rw[dF h2,cN];by_cases h3:k<1
 ·rw[dT h3,cT,cT];exact .inr ⟨fun h2=>by have:=h2.1.2.1;simp only at this;omega,rfl⟩
 rw[dF h3,cN];by_cases h4:k > 2
 ·rw[dT h4,cT,cT];exact .inr ⟨fun h2=>by have:=h2.1.2.2;simp only at this;omega,rfl⟩
 rw[dF h4,cN];have hr:rangeP ⟨rel,k⟩:=⟨⟨by simp only;omega,by simp only;omega⟩,by simp only;omega,by simp only;omega⟩;obtain⟨i,rfl⟩:∃ i:Nat,rel=i:=⟨rel.toNat,by omega⟩
 have hi:i<6:=by omega
 have e0:(0+B1 (i:Int)*1)=i:=by omega
 rw[UR (dT (by omega)),e0]
 have hset:∀ m:Int,n[i]? = some m→(m=0∨m=k)→conP (S++[⟨i,k⟩])∧Tab (n.set i k) (S++[⟨i,k⟩]):=by
  intro m hm hmk
  have hq:∀ s,s∈S→s.f_0=i→s.f_1=k:=by
   rcases h.2.2 i hi with ⟨q1,q2⟩ | ⟨k',q1,q2,q3,q4⟩
   ·exact fun s hs e=>absurd e (q2 s hs)
   ·rw[hm]at q1;cases q1;intro s hs e;rw[q4 s hs e]
    rcases hmk with h5 | h5
    ·exact absurd h5 q2
    ·exact h5
  have hTab:Tab (n.set i k) (S++[⟨i,k⟩]):=by
   refine⟨by simp[h.1],fun s hs=>?_,fun j hj=>?_⟩
   ·rcases List.mem_append.1 hs with hs | hs
    ·exact h.2.1 s hs
    ·rw[List.mem_singleton.1 hs];exact hr
   ·by_cases hij:j=i
    ·subst hij;refine .inr ⟨k,by rw[List.getElem?_set_self (by rw[h.1];omega)],by omega,by simp,fun s hs e=>?_⟩
     rcases List.mem_append.1 hs with hs | hs
     ·exact hq s hs e
     ·rw[List.mem_singleton.1 hs]
    ·rw[List.getElem?_set_ne (fun e=>hij e.symm)]
     rcases h.2.2 j hj with ⟨q1,q2⟩ | ⟨k',q1,q2,q3,q4⟩
     ·refine .inl ⟨q1,fun s hs=>?_⟩
      rcases List.mem_append.1 hs with hs | hs
      ·exact q2 s hs
      ·rw[List.mem_singleton.1 hs];simp only;omega
     ·refine .inr ⟨k',q1,q2,D9 _ q3,fun s hs e=>?_⟩
      rcases List.mem_append.1 hs with hs | hs
      ·exact q4 s hs e
      ·rw[List.mem_singleton.1 hs]at e;simp only at e;omega
  exact⟨hTab.con,hTab⟩
 have hlen:i<n.length:=by rw[h.1];exact hi
 rcases h.2.2 i hi with ⟨q1,q2⟩ | ⟨k',q1,q2,q3,q4⟩
 ·rw[q1];simp only[A0,bne_self_eq_false,cN];rw[UR (dT (by omega)),UR (dT hlen)];obtain⟨c1,c2⟩:=hset 0 q1 (.inl rfl);exact .inl ⟨⟨hr,c1⟩,_,rfl,c2⟩
 ·rw[q1];simp only[A0]
  have:(k' != 0)=true:=by simp[q2]
  rw[this,cT];by_cases hk:k'=k
  ·have e1:(k' != k)=false:=by simp[hk]
   rw[e1,cN,UR (dT (by omega)),UR (dT (by omega)),UR (dT hlen)];obtain⟨c1,c2⟩:=hset k' q1 (.inr hk);exact .inl ⟨⟨hr,c1⟩,_,rfl,c2⟩
  ·have e1:(k' != k)=true:=by simp[hk]
   rw[e1,cT,UR (dT (by omega))];exact .inr ⟨fun h2=>hk (h2.2 ⟨i,k'⟩ (D9 _ q3) ⟨i,k⟩ (by simp) rfl),rfl⟩
theorem HI {fuel:Nat} (hf:4≤fuel) (f:apiFact):Zv fuel f=some (decide (groundP f)):=by
 unfold Zv Ym
 rcases Tab.zero.add f.qb (f.qa.length:Int) with ⟨⟨h1,_⟩,n',h2,_⟩ | ⟨h1,h2⟩
 ·rw[h2];simp only[A0,cT];obtain⟨⟨r1,r2⟩,r3,r4⟩:=h1;simp only at r1 r2 r3 r4;obtain⟨m,e1,e2,e3⟩:=qhk hf (l:=f.qa) (by omega) (by omega);rw[e1];simp only[A0];by_cases hm:m≥1
  ·rw[dT hm,cT];obtain⟨M,g1,g2,g3⟩:=qhn hf (l:=f.qa) (by omega) (by omega);rw[g1];simp only[A0]
   congr 1
   rw[decide_eq_decide];constructor
   ·intro h;exact⟨⟨r1,r2⟩,⟨by omega,by omega⟩,fun x hx=>⟨by have:=e3 x hx;omega,by have:=g3 x hx;omega⟩⟩
   ·intro h;exact (h.2.2 M g2).2
  ·rw[dF hm,cN,dF (fun h:groundP f=>by have:=(h.2.2 m e2).1;omega)]
 ·rw[h2];simp only[A0,cN];rw[dF];intro h;refine h1 ⟨⟨h.1,by simp only;have:=h.2.1.1;omega,by simp only;have:=h.2.1.2;omega⟩,?_⟩;intro x hx y hy _;rw[List.nil_append]at hx hy;rw[List.mem_singleton.1 hx,List.mem_singleton.1 hy]
theorem DH {S T:List qm} (h:conP (S++T)):conP S:=fun x hx y hy e=>h x (D9 _ hx) y (D9 _ hy) e
theorem qcV {fuel:Nat} (hf:4≤fuel) (K:List Int→Option Bool):∀ (l:List apiFact) (k:Nat) (n:List Int) (S:List qm),Tab n S →
  (((∀ f,f∈l→groundP f)∧conP (S++l.map szF))∧∃ n',Jp fuel K l k n=K n'∧Tab n' (S++l.map szF))∨(¬ ((∀ f,f∈l→groundP f)∧conP (S++l.map szF))∧Jp fuel K l k n=some false)
 | [],k,n,S,h=>.inl ⟨⟨fun f hf=>by simp at hf,by simpa using h.con⟩,n,by rw[Jp],by simpa using h⟩
 | x::r,k,n,S,h=>by
  rw[Jp,HI hf];simp only[A0];unfold Yl;by_cases hx:groundP x
  ·rw[dT hx];simp only[B7,cN]
   have e:S++(x::r).map szF=S++[szF x]++r.map szF:=by simp
   rcases h.add x.qb (x.qa.length:Int) with ⟨⟨q1,q2⟩,n',q3,q4⟩ | ⟨q1,q2⟩
   ·rw[q3];simp only[A0,B7,cN]
    rcases qcV hf K r (k+1) n' _ q4 with ⟨⟨p1,p2⟩,n2,p3,p4⟩ | ⟨p1,p2⟩
    ·rw[e];refine .inl ⟨⟨fun f hf=>?_,p2⟩,n2,p3,p4⟩
     rcases List.mem_cons.1 hf with rfl | hf
     ·exact hx
     ·exact p1 f hf
    ·rw[e];exact .inr ⟨fun h2=>p1 ⟨fun f hf=>h2.1 f (A9 _ hf),h2.2⟩,p2⟩
   ·rw[q2];simp only[A0,C0,cT];refine .inr ⟨fun h2=>q1 ⟨⟨hx.1,?_,?_⟩,?_⟩,by first | rfl | trivial⟩
    ·have:=hx.2.1.1;simp only;omega
    ·have:=hx.2.1.2;simp only;omega
    ·rw[e]at h2;exact DH h2.2
  ·rw[dF hx];simp only[C0,cT];exact .inr ⟨fun h2=>hx (h2.1 x (A1 ..)),by first | rfl | trivial⟩
end Go.AM
