/- s -/
import Derived.Ground.SlsfProg
import Derived.Shelf.SlSortCmp.NoneTotal
import Derived.Test.YtdghpfejmlpjhaaProg
import Derived.Test.YtdghpfejmlpjhaaRCon2
import Derived.Test.YtdghpfejmlpjhaaRA1
import Derived.Sort.Grow
set_option maxRecDepth 100000
set_option linter.unusedVariables false
set_option linter.unusedSimpArgs false
namespace Go.Proofs
open Go.Shelf
def Try.laysSlF06_f109_ren:Go.Shelf.Ren:=⟨fun | 6=>109 | 15=>126 | 14=>125 | 28=>139 | 29=>140 | 20=>131 | 21=>132 | 22=>133 | 23=>134 | 24=>135 | 25=>136 | 26=>137 | 27=>138 | 46=>141 | 47=>142 | 48=>143 | 49=>144 | 50=>145 | 57=>146 | n=>n,fun | 22=>23 | 24=>41 | 25=>176 | 3=>3 | 39=>49 | 0=>0 | 53=>204 | 55=>206 | 4=>4 | 46=>197 | 45=>196 | 50=>201 | 5=>5 | 9=>9 | 66=>207 | 70=>163 | 76=>212 | 77=>81 | n=>n,fun | n=>n⟩
theorem Try.laysSlF06_f109:Go.Proofs.SlLaysF0.n6 Try.prog Try.laysSlF06_f109_ren:={
 mixed:=by kernel_rfl
 f6:=⟨Try.f109.name,by decide,Try.func109.trans (congrArg some (by kernel_rfl))⟩
 f14:=⟨Try.f125.name,by decide,Try.func125.trans (congrArg some (by kernel_rfl))⟩
 f15:=Try.func126.trans (congrArg some (by kernel_rfl))
 f20:=⟨Try.f131.name,by decide,Try.func131.trans (congrArg some (by kernel_rfl))⟩
 f21:=⟨Try.f132.name,by decide,Try.func132.trans (congrArg some (by kernel_rfl))⟩
 f22:=⟨Try.f133.name,by decide,Try.func133.trans (congrArg some (by kernel_rfl))⟩
 f23:=⟨Try.f134.name,by decide,Try.func134.trans (congrArg some (by kernel_rfl))⟩
 f24:=⟨Try.f135.name,by decide,Try.func135.trans (congrArg some (by kernel_rfl))⟩
 f25:=⟨Try.f136.name,by decide,Try.func136.trans (congrArg some (by kernel_rfl))⟩
 f26:=⟨Try.f137.name,by decide,Try.func137.trans (congrArg some (by kernel_rfl))⟩
 f27:=⟨Try.f138.name,by decide,Try.func138.trans (congrArg some (by kernel_rfl))⟩
 f28:=Try.func139.trans (congrArg some (by kernel_rfl))
 f29:=Try.func140.trans (congrArg some (by kernel_rfl))
 f46:=⟨Try.f141.name,by decide,Try.func141.trans (congrArg some (by kernel_rfl))⟩
 f47:=Try.func142.trans (congrArg some (by kernel_rfl))
 f48:=Try.func143.trans (congrArg some (by kernel_rfl))
 f49:=⟨Try.f144.name,by decide,Try.func144.trans (congrArg some (by kernel_rfl))⟩
 f50:=⟨Try.f145.name,by decide,Try.func145.trans (congrArg some (by kernel_rfl))⟩
 f57:=⟨Try.f146.name,by decide,Try.func146.trans (congrArg some (by kernel_rfl))⟩
 t0:=Try.underlying0
 a0:=Try.isAgg0
 z0:=Try.sizeOf0
 v0:=Try.zeroValue0
 t3:=Try.underlying3
 a3:=Try.isAgg3
 z3:=Try.sizeOf3
 v3:=Try.zeroValue3
 t4:=Try.underlying4
 a4:=Try.isAgg4
 z4:=Try.sizeOf4
 v4:=Try.zeroValue4
 t5:=Try.underlying5
 a5:=Try.isAgg5
 z5:=Try.sizeOf5
 v5:=Try.zeroValue5
 t9:=Try.underlying9
 a9:=Try.isAgg9
 z9:=Try.sizeOf9
 v9:=Try.zeroValue9
 t22:=Try.underlying23
 a22:=Try.isAgg23
 z22:=Try.sizeOf23
 v22:=Try.zeroValue23
 t25:=Try.underlying176
 a25:=Try.isAgg176
 z25:=Try.sizeOf176
 v25:=Try.zeroValue176
 t39:=Try.underlying49
 a39:=Try.isAgg49
 z39:=Try.sizeOf49
 v39:=Try.zeroValue49
 t45:=Try.underlying196
 a45:=Try.isAgg196
 z45:=Try.sizeOf196
 v45:=Try.zeroValue196
 t46:=Try.underlying197
 a46:=Try.isAgg197
 z46:=Try.sizeOf197
 v46:=Try.zeroValue197
 t50:=Try.underlying201
 a50:=Try.isAgg201
 z50:=Try.sizeOf201
 v50:=Try.zeroValue201
 t53:=Try.underlying204
 a53:=Try.isAgg204
 z53:=Try.sizeOf204
 v53:=Try.zeroValue204
 t55:=Try.underlying206
 a55:=Try.isAgg206
 z55:=Try.sizeOf206
 v55:=Try.zeroValue206
 t66:=Try.underlying207
 a66:=Try.isAgg207
 z66:=Try.sizeOf207
 v66:=Try.zeroValue207
 t70:=Try.underlying163
 a70:=Try.isAgg163
 z70:=Try.sizeOf163
 v70:=Try.zeroValue163
 t76:=Try.underlying212
 a76:=Try.isAgg212
 z76:=Try.sizeOf212
 v76:=Try.zeroValue212
 t77:=Try.underlying81
 a77:=Try.isAgg81
 z77:=Try.sizeOf81
 v77:=Try.zeroValue81 }
open Go.RowKit Go.Lib Go.Sort in
theorem Try.slices_SortFunc_none {α:Type} [Inhabited α] (p:Option Addr) (cap:Nat) (fv:Value) (w:World) :
  Calls Try.prog 109 #[.slice p 0 cap,fv] w fun e w'=>e=.returned (.tuple #[])∧w'=w:=AnyF.slices_SortFunc_none Try.laysSlF06_f109 p cap fv w
open Go.RowKit Go.Lib Go.Sort in
theorem Try.slices_SortFunc_total {α:Type} [Inhabited α] (k:Nat) (aE:∀ w,(isAgg 41).run Try.prog w=.ok true w) (zE:∀ w,(Go.sizeOf 41).run Try.prog w=.ok k w) (enc:α→List Value) (hk:∀ x,(enc x).length=k) (h1:∀ x,∀ v∈enc x,v.oneCell'=true) (cf:α→α→Int) (hO:SWO (ltOf cf)) (g:Nat) (cb:Array Value) (blk off cap:Nat) (d:Array α) (w:World) (eg:∀ args w,(callFunc g args).run Try.prog w=.ok (.enter g args) w) (hcmp:CmpLays Try.prog g cb enc k cf blk off d.size w) (hH:HoldsK enc k w blk off d) (hblk:blk<w.heap.size) (hsz:d.size<4611686018427387904) (hT:∀ x y,(ltOf cf) x y=false→(ltOf cf) y x=false→x=y) :
  Calls Try.prog 109 #[.slice (some ⟨blk,off,none⟩) d.size cap,.func (.func g) #[] cb] w fun e w' =>
   e=.returned (.tuple #[])∧∃ n os,w'=sortWorldK enc k w blk off n (d.toList.mergeSort fun x y=>!(ltOf cf) y x).toArray os:=AnyQ.slices_SortFunc_total Try.laysSlF06_f109 k aE zE enc hk h1 cf hO g cb blk off cap d w eg hcmp hH hblk hsz hT
end Go.Proofs
namespace Go.Proofs
open Go.RowKit Go.Sort Go.AM Go.Lib
def cmpI (x y:Int):Int:=if x<y then -1 else if y<x then 1 else 0
def orI2 (x y:Int):Int:=if x≠0 then x else y
def cmpL:List Int→List Int→Int
 | [],[]=>0
 | [],_::_ => -1
 | _::_,[]=>1
 | x::a,y::b=>if cmpI x y≠0 then cmpI x y else cmpL a b
set_option maxHeartbeats 4000000 in
theorem Try.cmp112 (x y:Int) (W:World):Calls Try.prog 112 #[.int .i64 x,.int .i64 y] W fun e w'=>e=.returned (.int .i64 (cmpI x y))∧w'=W:=by
 have t3:=Try.underlying3;have a3:=Try.isAgg3;have z3:=Try.sizeOf3;have v3:=Try.zeroValue3;have u3:=run_underlying Try.underlying3;have t4:=Try.underlying4;have a4:=Try.isAgg4;have z4:=Try.sizeOf4;have v4:=Try.zeroValue4;have u4:=run_underlying Try.underlying4;unfold cmpI
 go_enter Try.func112,Try.ntmps112
 by_cases h1:x<y
 ·go_wp2
  go_ret
  simp[h1]
 ·by_cases h2:y<x
  ·go_wp2
   go_ret
   simp[h1,h2]
  ·go_wp2
   go_ret
   simp[h1,h2]
set_option maxHeartbeats 4000000 in
theorem Try.or111 (x y:Int) (g cap:Nat) (W:World) (h0:W.cell? ⟨g,0,none⟩=some (.int .i64 x)) (h1:W.cell? ⟨g,1,none⟩=some (.int .i64 y)):Calls Try.prog 111 #[.slice (some ⟨g,0,none⟩) 2 cap] W fun e w'=>e=.returned (.int .i64 (orI2 x y))∧w'=W:=by
 have t3:=Try.underlying3;have a3:=Try.isAgg3;have z3:=Try.sizeOf3;have v3:=Try.zeroValue3;have u3:=run_underlying Try.underlying3;have t4:=Try.underlying4;have a4:=Try.isAgg4;have z4:=Try.sizeOf4;have v4:=Try.zeroValue4;have u4:=run_underlying Try.underlying4;have t39:=Try.underlying39;have a39:=Try.isAgg39;have z39:=Try.sizeOf39;have v39:=Try.zeroValue39;have u39:=run_underlying Try.underlying39;obtain⟨r,hr⟩:∃ r,r=orI2 x y:=⟨_,rfl⟩;rw[← hr]
 go_enter Try.func111,Try.ntmps111
 go_wp2
 go_loop [8] (fun i=>∃ k:Nat,k≤2∧i=.int .i64 k∧(1≤k→x=0)∧(2≤k→y=0)) (fun i=>2 - (RowKit.intOf i).toNat)
 case atStart=>exact⟨0,by omega,rfl,fun h=>by omega,fun h=>by omega⟩
 case round =>
  obtain⟨k,hk,rfl,k1,k2⟩:=hrel
  match k,hk with
  | 0,_ =>
   by_cases hx:x=0
   ·subst hx
    go_wp2
    go_round
    case rel=>exact⟨1,by omega,rfl,by simp_all,by simp_all⟩
    case measure=>simp[RowKit.intOf]
   ·go_wp2
    go_ret
    simp[orI2,hx]
  | 1,_ =>
   have hx:=k1 (by omega)
   by_cases hy:y=0
   ·subst hy
    go_wp2
    go_round
    case rel=>exact⟨2,by omega,rfl,by simp_all,by simp_all⟩
    case measure=>simp[RowKit.intOf]
   ·go_wp2
    go_ret
    simp[orI2,hx,hy]
  | 2,_ =>
   have hx:=k1 (by omega);have hy:=k2 (by omega)
   go_wp2
   go_ret
   simp[orI2,hx,hy]
theorem qeY {a b:List Int} {k:Nat} (ha:k<a.length) (hb:k<b.length):cmpL (a.drop k) (b.drop k)=if cmpI a[k] b[k]≠0 then cmpI a[k] b[k] else cmpL (a.drop (k+1)) (b.drop (k+1)):=by
 rw[List.drop_eq_getElem_cons ha,List.drop_eq_getElem_cons hb,cmpL]
theorem ZR {M:Mem} {e k:Nat} {l:Option Nat} {xs:List AV} {v:Value} (h:R M (.lst e k l xs) v):∃ a cap,v=.slice a xs.length cap:=by
 cases h with
 | lstn=>exact⟨none,0,rfl⟩
 | lste _ _ _ ad cap=>exact⟨some ad,cap,rfl⟩
 | lst us h1 h2 h5 h3 h4=>exact⟨_,_,rfl⟩
set_option maxHeartbeats 4000000 in
theorem Try.cmp113 (a b:List Int) (va vb:Value) (M:Mem) (W:World) (hC:Cons M W) (ra:R M (l3 none a) va) (rb:R M (l3 none b) vb) (hla:a.length≤1000000):Calls Try.prog 113 #[va,vb] W fun e w'=>e=.returned (.int .i64 (cmpL a b))∧w'=W:=by
 have t3:=Try.underlying3;have a3:=Try.isAgg3;have z3:=Try.sizeOf3;have v3:=Try.zeroValue3;have u3:=run_underlying Try.underlying3;have t4:=Try.underlying4;have a4:=Try.isAgg4;have z4:=Try.sizeOf4;have v4:=Try.zeroValue4;have u4:=run_underlying Try.underlying4;have t39:=Try.underlying39;have a39:=Try.isAgg39;have z39:=Try.sizeOf39;have v39:=Try.zeroValue39;have u39:=run_underlying Try.underlying39;obtain⟨pa,ca,rfl,ha⟩:=Nw (l:=a) ra;obtain⟨pb,cb,rfl,hb⟩:=Nw (l:=b) rb;have hcmp:=Try.cmp112;obtain⟨r,hr⟩:∃ r,r=cmpL a b:=⟨_,rfl⟩;rw[← hr];have HR:=(show Hid _ from hr);clear hr
 go_enter Try.func113,Try.ntmps113
 go_wp2
 go_loop [11] (fun i=>∃ k:Nat,k≤a.length∧k≤b.length∧i=.int .i64 k∧r=cmpL (a.drop k) (b.drop k)) (fun i=>a.length - (RowKit.intOf i).toNat)
 case atStart=>exact⟨0,Nat.zero_le _,Nat.zero_le _,rfl,HR.out⟩
 case round =>
  obtain⟨k,hk,hkb,rfl,hrk⟩:=hrel
  rcases Nat.lt_or_ge k a.length with h1 | h1
  ·obtain⟨ga,oa,rfl,hMa⟩:=ha k h1;have fa:=Ju (hC _ _ _ hMa) rfl;have i0:(0:Int)≤(k:Int):=Int.natCast_nonneg _
   have i1:(k:Int)<(a.length:Int):=by omega
   rcases Nat.lt_or_ge k b.length with h2 | h2
   ·obtain⟨gb,ob,rfl,hMb⟩:=hb k h2;have fb:=Ju (hC _ _ _ hMb) rfl
    have i2:(k:Int)<(b.length:Int):=by omega
    have n1:¬ (b.length:Int)≤(k:Int):=by omega
    have hst:=qeY h1 h2;rw[← hrk]at hst;generalize a[k]=x at fa hst;generalize b[k]=y at fb hst;have hc:=hcmp x y W;generalize cmpI x y=c at hst hc;clear ha hb hcmp hrk
    by_cases h0:c=0
    ·subst h0
     go_wp2_with fail
     refine hc.mono ?_
     rintro e w5 ⟨rfl,rfl⟩
     go_wp2
     go_round
     case rel=>exact⟨k+1,h1,h2,by go_num,by simpa using hst⟩
     case measure=>simp[RowKit.intOf];omega
    ·rw[if_pos h0]at hst
     go_wp2_with fail
     refine hc.mono ?_
     rintro e w5 ⟨rfl,rfl⟩
     go_wp2
     go_ret
     (first | exact⟨rfl,rfl⟩ | (refine⟨?_,rfl⟩;rw[hst];done) | (refine⟨?_,rfl⟩;rw[hst];rfl))
   ·have n1:(b.length:Int)≤(k:Int):=by omega
    have hst:r=1:=by
     rw[hrk,List.drop_eq_nil_of_le h2,List.drop_eq_getElem_cons h1];rfl
    clear ha hb hcmp hrk;generalize a[k]=x at fa
    go_wp2
    go_ret
    (first | exact⟨rfl,rfl⟩ | (refine⟨?_,rfl⟩;rw[hst];done) | (refine⟨?_,rfl⟩;rw[hst];rfl))
  ·have hkl:k=a.length:=by omega
   subst hkl;rw[List.drop_length]at hrk
   rcases Nat.lt_or_ge a.length b.length with h2 | h2
   ·have hst:r = -1:=by
     rw[hrk,List.drop_eq_getElem_cons h2];rfl
    have n1:(a.length:Int)<(b.length:Int):=by omega
    clear hrk
    go_wp2
    go_ret
    (first | exact⟨rfl,rfl⟩ | (refine⟨?_,rfl⟩;rw[hst];done) | (refine⟨?_,rfl⟩;rw[hst];rfl))
   ·have hst:r=0:=by
     rw[hrk,List.drop_eq_nil_of_le h2];rfl
    have n1:¬ (a.length:Int)<(b.length:Int):=by omega
    clear hrk
    go_wp2
    go_ret
    (first | exact⟨rfl,rfl⟩ | (refine⟨?_,rfl⟩;rw[hst];done) | (refine⟨?_,rfl⟩;rw[hst];rfl))
set_option maxHeartbeats 8000000 in
theorem Try.cmp110 (ra rb:Int) (a b:List Int) (va vb:Value) (M:Mem) (W:World) (hC:Cons M W) (hva:R M (l3 none a) va) (hvb:R M (l3 none b) vb) (hla:a.length≤1000000) :
  Calls Try.prog 110 #[.agg #[.int .i64 ra,va],.agg #[.int .i64 rb,vb]] W fun e w'=>e=.returned (.int .i64 (orI2 (cmpI ra rb) (cmpL a b)))∧∃ q os,w'=grow (W.drewN q) os:=by
 have mixed:=mixedP;have t3:=Try.underlying3;have a3:=Try.isAgg3;have z3:=Try.sizeOf3;have v3:=Try.zeroValue3;have u3:=run_underlying Try.underlying3;have t4:=Try.underlying4;have a4:=Try.isAgg4;have z4:=Try.sizeOf4;have v4:=Try.zeroValue4;have u4:=run_underlying Try.underlying4;have t39:=Try.underlying39;have a39:=Try.isAgg39;have z39:=Try.sizeOf39;have v39:=Try.zeroValue39;have u39:=run_underlying Try.underlying39;have t41:=Try.underlying41;have a41:=Try.isAgg41;have z41:=Try.sizeOf41;have v41:=Try.zeroValue41;have u41:=run_underlying Try.underlying41;obtain⟨pa,ca,eva⟩:=ZR hva;obtain⟨pb,cb,evb⟩:=ZR hvb;obtain⟨c0,hc0⟩:∃ c,c=cmpI ra rb:=⟨_,rfl⟩;obtain⟨c1,hc1⟩:∃ c,c=cmpL a b:=⟨_,rfl⟩
 have k0:∀ w,Calls Try.prog 112 #[.int .i64 ra,.int .i64 rb] w fun e w'=>e=.returned (.int .i64 c0)∧w'=w:=fun w=>by rw[hc0];exact Try.cmp112 ra rb w
 have k1:∀ w,Cons M w→Calls Try.prog 113 #[va,vb] w fun e w'=>e=.returned (.int .i64 c1)∧w'=w:=fun w hw=>by rw[hc1];exact Try.cmp113 a b va vb M w hw hva hvb hla
 rw[← hc0,← hc1];clear hc0 hc1;obtain⟨r,hr⟩:∃ r,r=orI2 c0 c1:=⟨_,rfl⟩;rw[← hr];subst eva evb;generalize hna:(List.map (AV.int .i64) a).length=na at *;generalize hnb:(List.map (AV.int .i64) b).length=nb at *;clear hna hnb
 go_enter Try.func110,Try.ntmps110
 go_wp2_with fail
 obtain⟨W2,hW2⟩:∃ W2,W2=(W.alloc (.cells #[.int .i64 ra,.slice pa na ca] 41)).alloc (.cells #[.int .i64 rb,.slice pb nb cb] 41):=⟨_,rfl⟩
 have hea:W2.heap[W.heap.size]? = some (.cells #[.int .i64 ra,.slice pa na ca] 41 (0,0)):=by
  rw[hW2,heap_alloc_old _ _ (by simp)];exact heap_alloc_new _ _
 have heb:W2.heap[W.heap.size+1]? = some (.cells #[.int .i64 rb,.slice pb nb cb] 41 (0,0)):=by
  have:=heap_alloc_new (W.alloc (.cells #[.int .i64 ra,.slice pa na ca] 41)) (.cells #[.int .i64 rb,.slice pb nb cb] 41);rw[hW2]
  simpa using this
 have hg:∃ os,W2=grow W os:=⟨_,by rw[hW2,alloc_eq_grow,alloc_eq_grow,grow_grow]⟩
 have hCW:Cons M W2.drew:=by rw[hW2];exact (hC.alloc _).alloc _
 rw[← hW2];clear hW2
 have K0:W2.cell? ⟨W.heap.size,0,none⟩=some (.int .i64 ra)∧W2.cell? ⟨W.heap.size,1,none⟩=some (.slice pa na ca)∧W2.cell? ⟨W.heap.size+1,0,none⟩=some (.int .i64 rb)∧W2.cell? ⟨W.heap.size+1,1,none⟩=some (.slice pb nb cb):=by
  refine⟨?_,?_,?_,?_⟩ <;> simp[World.cell?,hea,heb]
 refine wp_region_held_drew (S:=(fun w'=>w'.cell? ⟨W.heap.size,0,none⟩=some (.int .i64 ra)∧w'.cell? ⟨W.heap.size,1,none⟩=some (.slice pa na ca)∧w'.cell? ⟨W.heap.size+1,0,none⟩=some (.int .i64 rb)∧w'.cell? ⟨W.heap.size+1,1,none⟩=some (.slice pb nb cb))) (by kernel_rfl) K0 (fun hHeld=>?_);refine wpAnyH_take (i:=0) (v:=.pointer (some ⟨W.heap.size,0,none⟩)) rfl (by kernel_rfl) (by kernel_rfl) (by kernel_rfl) (fun _ _ _ h=>h) (Or.inl ⟨by kernel_rfl,fun w' hw'=>?_⟩) hHeld ?_
 ·obtain⟨q0,q1,q2,q3⟩:=hw';go_simp
 simp only[Act.put,List.getElem_toArray,List.getElem_cons_succ,List.getElem_cons_zero,List.setIfInBounds_toArray,List.set_cons_zero,List.set_cons_succ];refine wpAnyH_take (i:=1) (v:=.int .i64 ra) rfl (by kernel_rfl) (by kernel_rfl) (by kernel_rfl) (fun _ _ _ h=>h) (Or.inl ⟨by kernel_rfl,fun w' hw'=>?_⟩) hHeld ?_
 ·obtain⟨q0,q1,q2,q3⟩:=hw';go_simp
 simp only[Act.put,List.getElem_toArray,List.getElem_cons_succ,List.getElem_cons_zero,List.setIfInBounds_toArray,List.set_cons_zero,List.set_cons_succ];refine wpAnyH_take (i:=2) (v:=.pointer (some ⟨W.heap.size+1,0,none⟩)) rfl (by kernel_rfl) (by kernel_rfl) (by kernel_rfl) (fun _ _ _ h=>h) (Or.inl ⟨by kernel_rfl,fun w' hw'=>?_⟩) hHeld ?_
 ·obtain⟨q0,q1,q2,q3⟩:=hw';go_simp
 simp only[Act.put,List.getElem_toArray,List.getElem_cons_succ,List.getElem_cons_zero,List.setIfInBounds_toArray,List.set_cons_zero,List.set_cons_succ];refine wpAnyH_take (i:=3) (v:=.int .i64 rb) rfl (by kernel_rfl) (by kernel_rfl) (by kernel_rfl) (fun _ _ _ h=>h) (Or.inl ⟨by kernel_rfl,fun w' hw'=>?_⟩) hHeld ?_
 ·obtain⟨q0,q1,q2,q3⟩:=hw';go_simp
 simp only[Act.put,List.getElem_toArray,List.getElem_cons_succ,List.getElem_cons_zero,List.setIfInBounds_toArray,List.set_cons_zero,List.set_cons_succ];refine wpAnyH_take (i:=5) (v:=.pointer (some ⟨W.heap.size,1,none⟩)) rfl (by kernel_rfl) (by kernel_rfl) (by kernel_rfl) (fun _ _ _ h=>h) (Or.inl ⟨by kernel_rfl,fun w' hw'=>?_⟩) hHeld ?_
 ·obtain⟨q0,q1,q2,q3⟩:=hw';go_simp
 simp only[Act.put,List.getElem_toArray,List.getElem_cons_succ,List.getElem_cons_zero,List.setIfInBounds_toArray,List.set_cons_zero,List.set_cons_succ];refine wpAnyH_take (i:=6) (v:=.slice pa na ca) rfl (by kernel_rfl) (by kernel_rfl) (by kernel_rfl) (fun _ _ _ h=>h) (Or.inl ⟨by kernel_rfl,fun w' hw'=>?_⟩) hHeld ?_
 ·obtain⟨q0,q1,q2,q3⟩:=hw';go_simp
 simp only[Act.put,List.getElem_toArray,List.getElem_cons_succ,List.getElem_cons_zero,List.setIfInBounds_toArray,List.set_cons_zero,List.set_cons_succ];refine wpAnyH_take (i:=7) (v:=.pointer (some ⟨W.heap.size+1,1,none⟩)) rfl (by kernel_rfl) (by kernel_rfl) (by kernel_rfl) (fun _ _ _ h=>h) (Or.inl ⟨by kernel_rfl,fun w' hw'=>?_⟩) hHeld ?_
 ·obtain⟨q0,q1,q2,q3⟩:=hw';go_simp
 simp only[Act.put,List.getElem_toArray,List.getElem_cons_succ,List.getElem_cons_zero,List.setIfInBounds_toArray,List.set_cons_zero,List.set_cons_succ];refine wpAnyH_take (i:=8) (v:=.slice pb nb cb) rfl (by kernel_rfl) (by kernel_rfl) (by kernel_rfl) (fun _ _ _ h=>h) (Or.inl ⟨by kernel_rfl,fun w' hw'=>?_⟩) hHeld ?_
 ·obtain⟨q0,q1,q2,q3⟩:=hw';go_simp
 simp only[Act.put,List.getElem_toArray,List.getElem_cons_succ,List.getElem_cons_zero,List.setIfInBounds_toArray,List.set_cons_zero,List.set_cons_succ];refine wpAnyH_ready (rs:=[4]) (by kernel_rfl) (by simp) (AllReadyH.cons rfl (fun K hK=>?_) AllReadyH.nil);rw[if_pos (by kernel_rfl)]
 go_simp
 go_at_call 112
 refine (k0 _).mono ?_
 rintro e w5 ⟨rfl,rfl⟩
 go_wp2_with fail
 refine hK.out _ _ hHeld (fun hHeld=>?_);clear hK K;refine wpAnyH_ready (rs:=[9]) (by kernel_rfl) (by simp) (AllReadyH.cons rfl (fun K hK=>?_) AllReadyH.nil);rw[if_pos (by kernel_rfl)]
 go_simp
 go_at_call 113
 refine (k1 _ hCW).mono ?_
 rintro e w5 ⟨rfl,rfl⟩
 go_wp2_with fail
 refine hK.out _ _ hHeld (fun hHeld=>?_);clear hK K;refine wpAnyH_ready (rs:=[10]) (by kernel_rfl) (by simp) (AllReadyH.cons rfl (fun K hK=>?_) AllReadyH.nil);rw[if_pos (by kernel_rfl)]
 go_simp
 obtain⟨W3,hW3⟩:∃ W3,W3=(W2.alloc (Obj.cells #[Value.int IntKind.i64 c0,Value.int IntKind.i64 c1] 3)).drew:=⟨_,rfl⟩
 have g0:W3.heap[W.heap.size]? = some (.cells #[.int .i64 ra,.slice pa na ca] 41 (0,0)):=by
  rw[hW3];exact (heap_alloc_old _ _ (lt_of_block hea)).trans hea
 have g1:W3.heap[W.heap.size+1]? = some (.cells #[.int .i64 rb,.slice pb nb cb] 41 (0,0)):=by
  rw[hW3];exact (heap_alloc_old _ _ (lt_of_block heb)).trans heb
 have g2:W3.heap[W2.heap.size]? = some (.cells #[.int .i64 c0,.int .i64 c1] 3 (0,0)):=by
  rw[hW3];exact heap_alloc_new _ _
 have hg3:∃ q os,W3=grow (W.drewN q) os:=by
  obtain⟨os,rfl⟩:=hg;refine⟨1,os++#[Obj.cells #[Value.int IntKind.i64 c0,Value.int IntKind.i64 c1] 3],?_⟩;rw[hW3,alloc_eq_grow,grow_grow,drew_grow];rfl
 have f0:W3.cell? ⟨W2.heap.size,0,none⟩=some (.int .i64 c0):=by simp[World.cell?,g2]
 have f1:W3.cell? ⟨W2.heap.size,1,none⟩=some (.int .i64 c1):=by simp[World.cell?,g2]
 have K3:W3.cell? ⟨W.heap.size,0,none⟩=some (.int .i64 ra)∧W3.cell? ⟨W.heap.size,1,none⟩=some (.slice pa na ca)∧W3.cell? ⟨W.heap.size+1,0,none⟩=some (.int .i64 rb)∧W3.cell? ⟨W.heap.size+1,1,none⟩=some (.slice pb nb cb):=by
  refine⟨?_,?_,?_,?_⟩ <;> simp[World.cell?,g0,g1]
 rw[← hW3];clear hW3 hea heb;refine hK.out _ _ K3 (fun _=>?_);clear hK K;have kk:=Try.or111 c0 c1 W2.heap.size 2 W3 f0 f1;rw[← hr]at kk;refine wpAnyH_ready (rs:=[11]) (by kernel_rfl) (by simp) (AllReadyH.cons rfl (fun K hK=>?_) AllReadyH.nil);rw[if_pos (by kernel_rfl)]
 go_simp
 go_at_call 111
 refine kk.mono ?_
 rintro e w5 ⟨rfl,rfl⟩
 go_wp2_with fail
 refine hK.out _ _ K3 (fun _=>?_);clear hK K;refine wpAnyH_take (i:=12) (v:=.int .i64 r) rfl (by kernel_rfl) (by kernel_rfl) (by kernel_rfl) (fun _ _ _ h=>h) (Or.inl ⟨by kernel_rfl,fun w' hw'=>?_⟩) K3 ?_
 ·go_simp
 simp only[Act.put,List.getElem_toArray,List.getElem_cons_succ,List.getElem_cons_zero,List.setIfInBounds_toArray,List.set_cons_zero,List.set_cons_succ];refine wpAnyH_done (by kernel_rfl) ?_ _
 go_wp2
 go_ret
 exact⟨rfl,hg3⟩
end Go.Proofs
