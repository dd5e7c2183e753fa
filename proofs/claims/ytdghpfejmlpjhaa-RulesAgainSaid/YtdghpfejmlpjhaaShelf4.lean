/- s -/
import Derived.Ground.SlsfProg
import Derived.Shelf.SlSortCmp.NoneTotal
import Derived.Test.YtdghpfejmlpjhaaProg
namespace Go.Proofs
open Go.Shelf
def Try.laysSlF06_f109_ren:Go.Shelf.Ren:=⟨fun | 6=>109 | 15=>126 | 14=>125 | 28=>139 | 29=>140 | 20=>131 | 21=>132 | 22=>133 | 23=>134 | 24=>135 | 25=>136 | 26=>137 | 27=>138 | 46=>141 | 47=>142 | 48=>143 | 49=>144 | 50=>145 | 57=>146 | n=>n,fun | 22=>23 | 24=>41 | 25=>176 | 3=>3 | 39=>49 | 0=>0 | 53=>204 | 55=>206 | 4=>4 | 46=>197 | 45=>196 | 50=>201 | 5=>5 | 9=>9 | 66=>207 | 70=>163 | 76=>212 | 77=>81 | n=>n,fun | n=>n⟩
theorem Try.laysSlF06_f109:Go.Proofs.SlLaysF0.n6 Try.prog Try.laysSlF06_f109_ren:={
 mixed:=by kernel_rfl
 f6:=⟨Try.f109.name,by decide,Try.func109.trans (congrArg some (by kernel_rfl))⟩
 f14:=⟨Try.f125.name,by decide,Try.func125.trans (congrArg some (by kernel_rfl))⟩
 f15:=Try.func126.trans (congrArg some (by kernel_rfl))
 f20:=⟨Try.f131.name,by decide,Try.func131.trans (congrArg some (by kernel_rfl))⟩
 f21:=⟨Try.f132.name,by decide,Try.func132.trans (congrArg some (by kernel_rfl))⟩
 f22:=⟨Try.f133.name,by decide,Try.func133.trans (congrArg some (by kernel_rfl))⟩
 f23:=⟨Try.f134.name,by decide,Try.func134.trans (congrArg some (by kernel_rfl))⟩
 f24:=⟨Try.f135.name,by decide,Try.func135.trans (congrArg some (by kernel_rfl))⟩
 f25:=⟨Try.f136.name,by decide,Try.func136.trans (congrArg some (by kernel_rfl))⟩
 f26:=⟨Try.f137.name,by decide,Try.func137.trans (congrArg some (by kernel_rfl))⟩
 f27:=⟨Try.f138.name,by decide,Try.func138.trans (congrArg some (by kernel_rfl))⟩
 f28:=Try.func139.trans (congrArg some (by kernel_rfl))
 f29:=Try.func140.trans (congrArg some (by kernel_rfl))
 f46:=⟨Try.f141.name,by decide,Try.func141.trans (congrArg some (by kernel_rfl))⟩
 f47:=Try.func142.trans (congrArg some (by kernel_rfl))
 f48:=Try.func143.trans (congrArg some (by kernel_rfl))
 f49:=⟨Try.f144.name,by decide,Try.func144.trans (congrArg some (by kernel_rfl))⟩
 f50:=⟨Try.f145.name,by decide,Try.func145.trans (congrArg some (by kernel_rfl))⟩
 f57:=⟨Try.f146.name,by decide,Try.func146.trans (congrArg some (by kernel_rfl))⟩
 t0:=Try.underlying0
 a0:=Try.isAgg0
 z0:=Try.sizeOf0
 v0:=Try.zeroValue0
 t3:=Try.underlying3
 a3:=Try.isAgg3
 z3:=Try.sizeOf3
 v3:=Try.zeroValue3
 t4:=Try.underlying4
 a4:=Try.isAgg4
 z4:=Try.sizeOf4
 v4:=Try.zeroValue4
 t5:=Try.underlying5
 a5:=Try.isAgg5
 z5:=Try.sizeOf5
 v5:=Try.zeroValue5
 t9:=Try.underlying9
 a9:=Try.isAgg9
 z9:=Try.sizeOf9
 v9:=Try.zeroValue9
 t22:=Try.underlying23
 a22:=Try.isAgg23
 z22:=Try.sizeOf23
 v22:=Try.zeroValue23
 t25:=Try.underlying176
 a25:=Try.isAgg176
 z25:=Try.sizeOf176
 v25:=Try.zeroValue176
 t39:=Try.underlying49
 a39:=Try.isAgg49
 z39:=Try.sizeOf49
 v39:=Try.zeroValue49
 t45:=Try.underlying196
 a45:=Try.isAgg196
 z45:=Try.sizeOf196
 v45:=Try.zeroValue196
 t46:=Try.underlying197
 a46:=Try.isAgg197
 z46:=Try.sizeOf197
 v46:=Try.zeroValue197
 t50:=Try.underlying201
 a50:=Try.isAgg201
 z50:=Try.sizeOf201
 v50:=Try.zeroValue201
 t53:=Try.underlying204
 a53:=Try.isAgg204
 z53:=Try.sizeOf204
 v53:=Try.zeroValue204
 t55:=Try.underlying206
 a55:=Try.isAgg206
 z55:=Try.sizeOf206
 v55:=Try.zeroValue206
 t66:=Try.underlying207
 a66:=Try.isAgg207
 z66:=Try.sizeOf207
 v66:=Try.zeroValue207
 t70:=Try.underlying163
 a70:=Try.isAgg163
 z70:=Try.sizeOf163
 v70:=Try.zeroValue163
 t76:=Try.underlying212
 a76:=Try.isAgg212
 z76:=Try.sizeOf212
 v76:=Try.zeroValue212
 t77:=Try.underlying81
 a77:=Try.isAgg81
 z77:=Try.sizeOf81
 v77:=Try.zeroValue81 }
open Go.RowKit Go.Lib Go.Sort in
theorem Try.slices_SortFunc_none {α:Type} [Inhabited α] (p:Option Addr) (cap:Nat) (fv:Value) (w:World) :
  Calls Try.prog 109 #[.slice p 0 cap,fv] w fun e w'=>e=.returned (.tuple #[])∧w'=w:=AnyF.slices_SortFunc_none Try.laysSlF06_f109 p cap fv w
open Go.RowKit Go.Lib Go.Sort in
theorem Try.slices_SortFunc_total {α:Type} [Inhabited α] (k:Nat) (aE:∀ w,(isAgg 41).run Try.prog w=.ok true w) (zE:∀ w,(Go.sizeOf 41).run Try.prog w=.ok k w) (enc:α→List Value) (hk:∀ x,(enc x).length=k) (h1:∀ x,∀ v∈enc x,v.oneCell'=true) (cf:α→α→Int) (hO:SWO (ltOf cf)) (g:Nat) (cb:Array Value) (blk off cap:Nat) (d:Array α) (w:World) (eg:∀ args w,(callFunc g args).run Try.prog w=.ok (.enter g args) w) (hcmp:CmpLays Try.prog g cb enc k cf blk off d.size w) (hH:HoldsK enc k w blk off d) (hblk:blk<w.heap.size) (hsz:d.size<4611686018427387904) (hT:∀ x y,(ltOf cf) x y=false→(ltOf cf) y x=false→x=y) :
  Calls Try.prog 109 #[.slice (some ⟨blk,off,none⟩) d.size cap,.func (.func g) #[] cb] w fun e w' =>
   e=.returned (.tuple #[])∧∃ n os,w'=sortWorldK enc k w blk off n (d.toList.mergeSort fun x y=>!(ltOf cf) y x).toArray os:=AnyQ.slices_SortFunc_total Try.laysSlF06_f109 k aE zE enc hk h1 cf hO g cb blk off cap d w eg hcmp hH hblk hsz hT
end Go.Proofs
