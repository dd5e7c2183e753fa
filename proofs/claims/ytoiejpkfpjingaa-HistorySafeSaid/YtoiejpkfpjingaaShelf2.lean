/- s -/
import Derived.Shelf.Sort.Plain
import Derived.Shelf.Slices.In.SortNone
import Derived.Test.YtoiejpkfpjingaaProg
namespace Go.Proofs
open Go.Shelf
def Try.lays189_ren : Go.Shelf.Ren := ⟨fun | 189 => 92 | 125 => 110 | 257 => 113 | 128 => 124 | 129 => 125 | 294 => 126 | 295 => 127 | 296 => 128 | 297 => 129 | 298 => 130 | 299 => 131 | 216 => 132 | 300 => 133 | 301 => 134 | 328 => 140 | 329 => 136 | 330 => 137 | 331 => 141 | 332 => 142 | 215 => 103 | 343 => 144 | n => n, fun | 28 => 24 | 3 => 3 | 46 => 41 | 0 => 0 | 51 => 152 | 53 => 154 | 4 => 4 | 183 => 145 | 182 => 144 | 131 => 149 | 5 => 5 | 9 => 9 | 218 => 160 | 222 => 164 | 228 => 168 | 229 => 169 | n => n, fun | n => n⟩
theorem Try.lays189 : Go.Proofs.Lays.n189 Try.prog Try.lays189_ren := {
 mixed := by kernel_rfl
 f125 := Try.func110.trans (congrArg some (by kernel_rfl))
 f128 := Try.func124.trans (congrArg some (by kernel_rfl))
 f129 := Try.func125.trans (congrArg some (by kernel_rfl))
 f189 := Try.func92.trans (congrArg some (by kernel_rfl))
 f215 := Try.func103.trans (congrArg some (by kernel_rfl))
 f216 := Try.func132.trans (congrArg some (by kernel_rfl))
 f257 := Try.func113.trans (congrArg some (by kernel_rfl))
 f294 := Try.func126.trans (congrArg some (by kernel_rfl))
 f295 := Try.func127.trans (congrArg some (by kernel_rfl))
 f296 := Try.func128.trans (congrArg some (by kernel_rfl))
 f297 := Try.func129.trans (congrArg some (by kernel_rfl))
 f298 := Try.func130.trans (congrArg some (by kernel_rfl))
 f299 := Try.func131.trans (congrArg some (by kernel_rfl))
 f300 := Try.func133.trans (congrArg some (by kernel_rfl))
 f301 := Try.func134.trans (congrArg some (by kernel_rfl))
 f328 := Try.func140.trans (congrArg some (by kernel_rfl))
 f329 := Try.func136.trans (congrArg some (by kernel_rfl))
 f330 := Try.func137.trans (congrArg some (by kernel_rfl))
 f331 := Try.func141.trans (congrArg some (by kernel_rfl))
 f332 := Try.func142.trans (congrArg some (by kernel_rfl))
 f343 := Try.func144.trans (congrArg some (by kernel_rfl))
 t0 := Try.underlying0
 a0 := Try.isAgg0
 z0 := Try.sizeOf0
 v0 := Try.zeroValue0
 t3 := Try.underlying3
 a3 := Try.isAgg3
 z3 := Try.sizeOf3
 v3 := Try.zeroValue3
 t4 := Try.underlying4
 a4 := Try.isAgg4
 z4 := Try.sizeOf4
 v4 := Try.zeroValue4
 t5 := Try.underlying5
 a5 := Try.isAgg5
 z5 := Try.sizeOf5
 v5 := Try.zeroValue5
 t9 := Try.underlying9
 a9 := Try.isAgg9
 z9 := Try.sizeOf9
 v9 := Try.zeroValue9
 t28 := Try.underlying24
 a28 := Try.isAgg24
 z28 := Try.sizeOf24
 v28 := Try.zeroValue24
 t46 := Try.underlying41
 a46 := Try.isAgg41
 z46 := Try.sizeOf41
 v46 := Try.zeroValue41
 t51 := Try.underlying152
 a51 := Try.isAgg152
 z51 := Try.sizeOf152
 v51 := Try.zeroValue152
 t53 := Try.underlying154
 a53 := Try.isAgg154
 z53 := Try.sizeOf154
 v53 := Try.zeroValue154
 t131 := Try.underlying149
 a131 := Try.isAgg149
 z131 := Try.sizeOf149
 v131 := Try.zeroValue149
 t182 := Try.underlying144
 a182 := Try.isAgg144
 z182 := Try.sizeOf144
 v182 := Try.zeroValue144
 t183 := Try.underlying145
 a183 := Try.isAgg145
 z183 := Try.sizeOf145
 v183 := Try.zeroValue145
 t218 := Try.underlying160
 a218 := Try.isAgg160
 z218 := Try.sizeOf160
 v218 := Try.zeroValue160
 t222 := Try.underlying164
 a222 := Try.isAgg164
 z222 := Try.sizeOf164
 v222 := Try.zeroValue164
 t228 := Try.underlying168
 a228 := Try.isAgg168
 z228 := Try.sizeOf168
 v228 := Try.zeroValue168
 t229 := Try.underlying169
 a229 := Try.isAgg169
 z229 := Try.sizeOf169
 v229 := Try.zeroValue169 }
open Go.Sort Go.RowKit in
theorem Try.slices_Sort_int (blk off cap : Nat) (zs : List Int) (w : World) (hH : Holds (Value.int .i64) w blk off zs.toArray) (hblk : blk < w.heap.size) (hsz : zs.length < 4611686018427387904) :
  Calls Try.prog 92 #[.slice (some ⟨blk, off, none⟩) zs.length cap] w fun e w' =>
   e = .returned (.tuple #[]) ∧ ∃ n os, w' = grow (putRow (Value.int .i64) (Sort.ahead w n) blk off (zs.mergeSort fun x y => decide (x ≤ y)).toArray) os := Any.slices_Sort_int Try.lays189 blk off cap zs w hH hblk hsz
open Go.RowKit Go.Sort in
theorem Try.slices_Sort_int_none (p : Option Addr) (cap : Nat) (w : World) :
  Calls Try.prog 92 #[.slice p 0 cap] w fun e w' => e = .returned (.tuple #[]) ∧ w' = w := Any.slices_Sort_int_none Try.lays189 p cap w
end Go.Proofs
