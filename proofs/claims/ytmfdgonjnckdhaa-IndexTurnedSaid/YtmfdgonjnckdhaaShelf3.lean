/- s -/
import Derived.Shelf.SlGeneric
import Derived.Ground.SlgnProg
import Derived.Ground.SlsfProg
import Derived.Shelf.SlicesE.Compact
import Derived.Shelf.SlSortCmp.NoneTotal
import Derived.Test.YtmfdgonjnckdhaaProg
namespace Go.Proofs
open Go.Shelf
def Try.lComp_ren : Go.Shelf.Ren := ⟨fun | 43 => 80 | n => n, fun | 22 => 55 | 23 => 5 | 3 => 3 | 4 => 4 | 0 => 0 | n => n, fun | n => n⟩
theorem Try.lComp : Go.Proofs.SlLaysE.n43 Try.prog Try.lComp_ren := {
 mixed := by kernel_rfl
 f43 := ⟨Try.f80.name, by decide, Try.func80.trans (congrArg some (by kernel_rfl))⟩
 t0 := Try.underlying0
 a0 := Try.isAgg0
 z0 := Try.sizeOf0
 v0 := Try.zeroValue0
 t3 := Try.underlying3
 a3 := Try.isAgg3
 z3 := Try.sizeOf3
 v3 := Try.zeroValue3
 t4 := Try.underlying4
 a4 := Try.isAgg4
 z4 := Try.sizeOf4
 v4 := Try.zeroValue4
 t22 := Try.underlying55
 a22 := Try.isAgg55
 z22 := Try.sizeOf55
 v22 := Try.zeroValue55
 a23 := Try.isAgg5
 z23 := Try.sizeOf5 }
def Try.lSortF_ren : Go.Shelf.Ren := ⟨fun | 6 => 59 | 15 => 47 | 14 => 83 | 28 => 75 | 29 => 76 | 20 => 96 | 21 => 97 | 22 => 98 | 23 => 99 | 24 => 100 | 25 => 101 | 26 => 102 | 27 => 103 | 46 => 120 | 47 => 88 | 48 => 89 | 49 => 121 | 50 => 122 | 57 => 129 | n => n, fun | 22 => 23 | 24 => 3 | 25 => 69 | 3 => 3 | 39 => 58 | 0 => 0 | 53 => 82 | 55 => 84 | 4 => 4 | 46 => 74 | 45 => 73 | 50 => 79 | 5 => 5 | 9 => 9 | 66 => 99 | 70 => 103 | 76 => 117 | 77 => 59 | n => n, fun | n => n⟩
theorem Try.lSortF : Go.Proofs.SlLaysF.n6 Try.prog Try.lSortF_ren := {
 mixed := by kernel_rfl
 f6 := ⟨Try.f59.name, by decide, Try.func59.trans (congrArg some (by kernel_rfl))⟩
 f14 := ⟨Try.f83.name, by decide, Try.func83.trans (congrArg some (by kernel_rfl))⟩
 f15 := Try.func47.trans (congrArg some (by kernel_rfl))
 f20 := ⟨Try.f96.name, by decide, Try.func96.trans (congrArg some (by kernel_rfl))⟩
 f21 := ⟨Try.f97.name, by decide, Try.func97.trans (congrArg some (by kernel_rfl))⟩
 f22 := ⟨Try.f98.name, by decide, Try.func98.trans (congrArg some (by kernel_rfl))⟩
 f23 := ⟨Try.f99.name, by decide, Try.func99.trans (congrArg some (by kernel_rfl))⟩
 f24 := ⟨Try.f100.name, by decide, Try.func100.trans (congrArg some (by kernel_rfl))⟩
 f25 := ⟨Try.f101.name, by decide, Try.func101.trans (congrArg some (by kernel_rfl))⟩
 f26 := ⟨Try.f102.name, by decide, Try.func102.trans (congrArg some (by kernel_rfl))⟩
 f27 := ⟨Try.f103.name, by decide, Try.func103.trans (congrArg some (by kernel_rfl))⟩
 f28 := Try.func75.trans (congrArg some (by kernel_rfl))
 f29 := Try.func76.trans (congrArg some (by kernel_rfl))
 f46 := ⟨Try.f120.name, by decide, Try.func120.trans (congrArg some (by kernel_rfl))⟩
 f47 := Try.func88.trans (congrArg some (by kernel_rfl))
 f48 := Try.func89.trans (congrArg some (by kernel_rfl))
 f49 := ⟨Try.f121.name, by decide, Try.func121.trans (congrArg some (by kernel_rfl))⟩
 f50 := ⟨Try.f122.name, by decide, Try.func122.trans (congrArg some (by kernel_rfl))⟩
 f57 := ⟨Try.f129.name, by decide, Try.func129.trans (congrArg some (by kernel_rfl))⟩
 t0 := Try.underlying0
 a0 := Try.isAgg0
 z0 := Try.sizeOf0
 v0 := Try.zeroValue0
 t3 := Try.underlying3
 a3 := Try.isAgg3
 z3 := Try.sizeOf3
 v3 := Try.zeroValue3
 t4 := Try.underlying4
 a4 := Try.isAgg4
 z4 := Try.sizeOf4
 v4 := Try.zeroValue4
 t5 := Try.underlying5
 a5 := Try.isAgg5
 z5 := Try.sizeOf5
 v5 := Try.zeroValue5
 t9 := Try.underlying9
 a9 := Try.isAgg9
 z9 := Try.sizeOf9
 v9 := Try.zeroValue9
 t22 := Try.underlying23
 a22 := Try.isAgg23
 z22 := Try.sizeOf23
 v22 := Try.zeroValue23
 a24 := Try.isAgg3
 z24 := Try.sizeOf3
 t25 := Try.underlying69
 a25 := Try.isAgg69
 z25 := Try.sizeOf69
 v25 := Try.zeroValue69
 t39 := Try.underlying58
 a39 := Try.isAgg58
 z39 := Try.sizeOf58
 v39 := Try.zeroValue58
 t45 := Try.underlying73
 a45 := Try.isAgg73
 z45 := Try.sizeOf73
 v45 := Try.zeroValue73
 t46 := Try.underlying74
 a46 := Try.isAgg74
 z46 := Try.sizeOf74
 v46 := Try.zeroValue74
 t50 := Try.underlying79
 a50 := Try.isAgg79
 z50 := Try.sizeOf79
 v50 := Try.zeroValue79
 t53 := Try.underlying82
 a53 := Try.isAgg82
 z53 := Try.sizeOf82
 v53 := Try.zeroValue82
 t55 := Try.underlying84
 a55 := Try.isAgg84
 z55 := Try.sizeOf84
 v55 := Try.zeroValue84
 t66 := Try.underlying99
 a66 := Try.isAgg99
 z66 := Try.sizeOf99
 v66 := Try.zeroValue99
 t70 := Try.underlying103
 a70 := Try.isAgg103
 z70 := Try.sizeOf103
 v70 := Try.zeroValue103
 t76 := Try.underlying117
 a76 := Try.isAgg117
 z76 := Try.sizeOf117
 v76 := Try.zeroValue117
 t77 := Try.underlying59
 a77 := Try.isAgg59
 z77 := Try.sizeOf59
 v77 := Try.zeroValue59 }
end Go.Proofs
