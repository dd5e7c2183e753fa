/- s -/
import Derived.Shelf.SlGeneric
import Derived.Ground.SlgnProg
import Derived.Ground.SlsfProg
import Derived.Shelf.SlicesE.Compact
import Derived.Shelf.SlSortCmp.NoneTotal
import Derived.Test.YtmfdgonjnckdhaaDoorProg
namespace Go.Proofs
open Go.Shelf
def Tryd.lComp_ren : Go.Shelf.Ren := ⟨fun | 43 => 47 | n => n, fun | 22 => 29 | 23 => 5 | 3 => 3 | 4 => 4 | 0 => 0 | n => n, fun | n => n⟩
theorem Tryd.lComp : Go.Proofs.SlLaysE.n43 Tryd.prog Tryd.lComp_ren := {
 mixed := by kernel_rfl
 f43 := ⟨Tryd.f47.name, by decide, Tryd.func47.trans (congrArg some (by kernel_rfl))⟩
 t0 := Tryd.underlying0
 a0 := Tryd.isAgg0
 z0 := Tryd.sizeOf0
 v0 := Tryd.zeroValue0
 t3 := Tryd.underlying3
 a3 := Tryd.isAgg3
 z3 := Tryd.sizeOf3
 v3 := Tryd.zeroValue3
 t4 := Tryd.underlying4
 a4 := Tryd.isAgg4
 z4 := Tryd.sizeOf4
 v4 := Tryd.zeroValue4
 t22 := Tryd.underlying29
 a22 := Tryd.isAgg29
 z22 := Tryd.sizeOf29
 v22 := Tryd.zeroValue29
 a23 := Tryd.isAgg5
 z23 := Tryd.sizeOf5 }
def Tryd.lSortF_ren : Go.Shelf.Ren := ⟨fun | 6 => 37 | 15 => 34 | 14 => 62 | 28 => 57 | 29 => 58 | 20 => 66 | 21 => 77 | 22 => 78 | 23 => 79 | 24 => 80 | 25 => 81 | 26 => 82 | 27 => 83 | 46 => 93 | 47 => 70 | 48 => 71 | 49 => 94 | 50 => 95 | 57 => 100 | n => n, fun | 22 => 33 | 24 => 3 | 25 => 37 | 3 => 3 | 39 => 52 | 0 => 0 | 53 => 74 | 55 => 76 | 4 => 4 | 46 => 66 | 45 => 65 | 50 => 71 | 5 => 5 | 9 => 9 | 66 => 83 | 70 => 87 | 76 => 102 | 77 => 103 | n => n, fun | n => n⟩
theorem Tryd.lSortF : Go.Proofs.SlLaysF.n6 Tryd.prog Tryd.lSortF_ren := {
 mixed := by kernel_rfl
 f6 := ⟨Tryd.f37.name, by decide, Tryd.func37.trans (congrArg some (by kernel_rfl))⟩
 f14 := ⟨Tryd.f62.name, by decide, Tryd.func62.trans (congrArg some (by kernel_rfl))⟩
 f15 := Tryd.func34.trans (congrArg some (by kernel_rfl))
 f20 := ⟨Tryd.f66.name, by decide, Tryd.func66.trans (congrArg some (by kernel_rfl))⟩
 f21 := ⟨Tryd.f77.name, by decide, Tryd.func77.trans (congrArg some (by kernel_rfl))⟩
 f22 := ⟨Tryd.f78.name, by decide, Tryd.func78.trans (congrArg some (by kernel_rfl))⟩
 f23 := ⟨Tryd.f79.name, by decide, Tryd.func79.trans (congrArg some (by kernel_rfl))⟩
 f24 := ⟨Tryd.f80.name, by decide, Tryd.func80.trans (congrArg some (by kernel_rfl))⟩
 f25 := ⟨Tryd.f81.name, by decide, Tryd.func81.trans (congrArg some (by kernel_rfl))⟩
 f26 := ⟨Tryd.f82.name, by decide, Tryd.func82.trans (congrArg some (by kernel_rfl))⟩
 f27 := ⟨Tryd.f83.name, by decide, Tryd.func83.trans (congrArg some (by kernel_rfl))⟩
 f28 := Tryd.func57.trans (congrArg some (by kernel_rfl))
 f29 := Tryd.func58.trans (congrArg some (by kernel_rfl))
 f46 := ⟨Tryd.f93.name, by decide, Tryd.func93.trans (congrArg some (by kernel_rfl))⟩
 f47 := Tryd.func70.trans (congrArg some (by kernel_rfl))
 f48 := Tryd.func71.trans (congrArg some (by kernel_rfl))
 f49 := ⟨Tryd.f94.name, by decide, Tryd.func94.trans (congrArg some (by kernel_rfl))⟩
 f50 := ⟨Tryd.f95.name, by decide, Tryd.func95.trans (congrArg some (by kernel_rfl))⟩
 f57 := ⟨Tryd.f100.name, by decide, Tryd.func100.trans (congrArg some (by kernel_rfl))⟩
 t0 := Tryd.underlying0
 a0 := Tryd.isAgg0
 z0 := Tryd.sizeOf0
 v0 := Tryd.zeroValue0
 t3 := Tryd.underlying3
 a3 := Tryd.isAgg3
 z3 := Tryd.sizeOf3
 v3 := Tryd.zeroValue3
 t4 := Tryd.underlying4
 a4 := Tryd.isAgg4
 z4 := Tryd.sizeOf4
 v4 := Tryd.zeroValue4
 t5 := Tryd.underlying5
 a5 := Tryd.isAgg5
 z5 := Tryd.sizeOf5
 v5 := Tryd.zeroValue5
 t9 := Tryd.underlying9
 a9 := Tryd.isAgg9
 z9 := Tryd.sizeOf9
 v9 := Tryd.zeroValue9
 t22 := Tryd.underlying33
 a22 := Tryd.isAgg33
 z22 := Tryd.sizeOf33
 v22 := Tryd.zeroValue33
 a24 := Tryd.isAgg3
 z24 := Tryd.sizeOf3
 t25 := Tryd.underlying37
 a25 := Tryd.isAgg37
 z25 := Tryd.sizeOf37
 v25 := Tryd.zeroValue37
 t39 := Tryd.underlying52
 a39 := Tryd.isAgg52
 z39 := Tryd.sizeOf52
 v39 := Tryd.zeroValue52
 t45 := Tryd.underlying65
 a45 := Tryd.isAgg65
 z45 := Tryd.sizeOf65
 v45 := Tryd.zeroValue65
 t46 := Tryd.underlying66
 a46 := Tryd.isAgg66
 z46 := Tryd.sizeOf66
 v46 := Tryd.zeroValue66
 t50 := Tryd.underlying71
 a50 := Tryd.isAgg71
 z50 := Tryd.sizeOf71
 v50 := Tryd.zeroValue71
 t53 := Tryd.underlying74
 a53 := Tryd.isAgg74
 z53 := Tryd.sizeOf74
 v53 := Tryd.zeroValue74
 t55 := Tryd.underlying76
 a55 := Tryd.isAgg76
 z55 := Tryd.sizeOf76
 v55 := Tryd.zeroValue76
 t66 := Tryd.underlying83
 a66 := Tryd.isAgg83
 z66 := Tryd.sizeOf83
 v66 := Tryd.zeroValue83
 t70 := Tryd.underlying87
 a70 := Tryd.isAgg87
 z70 := Tryd.sizeOf87
 v70 := Tryd.zeroValue87
 t76 := Tryd.underlying102
 a76 := Tryd.isAgg102
 z76 := Tryd.sizeOf102
 v76 := Tryd.zeroValue102
 t77 := Tryd.underlying103
 a77 := Tryd.isAgg103
 z77 := Tryd.sizeOf103
 v77 := Tryd.zeroValue103 }
end Go.Proofs
