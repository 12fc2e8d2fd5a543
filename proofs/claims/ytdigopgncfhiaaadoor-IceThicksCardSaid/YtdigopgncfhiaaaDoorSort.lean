/- slices.SortFunc at pairs, cmp.Compare at int: their texts are those of the library's contracts. -/
import Derived.Test.YtdigopgncfhiaaaDoorU6
import Derived.Shelf.SlSortCmp.NoneTotal
import Derived.Shelf.SlicesG.Cmp
namespace Go.Proofs.YtdigopgncfhiaaaDoor
open Go.Shelf
set_option maxRecDepth 20000
def sortPr_ren : Ren where
  f := fun x => match x with | 6 => 112 | 15 => 128 | 14 => 127 | 28 => 139 | 29 => 140 | 20 => 131 | 21 => 132 | 22 => 133 | 23 => 134 | 24 => 135 | 25 => 136 | 26 => 137 | 27 => 138 | 46 => 141 | 47 => 142 | 48 => 143 | 49 => 144 | 50 => 145 | 57 => 146 | n => n
  t := fun x => match x with | 22 => 70 | 24 => 134 | 25 => 181 | 3 => 3 | 39 => 102 | 0 => 0 | 53 => 164 | 55 => 166 | 4 => 4 | 46 => 205 | 45 => 204 | 50 => 156 | 5 => 5 | 9 => 9 | 66 => 210 | 70 => 214 | 76 => 216 | 77 => 65 | n => n
  g := fun n => n
theorem sortPr : SlLaysF0.n6 Tryd.prog sortPr_ren where
  mixed := by kernel_rfl
  f6 := ⟨ "slices.SortFunc[[][2]int,[2]int]", by decide, Tryd.func112.trans (congrArg some (by kernel_rfl))⟩
  f14 := ⟨ "slices.pdqsortCmpFunc[[2]int]", by decide, Tryd.func127.trans (congrArg some (by kernel_rfl))⟩
  f15 := Tryd.func128.trans (congrArg some (by kernel_rfl))
  f20 := ⟨ "slices.insertionSortCmpFunc[[2]int]", by decide, Tryd.func131.trans (congrArg some (by kernel_rfl))⟩
  f21 := ⟨ "slices.heapSortCmpFunc[[2]int]", by decide, Tryd.func132.trans (congrArg some (by kernel_rfl))⟩
  f22 := ⟨ "slices.breakPatternsCmpFunc[[2]int]", by decide, Tryd.func133.trans (congrArg some (by kernel_rfl))⟩
  f23 := ⟨ "slices.choosePivotCmpFunc[[2]int]", by decide, Tryd.func134.trans (congrArg some (by kernel_rfl))⟩
  f24 := ⟨ "slices.reverseRangeCmpFunc[[2]int]", by decide, Tryd.func135.trans (congrArg some (by kernel_rfl))⟩
  f25 := ⟨ "slices.partialInsertionSortCmpFunc[[2]int]", by decide, Tryd.func136.trans (congrArg some (by kernel_rfl))⟩
  f26 := ⟨ "slices.partitionEqualCmpFunc[[2]int]", by decide, Tryd.func137.trans (congrArg some (by kernel_rfl))⟩
  f27 := ⟨ "slices.partitionCmpFunc[[2]int]", by decide, Tryd.func138.trans (congrArg some (by kernel_rfl))⟩
  f28 := Tryd.func139.trans (congrArg some (by kernel_rfl))
  f29 := Tryd.func140.trans (congrArg some (by kernel_rfl))
  f46 := ⟨ "slices.siftDownCmpFunc[[2]int]", by decide, Tryd.func141.trans (congrArg some (by kernel_rfl))⟩
  f47 := Tryd.func142.trans (congrArg some (by kernel_rfl))
  f48 := Tryd.func143.trans (congrArg some (by kernel_rfl))
  f49 := ⟨ "slices.medianAdjacentCmpFunc[[2]int]", by decide, Tryd.func144.trans (congrArg some (by kernel_rfl))⟩
  f50 := ⟨ "slices.medianCmpFunc[[2]int]", by decide, Tryd.func145.trans (congrArg some (by kernel_rfl))⟩
  f57 := ⟨ "slices.order2CmpFunc[[2]int]", by decide, Tryd.func146.trans (congrArg some (by kernel_rfl))⟩
  t0 := Tryd.underlying0
  a0 := Tryd.isAgg0
  z0 := Tryd.sizeOf0
  v0 := Tryd.zeroValue0
  t3 := Tryd.underlying3
  a3 := Tryd.isAgg3
  z3 := Tryd.sizeOf3
  v3 := Tryd.zeroValue3
  t4 := Tryd.underlying4
  a4 := Tryd.isAgg4
  z4 := Tryd.sizeOf4
  v4 := Tryd.zeroValue4
  t5 := Tryd.underlying5
  a5 := Tryd.isAgg5
  z5 := Tryd.sizeOf5
  v5 := Tryd.zeroValue5
  t9 := Tryd.underlying9
  a9 := Tryd.isAgg9
  z9 := Tryd.sizeOf9
  v9 := Tryd.zeroValue9
  t22 := Tryd.underlying70
  a22 := Tryd.isAgg70
  z22 := Tryd.sizeOf70
  v22 := Tryd.zeroValue70
  t25 := Tryd.underlying181
  a25 := Tryd.isAgg181
  z25 := Tryd.sizeOf181
  v25 := Tryd.zeroValue181
  t39 := Tryd.underlying102
  a39 := Tryd.isAgg102
  z39 := Tryd.sizeOf102
  v39 := Tryd.zeroValue102
  t45 := Tryd.underlying204
  a45 := Tryd.isAgg204
  z45 := Tryd.sizeOf204
  v45 := Tryd.zeroValue204
  t46 := Tryd.underlying205
  a46 := Tryd.isAgg205
  z46 := Tryd.sizeOf205
  v46 := Tryd.zeroValue205
  t50 := Tryd.underlying156
  a50 := Tryd.isAgg156
  z50 := Tryd.sizeOf156
  v50 := Tryd.zeroValue156
  t53 := Tryd.underlying164
  a53 := Tryd.isAgg164
  z53 := Tryd.sizeOf164
  v53 := Tryd.zeroValue164
  t55 := Tryd.underlying166
  a55 := Tryd.isAgg166
  z55 := Tryd.sizeOf166
  v55 := Tryd.zeroValue166
  t66 := Tryd.underlying210
  a66 := Tryd.isAgg210
  z66 := Tryd.sizeOf210
  v66 := Tryd.zeroValue210
  t70 := Tryd.underlying214
  a70 := Tryd.isAgg214
  z70 := Tryd.sizeOf214
  v70 := Tryd.zeroValue214
  t76 := Tryd.underlying216
  a76 := Tryd.isAgg216
  z76 := Tryd.sizeOf216
  v76 := Tryd.zeroValue216
  t77 := Tryd.underlying65
  a77 := Tryd.isAgg65
  z77 := Tryd.sizeOf65
  v77 := Tryd.zeroValue65
def cmpInt_ren : Ren where
  f := fun x => match x with | 5 => 96 | 7 => 121 | n => n
  t := fun x => match x with | 22 => 3 | 3 => 3 | 4 => 4 | n => n
  g := fun n => n
theorem cmpInt : SlLaysC2.n5 Tryd.prog cmpInt_ren where
  mixed := by kernel_rfl
  f5 := ⟨ "cmp.Compare[int]", by decide, Tryd.func96.trans (congrArg some (by kernel_rfl))⟩
  f7 := ⟨ "cmp.isNaN[int]", by decide, Tryd.func121.trans (congrArg some (by kernel_rfl))⟩
  t3 := Tryd.underlying3
  a3 := Tryd.isAgg3
  z3 := Tryd.sizeOf3
  v3 := Tryd.zeroValue3
  t4 := Tryd.underlying4
  a4 := Tryd.isAgg4
  z4 := Tryd.sizeOf4
  v4 := Tryd.zeroValue4
  t22 := Tryd.underlying3
  a22 := Tryd.isAgg3
  z22 := Tryd.sizeOf3
  v22 := Tryd.zeroValue3
end Go.Proofs.YtdigopgncfhiaaaDoor
