import Derived.Shelf.SlicesG.Turned
import Derived.Test.YtogainbkidgkhaaProg
import Derived.Shelf.SortG.Plain
import Derived.Shelf.SortG.SortNone
import Derived.Shelf.SlSortCmp.WholeK
import Derived.Shelf.SlSortCmp.NoneTotal
section
/- The library's contracts, laid at this program (laid by wip/shelf2.py). -/
namespace Go.Proofs.Ytogainbkidgkhaa
open Go.Shelf
def Sh.min_ren : Go.Shelf.Ren := ⟨fun | 39 => 35 | n => n, fun | 22 => 53 | 23 => 2 | 3 => 3 | 4 => 4 | 9 => 9 | 20 => 20 | 0 => 0 | n => n, fun | n => n⟩
theorem Sh.min : Go.Proofs.SlLaysN.n39 Try.prog Sh.min_ren where
  mixed := by kernel_rfl
  f39 := ⟨"slices.Min[[]int64,int64]", by decide, Try.func35.trans (congrArg some (by kernel_rfl))⟩
  t0 := Try.underlying0
  a0 := Try.isAgg0
  z0 := Try.sizeOf0
  v0 := Try.zeroValue0
  t3 := Try.underlying3
  a3 := Try.isAgg3
  z3 := Try.sizeOf3
  v3 := Try.zeroValue3
  t4 := Try.underlying4
  a4 := Try.isAgg4
  z4 := Try.sizeOf4
  v4 := Try.zeroValue4
  t9 := Try.underlying9
  a9 := Try.isAgg9
  z9 := Try.sizeOf9
  v9 := Try.zeroValue9
  t20 := Try.underlying20
  a20 := Try.isAgg20
  z20 := Try.sizeOf20
  v20 := Try.zeroValue20
  t22 := Try.underlying53
  a22 := Try.isAgg53
  z22 := Try.sizeOf53
  v22 := Try.zeroValue53
  t23 := Try.underlying2
  a23 := Try.isAgg2
  z23 := Try.sizeOf2
  v23 := Try.zeroValue2
def Sh.max_ren : Go.Shelf.Ren := ⟨fun | 37 => 36 | n => n, fun | 22 => 53 | 23 => 2 | 3 => 3 | 4 => 4 | 9 => 9 | 20 => 20 | 0 => 0 | n => n, fun | n => n⟩
theorem Sh.max : Go.Proofs.SlLaysN.n37 Try.prog Sh.max_ren where
  mixed := by kernel_rfl
  f37 := ⟨"slices.Max[[]int64,int64]", by decide, Try.func36.trans (congrArg some (by kernel_rfl))⟩
  t0 := Try.underlying0
  a0 := Try.isAgg0
  z0 := Try.sizeOf0
  v0 := Try.zeroValue0
  t3 := Try.underlying3
  a3 := Try.isAgg3
  z3 := Try.sizeOf3
  v3 := Try.zeroValue3
  t4 := Try.underlying4
  a4 := Try.isAgg4
  z4 := Try.sizeOf4
  v4 := Try.zeroValue4
  t9 := Try.underlying9
  a9 := Try.isAgg9
  z9 := Try.sizeOf9
  v9 := Try.zeroValue9
  t20 := Try.underlying20
  a20 := Try.isAgg20
  z20 := Try.sizeOf20
  v20 := Try.zeroValue20
  t22 := Try.underlying53
  a22 := Try.isAgg53
  z22 := Try.sizeOf53
  v22 := Try.zeroValue53
  t23 := Try.underlying2
  a23 := Try.isAgg2
  z23 := Try.sizeOf2
  v23 := Try.zeroValue2
end Go.Proofs.Ytogainbkidgkhaa
end
section
/- The library's contracts, laid at this program (laid by wip/shelf2.py). -/
namespace Go.Proofs.Ytogainbkidgkhaa
open Go.Shelf
def Sh.sort_ren : Go.Shelf.Ren := ⟨fun | 53 => 26 | 64 => 34 | 63 => 33 | 78 => 53 | 79 => 54 | 70 => 44 | 71 => 45 | 72 => 46 | 73 => 47 | 74 => 48 | 75 => 49 | 59 => 50 | 76 => 51 | 77 => 52 | 88 => 63 | 89 => 64 | 90 => 65 | 91 => 66 | 92 => 67 | 68 => 68 | 96 => 73 | n => n, fun | 22 => 53 | 23 => 2 | 3 => 3 | 51 => 62 | 0 => 0 | 67 => 73 | 69 => 48 | 4 => 4 | 61 => 77 | 60 => 76 | 44 => 82 | 5 => 5 | 9 => 9 | 75 => 102 | 79 => 106 | 83 => 113 | 84 => 114 | n => n, fun | n => n⟩
theorem Sh.sort : Go.Proofs.SlLaysN.n53 Try.prog Sh.sort_ren where
  mixed := by kernel_rfl
  f53 := ⟨"slices.Sort[[]int64,int64]", by decide, Try.func26.trans (congrArg some (by kernel_rfl))⟩
  f59 := ⟨"cmp.Less[int64]", by decide, Try.func50.trans (congrArg some (by kernel_rfl))⟩
  f63 := ⟨"slices.pdqsortOrdered[int64]", by decide, Try.func33.trans (congrArg some (by kernel_rfl))⟩
  f64 := Try.func34.trans (congrArg some (by kernel_rfl))
  f68 := ⟨"cmp.isNaN[int64]", by decide, Try.func68.trans (congrArg some (by kernel_rfl))⟩
  f70 := ⟨"slices.insertionSortOrdered[int64]", by decide, Try.func44.trans (congrArg some (by kernel_rfl))⟩
  f71 := ⟨"slices.heapSortOrdered[int64]", by decide, Try.func45.trans (congrArg some (by kernel_rfl))⟩
  f72 := ⟨"slices.breakPatternsOrdered[int64]", by decide, Try.func46.trans (congrArg some (by kernel_rfl))⟩
  f73 := ⟨"slices.choosePivotOrdered[int64]", by decide, Try.func47.trans (congrArg some (by kernel_rfl))⟩
  f74 := ⟨"slices.reverseRangeOrdered[int64]", by decide, Try.func48.trans (congrArg some (by kernel_rfl))⟩
  f75 := ⟨"slices.partialInsertionSortOrdered[int64]", by decide, Try.func49.trans (congrArg some (by kernel_rfl))⟩
  f76 := ⟨"slices.partitionEqualOrdered[int64]", by decide, Try.func51.trans (congrArg some (by kernel_rfl))⟩
  f77 := ⟨"slices.partitionOrdered[int64]", by decide, Try.func52.trans (congrArg some (by kernel_rfl))⟩
  f78 := Try.func53.trans (congrArg some (by kernel_rfl))
  f79 := Try.func54.trans (congrArg some (by kernel_rfl))
  f88 := ⟨"slices.siftDownOrdered[int64]", by decide, Try.func63.trans (congrArg some (by kernel_rfl))⟩
  f89 := Try.func64.trans (congrArg some (by kernel_rfl))
  f90 := Try.func65.trans (congrArg some (by kernel_rfl))
  f91 := ⟨"slices.medianAdjacentOrdered[int64]", by decide, Try.func66.trans (congrArg some (by kernel_rfl))⟩
  f92 := ⟨"slices.medianOrdered[int64]", by decide, Try.func67.trans (congrArg some (by kernel_rfl))⟩
  f96 := ⟨"slices.order2Ordered[int64]", by decide, Try.func73.trans (congrArg some (by kernel_rfl))⟩
  t0 := Try.underlying0
  a0 := Try.isAgg0
  z0 := Try.sizeOf0
  v0 := Try.zeroValue0
  t3 := Try.underlying3
  a3 := Try.isAgg3
  z3 := Try.sizeOf3
  v3 := Try.zeroValue3
  t4 := Try.underlying4
  a4 := Try.isAgg4
  z4 := Try.sizeOf4
  v4 := Try.zeroValue4
  t5 := Try.underlying5
  a5 := Try.isAgg5
  z5 := Try.sizeOf5
  v5 := Try.zeroValue5
  t9 := Try.underlying9
  a9 := Try.isAgg9
  z9 := Try.sizeOf9
  v9 := Try.zeroValue9
  t22 := Try.underlying53
  a22 := Try.isAgg53
  z22 := Try.sizeOf53
  v22 := Try.zeroValue53
  t23 := Try.underlying2
  a23 := Try.isAgg2
  z23 := Try.sizeOf2
  v23 := Try.zeroValue2
  t44 := Try.underlying82
  a44 := Try.isAgg82
  z44 := Try.sizeOf82
  v44 := Try.zeroValue82
  t51 := Try.underlying62
  a51 := Try.isAgg62
  z51 := Try.sizeOf62
  v51 := Try.zeroValue62
  t60 := Try.underlying76
  a60 := Try.isAgg76
  z60 := Try.sizeOf76
  v60 := Try.zeroValue76
  t61 := Try.underlying77
  a61 := Try.isAgg77
  z61 := Try.sizeOf77
  v61 := Try.zeroValue77
  t67 := Try.underlying73
  a67 := Try.isAgg73
  z67 := Try.sizeOf73
  v67 := Try.zeroValue73
  t69 := Try.underlying48
  a69 := Try.isAgg48
  z69 := Try.sizeOf48
  v69 := Try.zeroValue48
  t75 := Try.underlying102
  a75 := Try.isAgg102
  z75 := Try.sizeOf102
  v75 := Try.zeroValue102
  t79 := Try.underlying106
  a79 := Try.isAgg106
  z79 := Try.sizeOf106
  v79 := Try.zeroValue106
  t83 := Try.underlying113
  a83 := Try.isAgg113
  z83 := Try.sizeOf113
  v83 := Try.zeroValue113
  t84 := Try.underlying114
  a84 := Try.isAgg114
  z84 := Try.sizeOf114
  v84 := Try.zeroValue114
end Go.Proofs.Ytogainbkidgkhaa
end
section
/- The library's contracts, laid at this program (laid by wip/shelf2.py). -/
namespace Go.Proofs.Ytogainbkidgkhaa
open Go.Shelf
def Sh.sortf_ren : Go.Shelf.Ren := ⟨fun | 6 => 59 | 15 => 34 | 14 => 72 | 28 => 53 | 29 => 54 | 20 => 76 | 21 => 77 | 22 => 78 | 23 => 79 | 24 => 80 | 25 => 81 | 26 => 82 | 27 => 83 | 46 => 84 | 47 => 64 | 48 => 65 | 49 => 85 | 50 => 86 | 57 => 87 | n => n, fun | 22 => 26 | 24 => 25 | 25 => 72 | 3 => 3 | 39 => 62 | 0 => 0 | 53 => 73 | 55 => 48 | 4 => 4 | 46 => 77 | 45 => 76 | 50 => 82 | 5 => 5 | 9 => 9 | 66 => 102 | 70 => 106 | 76 => 113 | 77 => 114 | n => n, fun | n => n⟩
theorem Sh.sortf : Go.Proofs.SlLaysF0.n6 Try.prog Sh.sortf_ren where
  mixed := by kernel_rfl
  f6 := ⟨"slices.SortFunc[[]watershed/api.Record,watershed/api.Record]", by decide, Try.func59.trans (congrArg some (by kernel_rfl))⟩
  f14 := ⟨"slices.pdqsortCmpFunc[watershed/api.Record]", by decide, Try.func72.trans (congrArg some (by kernel_rfl))⟩
  f15 := Try.func34.trans (congrArg some (by kernel_rfl))
  f20 := ⟨"slices.insertionSortCmpFunc[watershed/api.Record]", by decide, Try.func76.trans (congrArg some (by kernel_rfl))⟩
  f21 := ⟨"slices.heapSortCmpFunc[watershed/api.Record]", by decide, Try.func77.trans (congrArg some (by kernel_rfl))⟩
  f22 := ⟨"slices.breakPatternsCmpFunc[watershed/api.Record]", by decide, Try.func78.trans (congrArg some (by kernel_rfl))⟩
  f23 := ⟨"slices.choosePivotCmpFunc[watershed/api.Record]", by decide, Try.func79.trans (congrArg some (by kernel_rfl))⟩
  f24 := ⟨"slices.reverseRangeCmpFunc[watershed/api.Record]", by decide, Try.func80.trans (congrArg some (by kernel_rfl))⟩
  f25 := ⟨"slices.partialInsertionSortCmpFunc[watershed/api.Record]", by decide, Try.func81.trans (congrArg some (by kernel_rfl))⟩
  f26 := ⟨"slices.partitionEqualCmpFunc[watershed/api.Record]", by decide, Try.func82.trans (congrArg some (by kernel_rfl))⟩
  f27 := ⟨"slices.partitionCmpFunc[watershed/api.Record]", by decide, Try.func83.trans (congrArg some (by kernel_rfl))⟩
  f28 := Try.func53.trans (congrArg some (by kernel_rfl))
  f29 := Try.func54.trans (congrArg some (by kernel_rfl))
  f46 := ⟨"slices.siftDownCmpFunc[watershed/api.Record]", by decide, Try.func84.trans (congrArg some (by kernel_rfl))⟩
  f47 := Try.func64.trans (congrArg some (by kernel_rfl))
  f48 := Try.func65.trans (congrArg some (by kernel_rfl))
  f49 := ⟨"slices.medianAdjacentCmpFunc[watershed/api.Record]", by decide, Try.func85.trans (congrArg some (by kernel_rfl))⟩
  f50 := ⟨"slices.medianCmpFunc[watershed/api.Record]", by decide, Try.func86.trans (congrArg some (by kernel_rfl))⟩
  f57 := ⟨"slices.order2CmpFunc[watershed/api.Record]", by decide, Try.func87.trans (congrArg some (by kernel_rfl))⟩
  t0 := Try.underlying0
  a0 := Try.isAgg0
  z0 := Try.sizeOf0
  v0 := Try.zeroValue0
  t3 := Try.underlying3
  a3 := Try.isAgg3
  z3 := Try.sizeOf3
  v3 := Try.zeroValue3
  t4 := Try.underlying4
  a4 := Try.isAgg4
  z4 := Try.sizeOf4
  v4 := Try.zeroValue4
  t5 := Try.underlying5
  a5 := Try.isAgg5
  z5 := Try.sizeOf5
  v5 := Try.zeroValue5
  t9 := Try.underlying9
  a9 := Try.isAgg9
  z9 := Try.sizeOf9
  v9 := Try.zeroValue9
  t22 := Try.underlying26
  a22 := Try.isAgg26
  z22 := Try.sizeOf26
  v22 := Try.zeroValue26
  t25 := Try.underlying72
  a25 := Try.isAgg72
  z25 := Try.sizeOf72
  v25 := Try.zeroValue72
  t39 := Try.underlying62
  a39 := Try.isAgg62
  z39 := Try.sizeOf62
  v39 := Try.zeroValue62
  t45 := Try.underlying76
  a45 := Try.isAgg76
  z45 := Try.sizeOf76
  v45 := Try.zeroValue76
  t46 := Try.underlying77
  a46 := Try.isAgg77
  z46 := Try.sizeOf77
  v46 := Try.zeroValue77
  t50 := Try.underlying82
  a50 := Try.isAgg82
  z50 := Try.sizeOf82
  v50 := Try.zeroValue82
  t53 := Try.underlying73
  a53 := Try.isAgg73
  z53 := Try.sizeOf73
  v53 := Try.zeroValue73
  t55 := Try.underlying48
  a55 := Try.isAgg48
  z55 := Try.sizeOf48
  v55 := Try.zeroValue48
  t66 := Try.underlying102
  a66 := Try.isAgg102
  z66 := Try.sizeOf102
  v66 := Try.zeroValue102
  t70 := Try.underlying106
  a70 := Try.isAgg106
  z70 := Try.sizeOf106
  v70 := Try.zeroValue106
  t76 := Try.underlying113
  a76 := Try.isAgg113
  z76 := Try.sizeOf113
  v76 := Try.zeroValue113
  t77 := Try.underlying114
  a77 := Try.isAgg114
  z77 := Try.sizeOf114
  v77 := Try.zeroValue114
end Go.Proofs.Ytogainbkidgkhaa
end
