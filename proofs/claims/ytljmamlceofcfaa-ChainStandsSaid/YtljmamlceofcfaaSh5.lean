import Derived.Shelf.SlSortCmp.WholeK
import Derived.Shelf.SlSortCmp.NoneTotal
import Derived.Test.YtljmamlceofcfaaProg
import Derived.Shelf.SlicesQ.IndexFunc
section
/- The library's contracts, laid at this program (laid by wip/shelf2.py). -/
namespace Go.Proofs.Ytljmamlceofcfaa
open Go.Shelf
def Sh.sortf_ren : Go.Shelf.Ren := ⟨fun | 6 => 108 | 15 => 129 | 14 => 132 | 28 => 150 | 29 => 151 | 20 => 152 | 21 => 153 | 22 => 154 | 23 => 155 | 24 => 156 | 25 => 157 | 26 => 158 | 27 => 159 | 46 => 168 | 47 => 163 | 48 => 164 | 49 => 169 | 50 => 170 | 57 => 172 | n => n, fun | 22 => 22 | 24 => 26 | 25 => 85 | 3 => 3 | 39 => 135 | 0 => 0 | 53 => 23 | 55 => 43 | 4 => 4 | 46 => 152 | 45 => 151 | 50 => 157 | 5 => 5 | 9 => 9 | 66 => 170 | 70 => 173 | 76 => 177 | 77 => 178 | n => n, fun | n => n⟩
theorem Sh.sortf : Go.Proofs.SlLaysF0.n6 Try.prog Sh.sortf_ren where
  mixed := by kernel_rfl
  f6 := ⟨"slices.SortFunc[[]watershed/api.Time,watershed/api.Time]", by decide, Try.func108.trans (congrArg some (by kernel_rfl))⟩
  f14 := ⟨"slices.pdqsortCmpFunc[watershed/api.Time]", by decide, Try.func132.trans (congrArg some (by kernel_rfl))⟩
  f15 := Try.func129.trans (congrArg some (by kernel_rfl))
  f20 := ⟨"slices.insertionSortCmpFunc[watershed/api.Time]", by decide, Try.func152.trans (congrArg some (by kernel_rfl))⟩
  f21 := ⟨"slices.heapSortCmpFunc[watershed/api.Time]", by decide, Try.func153.trans (congrArg some (by kernel_rfl))⟩
  f22 := ⟨"slices.breakPatternsCmpFunc[watershed/api.Time]", by decide, Try.func154.trans (congrArg some (by kernel_rfl))⟩
  f23 := ⟨"slices.choosePivotCmpFunc[watershed/api.Time]", by decide, Try.func155.trans (congrArg some (by kernel_rfl))⟩
  f24 := ⟨"slices.reverseRangeCmpFunc[watershed/api.Time]", by decide, Try.func156.trans (congrArg some (by kernel_rfl))⟩
  f25 := ⟨"slices.partialInsertionSortCmpFunc[watershed/api.Time]", by decide, Try.func157.trans (congrArg some (by kernel_rfl))⟩
  f26 := ⟨"slices.partitionEqualCmpFunc[watershed/api.Time]", by decide, Try.func158.trans (congrArg some (by kernel_rfl))⟩
  f27 := ⟨"slices.partitionCmpFunc[watershed/api.Time]", by decide, Try.func159.trans (congrArg some (by kernel_rfl))⟩
  f28 := Try.func150.trans (congrArg some (by kernel_rfl))
  f29 := Try.func151.trans (congrArg some (by kernel_rfl))
  f46 := ⟨"slices.siftDownCmpFunc[watershed/api.Time]", by decide, Try.func168.trans (congrArg some (by kernel_rfl))⟩
  f47 := Try.func163.trans (congrArg some (by kernel_rfl))
  f48 := Try.func164.trans (congrArg some (by kernel_rfl))
  f49 := ⟨"slices.medianAdjacentCmpFunc[watershed/api.Time]", by decide, Try.func169.trans (congrArg some (by kernel_rfl))⟩
  f50 := ⟨"slices.medianCmpFunc[watershed/api.Time]", by decide, Try.func170.trans (congrArg some (by kernel_rfl))⟩
  f57 := ⟨"slices.order2CmpFunc[watershed/api.Time]", by decide, Try.func172.trans (congrArg some (by kernel_rfl))⟩
  t0 := Try.underlying0
  a0 := Try.isAgg0
  z0 := Try.sizeOf0
  v0 := Try.zeroValue0
  t3 := Try.underlying3
  a3 := Try.isAgg3
  z3 := Try.sizeOf3
  v3 := Try.zeroValue3
  t4 := Try.underlying4
  a4 := Try.isAgg4
  z4 := Try.sizeOf4
  v4 := Try.zeroValue4
  t5 := Try.underlying5
  a5 := Try.isAgg5
  z5 := Try.sizeOf5
  v5 := Try.zeroValue5
  t9 := Try.underlying9
  a9 := Try.isAgg9
  z9 := Try.sizeOf9
  v9 := Try.zeroValue9
  t22 := Try.underlying22
  a22 := Try.isAgg22
  z22 := Try.sizeOf22
  v22 := Try.zeroValue22
  t25 := Try.underlying85
  a25 := Try.isAgg85
  z25 := Try.sizeOf85
  v25 := Try.zeroValue85
  t39 := Try.underlying135
  a39 := Try.isAgg135
  z39 := Try.sizeOf135
  v39 := Try.zeroValue135
  t45 := Try.underlying151
  a45 := Try.isAgg151
  z45 := Try.sizeOf151
  v45 := Try.zeroValue151
  t46 := Try.underlying152
  a46 := Try.isAgg152
  z46 := Try.sizeOf152
  v46 := Try.zeroValue152
  t50 := Try.underlying157
  a50 := Try.isAgg157
  z50 := Try.sizeOf157
  v50 := Try.zeroValue157
  t53 := Try.underlying23
  a53 := Try.isAgg23
  z53 := Try.sizeOf23
  v53 := Try.zeroValue23
  t55 := Try.underlying43
  a55 := Try.isAgg43
  z55 := Try.sizeOf43
  v55 := Try.zeroValue43
  t66 := Try.underlying170
  a66 := Try.isAgg170
  z66 := Try.sizeOf170
  v66 := Try.zeroValue170
  t70 := Try.underlying173
  a70 := Try.isAgg173
  z70 := Try.sizeOf173
  v70 := Try.zeroValue173
  t76 := Try.underlying177
  a76 := Try.isAgg177
  z76 := Try.sizeOf177
  v76 := Try.zeroValue177
  t77 := Try.underlying178
  a77 := Try.isAgg178
  z77 := Try.sizeOf178
  v77 := Try.zeroValue178
end Go.Proofs.Ytljmamlceofcfaa
end
section
/- The library's contracts, laid at this program (laid by wip/shelf2.py). -/
namespace Go.Proofs.Ytljmamlceofcfaa
open Go.Shelf
def Sh.containsf_ren : Go.Shelf.Ren := ⟨fun | 8 => 73 | 6 => 114 | n => n, fun | 22 => 22 | 23 => 26 | 25 => 87 | 4 => 4 | 3 => 3 | 0 => 0 | n => n, fun | n => n⟩
theorem Sh.containsf : Go.Proofs.SlLaysH0.n8 Try.prog Sh.containsf_ren where
  mixed := by kernel_rfl
  f6 := ⟨"slices.IndexFunc[[]watershed/api.Time,watershed/api.Time]", by decide, Try.func114.trans (congrArg some (by kernel_rfl))⟩
  f8 := ⟨"slices.ContainsFunc[[]watershed/api.Time,watershed/api.Time]", by decide, Try.func73.trans (congrArg some (by kernel_rfl))⟩
  t0 := Try.underlying0
  a0 := Try.isAgg0
  z0 := Try.sizeOf0
  v0 := Try.zeroValue0
  t3 := Try.underlying3
  a3 := Try.isAgg3
  z3 := Try.sizeOf3
  v3 := Try.zeroValue3
  t4 := Try.underlying4
  a4 := Try.isAgg4
  z4 := Try.sizeOf4
  v4 := Try.zeroValue4
  t22 := Try.underlying22
  a22 := Try.isAgg22
  z22 := Try.sizeOf22
  v22 := Try.zeroValue22
  t25 := Try.underlying87
  a25 := Try.isAgg87
  z25 := Try.sizeOf87
  v25 := Try.zeroValue87
end Go.Proofs.Ytljmamlceofcfaa
end
