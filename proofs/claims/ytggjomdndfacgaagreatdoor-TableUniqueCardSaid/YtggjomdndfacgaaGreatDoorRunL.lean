/- Closed runs: put and next in a tree of one leaf. -/
import Derived.Test.YtggjomdndfacgaaGreatDoorUp1
namespace Go.AM
theorem putL_0 : putLRow 0 = true := by kernel_rfl
theorem nextL_0 : nextLRow 0 = true := by kernel_rfl
theorem putL_1 : putLRow 1 = true := by kernel_rfl
theorem nextL_1 : nextLRow 1 = true := by kernel_rfl
theorem putL_2 : putLRow 2 = true := by kernel_rfl
theorem nextL_2 : nextLRow 2 = true := by kernel_rfl
theorem putL_3 : putLRow 3 = true := by kernel_rfl
theorem nextL_3 : nextLRow 3 = true := by kernel_rfl
theorem putL_4 : putLRow 4 = true := by kernel_rfl
theorem nextL_4 : nextLRow 4 = true := by kernel_rfl
theorem putL_5 : putLRow 5 = true := by kernel_rfl
theorem nextL_5 : nextLRow 5 = true := by kernel_rfl
theorem putL_6 : putLRow 6 = true := by kernel_rfl
theorem nextL_6 : nextLRow 6 = true := by kernel_rfl
theorem putL_7 : putLRow 7 = true := by kernel_rfl
theorem nextL_7 : nextLRow 7 = true := by kernel_rfl
theorem putL_8 : putLRow 8 = true := by kernel_rfl
theorem nextL_8 : nextLRow 8 = true := by kernel_rfl
theorem putL_9 : putLRow 9 = true := by kernel_rfl
theorem nextL_9 : nextLRow 9 = true := by kernel_rfl
theorem putL_10 : putLRow 10 = true := by kernel_rfl
theorem nextL_10 : nextLRow 10 = true := by kernel_rfl
theorem putL_11 : putLRow 11 = true := by kernel_rfl
theorem nextL_11 : nextLRow 11 = true := by kernel_rfl
theorem putL_12 : putLRow 12 = true := by kernel_rfl
theorem nextL_12 : nextLRow 12 = true := by kernel_rfl
theorem putL_13 : putLRow 13 = true := by kernel_rfl
theorem nextL_13 : nextLRow 13 = true := by kernel_rfl
theorem putL_14 : putLRow 14 = true := by kernel_rfl
theorem nextL_14 : nextLRow 14 = true := by kernel_rfl
theorem putL_15 : putLRow 15 = true := by kernel_rfl
theorem nextL_15 : nextLRow 15 = true := by kernel_rfl
theorem putL_16 : putLRow 16 = true := by kernel_rfl
theorem nextL_16 : nextLRow 16 = true := by kernel_rfl
end Go.AM
