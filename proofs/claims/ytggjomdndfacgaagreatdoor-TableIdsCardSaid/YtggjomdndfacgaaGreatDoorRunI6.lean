/- Closed runs: the indexing of n rows by one of the two keys. -/
import Derived.Test.YtggjomdndfacgaaGreatDoorAm8
namespace Go.AM
theorem i_false_2 : idxRun K1 2 0 b00 false 2 = true := by kernel_rfl
theorem i_false_7 : idxRun K1 2 0 b00 false 7 = true := by kernel_rfl
theorem i_false_10 : idxRun K1 2 0 b00 false 10 = true := by kernel_rfl
theorem i_false_15 : idxRun K1 2 0 b00 false 15 = true := by kernel_rfl
theorem i_false_18 : idxRun K1 2 0 b00 false 18 = true := by kernel_rfl
theorem i_false_23 : idxRun K1 2 0 b00 false 23 = true := by kernel_rfl
theorem i_false_26 : idxRun K1 2 0 b00 false 26 = true := by kernel_rfl
theorem i_false_31 : idxRun K1 2 0 b00 false 31 = true := by kernel_rfl
theorem i_false_34 : idxRun K1 2 0 b00 false 34 = true := by kernel_rfl
theorem i_false_39 : idxRun K1 2 0 b00 false 39 = true := by kernel_rfl
theorem i_false_42 : idxRun K1 2 0 b00 false 42 = true := by kernel_rfl
theorem i_false_47 : idxRun K1 2 0 b00 false 47 = true := by kernel_rfl
theorem i_false_50 : idxRun K1 2 0 b00 false 50 = true := by kernel_rfl
theorem i_false_55 : idxRun K1 2 0 b00 false 55 = true := by kernel_rfl
theorem i_false_58 : idxRun K1 2 0 b00 false 58 = true := by kernel_rfl
end Go.AM
