/- Closed runs: the indexing of n rows by one of the two keys. -/
import Derived.Test.YtggjomdndfacgaaGreatDoorAm8
namespace Go.AM
theorem i_false_4 : idxRun K1 2 0 b00 false 4 = true := by kernel_rfl
theorem i_false_5 : idxRun K1 2 0 b00 false 5 = true := by kernel_rfl
theorem i_false_12 : idxRun K1 2 0 b00 false 12 = true := by kernel_rfl
theorem i_false_13 : idxRun K1 2 0 b00 false 13 = true := by kernel_rfl
theorem i_false_20 : idxRun K1 2 0 b00 false 20 = true := by kernel_rfl
theorem i_false_21 : idxRun K1 2 0 b00 false 21 = true := by kernel_rfl
theorem i_false_28 : idxRun K1 2 0 b00 false 28 = true := by kernel_rfl
theorem i_false_29 : idxRun K1 2 0 b00 false 29 = true := by kernel_rfl
theorem i_false_36 : idxRun K1 2 0 b00 false 36 = true := by kernel_rfl
theorem i_false_37 : idxRun K1 2 0 b00 false 37 = true := by kernel_rfl
theorem i_false_44 : idxRun K1 2 0 b00 false 44 = true := by kernel_rfl
theorem i_false_45 : idxRun K1 2 0 b00 false 45 = true := by kernel_rfl
theorem i_false_52 : idxRun K1 2 0 b00 false 52 = true := by kernel_rfl
theorem i_false_53 : idxRun K1 2 0 b00 false 53 = true := by kernel_rfl
theorem i_false_60 : idxRun K1 2 0 b00 false 60 = true := by kernel_rfl
end Go.AM
