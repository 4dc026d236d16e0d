/- Closed runs: the indexing of n rows by one of the two keys. -/
import Derived.Test.YtggjomdndfacgaaGreatDoorAm8
namespace Go.AM
theorem i_false_0 : idxRun K1 2 0 b00 false 0 = true := by kernel_rfl
theorem i_false_1 : idxRun K1 2 0 b00 false 1 = true := by kernel_rfl
theorem i_false_8 : idxRun K1 2 0 b00 false 8 = true := by kernel_rfl
theorem i_false_9 : idxRun K1 2 0 b00 false 9 = true := by kernel_rfl
theorem i_false_16 : idxRun K1 2 0 b00 false 16 = true := by kernel_rfl
theorem i_false_17 : idxRun K1 2 0 b00 false 17 = true := by kernel_rfl
theorem i_false_24 : idxRun K1 2 0 b00 false 24 = true := by kernel_rfl
theorem i_false_25 : idxRun K1 2 0 b00 false 25 = true := by kernel_rfl
theorem i_false_32 : idxRun K1 2 0 b00 false 32 = true := by kernel_rfl
theorem i_false_33 : idxRun K1 2 0 b00 false 33 = true := by kernel_rfl
theorem i_false_40 : idxRun K1 2 0 b00 false 40 = true := by kernel_rfl
theorem i_false_41 : idxRun K1 2 0 b00 false 41 = true := by kernel_rfl
theorem i_false_48 : idxRun K1 2 0 b00 false 48 = true := by kernel_rfl
theorem i_false_49 : idxRun K1 2 0 b00 false 49 = true := by kernel_rfl
theorem i_false_56 : idxRun K1 2 0 b00 false 56 = true := by kernel_rfl
theorem i_false_57 : idxRun K1 2 0 b00 false 57 = true := by kernel_rfl
end Go.AM
