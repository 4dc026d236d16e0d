/- Closed runs: the indexing of n rows by one of the two keys. -/
import Derived.Test.YtggjomdndfacgaaGreatDoorAm8
namespace Go.AM
theorem i_true_2 : idxRun K1 2 0 b00 true 2 = true := by kernel_rfl
theorem i_true_7 : idxRun K1 2 0 b00 true 7 = true := by kernel_rfl
theorem i_true_10 : idxRun K1 2 0 b00 true 10 = true := by kernel_rfl
theorem i_true_15 : idxRun K1 2 0 b00 true 15 = true := by kernel_rfl
theorem i_true_18 : idxRun K1 2 0 b00 true 18 = true := by kernel_rfl
theorem i_true_23 : idxRun K1 2 0 b00 true 23 = true := by kernel_rfl
theorem i_true_26 : idxRun K1 2 0 b00 true 26 = true := by kernel_rfl
theorem i_true_31 : idxRun K1 2 0 b00 true 31 = true := by kernel_rfl
theorem i_true_34 : idxRun K1 2 0 b00 true 34 = true := by kernel_rfl
theorem i_true_39 : idxRun K1 2 0 b00 true 39 = true := by kernel_rfl
theorem i_true_42 : idxRun K1 2 0 b00 true 42 = true := by kernel_rfl
theorem i_true_47 : idxRun K1 2 0 b00 true 47 = true := by kernel_rfl
theorem i_true_50 : idxRun K1 2 0 b00 true 50 = true := by kernel_rfl
theorem i_true_55 : idxRun K1 2 0 b00 true 55 = true := by kernel_rfl
theorem i_true_58 : idxRun K1 2 0 b00 true 58 = true := by kernel_rfl
end Go.AM
