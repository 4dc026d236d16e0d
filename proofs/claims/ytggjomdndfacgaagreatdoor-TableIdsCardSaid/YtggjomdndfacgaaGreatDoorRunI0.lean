/- Closed runs: the indexing of n rows by one of the two keys. -/
import Derived.Test.YtggjomdndfacgaaGreatDoorAm8
namespace Go.AM
theorem i_true_4 : idxRun K1 2 0 b00 true 4 = true := by kernel_rfl
theorem i_true_5 : idxRun K1 2 0 b00 true 5 = true := by kernel_rfl
theorem i_true_12 : idxRun K1 2 0 b00 true 12 = true := by kernel_rfl
theorem i_true_13 : idxRun K1 2 0 b00 true 13 = true := by kernel_rfl
theorem i_true_20 : idxRun K1 2 0 b00 true 20 = true := by kernel_rfl
theorem i_true_21 : idxRun K1 2 0 b00 true 21 = true := by kernel_rfl
theorem i_true_28 : idxRun K1 2 0 b00 true 28 = true := by kernel_rfl
theorem i_true_29 : idxRun K1 2 0 b00 true 29 = true := by kernel_rfl
theorem i_true_36 : idxRun K1 2 0 b00 true 36 = true := by kernel_rfl
theorem i_true_37 : idxRun K1 2 0 b00 true 37 = true := by kernel_rfl
theorem i_true_44 : idxRun K1 2 0 b00 true 44 = true := by kernel_rfl
theorem i_true_45 : idxRun K1 2 0 b00 true 45 = true := by kernel_rfl
theorem i_true_52 : idxRun K1 2 0 b00 true 52 = true := by kernel_rfl
theorem i_true_53 : idxRun K1 2 0 b00 true 53 = true := by kernel_rfl
theorem i_true_60 : idxRun K1 2 0 b00 true 60 = true := by kernel_rfl
end Go.AM
