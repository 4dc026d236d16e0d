/- Closed runs: the indexing of n rows by one of the two keys. -/
import Derived.Test.YtggjomdndfacgaaGreatDoorAm8
namespace Go.AM
theorem i_true_0 : idxRun K1 2 0 b00 true 0 = true := by kernel_rfl
theorem i_true_1 : idxRun K1 2 0 b00 true 1 = true := by kernel_rfl
theorem i_true_8 : idxRun K1 2 0 b00 true 8 = true := by kernel_rfl
theorem i_true_9 : idxRun K1 2 0 b00 true 9 = true := by kernel_rfl
theorem i_true_16 : idxRun K1 2 0 b00 true 16 = true := by kernel_rfl
theorem i_true_17 : idxRun K1 2 0 b00 true 17 = true := by kernel_rfl
theorem i_true_24 : idxRun K1 2 0 b00 true 24 = true := by kernel_rfl
theorem i_true_25 : idxRun K1 2 0 b00 true 25 = true := by kernel_rfl
theorem i_true_32 : idxRun K1 2 0 b00 true 32 = true := by kernel_rfl
theorem i_true_33 : idxRun K1 2 0 b00 true 33 = true := by kernel_rfl
theorem i_true_40 : idxRun K1 2 0 b00 true 40 = true := by kernel_rfl
theorem i_true_41 : idxRun K1 2 0 b00 true 41 = true := by kernel_rfl
theorem i_true_48 : idxRun K1 2 0 b00 true 48 = true := by kernel_rfl
theorem i_true_49 : idxRun K1 2 0 b00 true 49 = true := by kernel_rfl
theorem i_true_56 : idxRun K1 2 0 b00 true 56 = true := by kernel_rfl
theorem i_true_57 : idxRun K1 2 0 b00 true 57 = true := by kernel_rfl
end Go.AM
