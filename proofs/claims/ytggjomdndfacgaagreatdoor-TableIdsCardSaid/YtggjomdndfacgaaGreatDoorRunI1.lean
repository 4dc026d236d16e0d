/- Closed runs: the indexing of n rows by one of the two keys. -/
import Derived.Test.YtggjomdndfacgaaGreatDoorAm8
namespace Go.AM
theorem i_true_3 : idxRun K1 2 0 b00 true 3 = true := by kernel_rfl
theorem i_true_6 : idxRun K1 2 0 b00 true 6 = true := by kernel_rfl
theorem i_true_11 : idxRun K1 2 0 b00 true 11 = true := by kernel_rfl
theorem i_true_14 : idxRun K1 2 0 b00 true 14 = true := by kernel_rfl
theorem i_true_19 : idxRun K1 2 0 b00 true 19 = true := by kernel_rfl
theorem i_true_22 : idxRun K1 2 0 b00 true 22 = true := by kernel_rfl
theorem i_true_27 : idxRun K1 2 0 b00 true 27 = true := by kernel_rfl
theorem i_true_30 : idxRun K1 2 0 b00 true 30 = true := by kernel_rfl
theorem i_true_35 : idxRun K1 2 0 b00 true 35 = true := by kernel_rfl
theorem i_true_38 : idxRun K1 2 0 b00 true 38 = true := by kernel_rfl
theorem i_true_43 : idxRun K1 2 0 b00 true 43 = true := by kernel_rfl
theorem i_true_46 : idxRun K1 2 0 b00 true 46 = true := by kernel_rfl
theorem i_true_51 : idxRun K1 2 0 b00 true 51 = true := by kernel_rfl
theorem i_true_54 : idxRun K1 2 0 b00 true 54 = true := by kernel_rfl
theorem i_true_59 : idxRun K1 2 0 b00 true 59 = true := by kernel_rfl
end Go.AM
