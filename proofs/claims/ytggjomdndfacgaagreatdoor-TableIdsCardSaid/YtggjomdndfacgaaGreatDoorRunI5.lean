/- Closed runs: the indexing of n rows by one of the two keys. -/
import Derived.Test.YtggjomdndfacgaaGreatDoorAm8
namespace Go.AM
theorem i_false_3 : idxRun K1 2 0 b00 false 3 = true := by kernel_rfl
theorem i_false_6 : idxRun K1 2 0 b00 false 6 = true := by kernel_rfl
theorem i_false_11 : idxRun K1 2 0 b00 false 11 = true := by kernel_rfl
theorem i_false_14 : idxRun K1 2 0 b00 false 14 = true := by kernel_rfl
theorem i_false_19 : idxRun K1 2 0 b00 false 19 = true := by kernel_rfl
theorem i_false_22 : idxRun K1 2 0 b00 false 22 = true := by kernel_rfl
theorem i_false_27 : idxRun K1 2 0 b00 false 27 = true := by kernel_rfl
theorem i_false_30 : idxRun K1 2 0 b00 false 30 = true := by kernel_rfl
theorem i_false_35 : idxRun K1 2 0 b00 false 35 = true := by kernel_rfl
theorem i_false_38 : idxRun K1 2 0 b00 false 38 = true := by kernel_rfl
theorem i_false_43 : idxRun K1 2 0 b00 false 43 = true := by kernel_rfl
theorem i_false_46 : idxRun K1 2 0 b00 false 46 = true := by kernel_rfl
theorem i_false_51 : idxRun K1 2 0 b00 false 51 = true := by kernel_rfl
theorem i_false_54 : idxRun K1 2 0 b00 false 54 = true := by kernel_rfl
theorem i_false_59 : idxRun K1 2 0 b00 false 59 = true := by kernel_rfl
end Go.AM
