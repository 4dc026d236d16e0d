/- Closed runs: a write into the store without a key, at n rows. -/
import Derived.Test.YtggjomdndfacgaaGreatDoorUs1
namespace Go.AM
set_option maxRecDepth 100000
theorem uRow_2 : uRow 2 = true := by kernel_rfl
theorem uRow_6 : uRow 6 = true := by kernel_rfl
theorem uRow_10 : uRow 10 = true := by kernel_rfl
theorem uRow_14 : uRow 14 = true := by kernel_rfl
theorem uRow_18 : uRow 18 = true := by kernel_rfl
theorem uRow_22 : uRow 22 = true := by kernel_rfl
theorem uRow_26 : uRow 26 = true := by kernel_rfl
theorem uRow_30 : uRow 30 = true := by kernel_rfl
theorem uRow_34 : uRow 34 = true := by kernel_rfl
theorem uRow_38 : uRow 38 = true := by kernel_rfl
end Go.AM
