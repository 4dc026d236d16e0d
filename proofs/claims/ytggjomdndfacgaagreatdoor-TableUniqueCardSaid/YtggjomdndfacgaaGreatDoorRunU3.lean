/- Closed runs: a write into the store without a key, at n rows. -/
import Derived.Test.YtggjomdndfacgaaGreatDoorUs1
namespace Go.AM
set_option maxRecDepth 100000
theorem uRow_3 : uRow 3 = true := by kernel_rfl
theorem uRow_7 : uRow 7 = true := by kernel_rfl
theorem uRow_11 : uRow 11 = true := by kernel_rfl
theorem uRow_15 : uRow 15 = true := by kernel_rfl
theorem uRow_19 : uRow 19 = true := by kernel_rfl
theorem uRow_23 : uRow 23 = true := by kernel_rfl
theorem uRow_27 : uRow 27 = true := by kernel_rfl
theorem uRow_31 : uRow 31 = true := by kernel_rfl
theorem uRow_35 : uRow 35 = true := by kernel_rfl
theorem uRow_39 : uRow 39 = true := by kernel_rfl
end Go.AM
