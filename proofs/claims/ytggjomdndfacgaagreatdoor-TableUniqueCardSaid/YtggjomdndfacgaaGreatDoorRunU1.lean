/- Closed runs: a write into the store without a key, at n rows. -/
import Derived.Test.YtggjomdndfacgaaGreatDoorUs1
namespace Go.AM
set_option maxRecDepth 100000
theorem uRow_1 : uRow 1 = true := by kernel_rfl
theorem uRow_5 : uRow 5 = true := by kernel_rfl
theorem uRow_9 : uRow 9 = true := by kernel_rfl
theorem uRow_13 : uRow 13 = true := by kernel_rfl
theorem uRow_17 : uRow 17 = true := by kernel_rfl
theorem uRow_21 : uRow 21 = true := by kernel_rfl
theorem uRow_25 : uRow 25 = true := by kernel_rfl
theorem uRow_29 : uRow 29 = true := by kernel_rfl
theorem uRow_33 : uRow 33 = true := by kernel_rfl
theorem uRow_37 : uRow 37 = true := by kernel_rfl
end Go.AM
