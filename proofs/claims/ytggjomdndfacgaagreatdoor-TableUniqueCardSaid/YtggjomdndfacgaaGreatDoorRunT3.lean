/- Closed runs: a write into the store with the unique key, at n rows. -/
import Derived.Test.YtggjomdndfacgaaGreatDoorUs1
namespace Go.AM
set_option maxRecDepth 100000
theorem tRow_3 : tRow 3 = true := by kernel_rfl
theorem tRow_7 : tRow 7 = true := by kernel_rfl
theorem tRow_11 : tRow 11 = true := by kernel_rfl
theorem tRow_15 : tRow 15 = true := by kernel_rfl
theorem tRow_19 : tRow 19 = true := by kernel_rfl
theorem tRow_23 : tRow 23 = true := by kernel_rfl
theorem tRow_27 : tRow 27 = true := by kernel_rfl
theorem tRow_31 : tRow 31 = true := by kernel_rfl
theorem tRow_35 : tRow 35 = true := by kernel_rfl
theorem tRow_39 : tRow 39 = true := by kernel_rfl
end Go.AM
