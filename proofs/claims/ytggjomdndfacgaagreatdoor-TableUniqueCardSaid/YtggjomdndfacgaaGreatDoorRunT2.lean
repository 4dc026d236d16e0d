/- Closed runs: a write into the store with the unique key, at n rows. -/
import Derived.Test.YtggjomdndfacgaaGreatDoorUs1
namespace Go.AM
set_option maxRecDepth 100000
theorem tRow_2 : tRow 2 = true := by kernel_rfl
theorem tRow_6 : tRow 6 = true := by kernel_rfl
theorem tRow_10 : tRow 10 = true := by kernel_rfl
theorem tRow_14 : tRow 14 = true := by kernel_rfl
theorem tRow_18 : tRow 18 = true := by kernel_rfl
theorem tRow_22 : tRow 22 = true := by kernel_rfl
theorem tRow_26 : tRow 26 = true := by kernel_rfl
theorem tRow_30 : tRow 30 = true := by kernel_rfl
theorem tRow_34 : tRow 34 = true := by kernel_rfl
theorem tRow_38 : tRow 38 = true := by kernel_rfl
end Go.AM
