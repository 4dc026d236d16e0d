/- Closed runs: a write into the store with the unique key, at n rows. -/
import Derived.Test.YtggjomdndfacgaaGreatDoorUs1
namespace Go.AM
set_option maxRecDepth 100000
theorem tRow_1 : tRow 1 = true := by kernel_rfl
theorem tRow_5 : tRow 5 = true := by kernel_rfl
theorem tRow_9 : tRow 9 = true := by kernel_rfl
theorem tRow_13 : tRow 13 = true := by kernel_rfl
theorem tRow_17 : tRow 17 = true := by kernel_rfl
theorem tRow_21 : tRow 21 = true := by kernel_rfl
theorem tRow_25 : tRow 25 = true := by kernel_rfl
theorem tRow_29 : tRow 29 = true := by kernel_rfl
theorem tRow_33 : tRow 33 = true := by kernel_rfl
theorem tRow_37 : tRow 37 = true := by kernel_rfl
end Go.AM
