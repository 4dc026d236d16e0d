/- Closed runs: a write into the store with the unique key, at n rows. -/
import Derived.Test.YtggjomdndfacgaaGreatDoorUs1
namespace Go.AM
set_option maxRecDepth 100000
theorem tRow_0 : tRow 0 = true := by kernel_rfl
theorem tRow_4 : tRow 4 = true := by kernel_rfl
theorem tRow_8 : tRow 8 = true := by kernel_rfl
theorem tRow_12 : tRow 12 = true := by kernel_rfl
theorem tRow_16 : tRow 16 = true := by kernel_rfl
theorem tRow_20 : tRow 20 = true := by kernel_rfl
theorem tRow_24 : tRow 24 = true := by kernel_rfl
theorem tRow_28 : tRow 28 = true := by kernel_rfl
theorem tRow_32 : tRow 32 = true := by kernel_rfl
theorem tRow_36 : tRow 36 = true := by kernel_rfl
end Go.AM
