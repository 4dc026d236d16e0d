/- Closed runs: a write into the store without a key, at n rows. -/
import Derived.Test.YtggjomdndfacgaaGreatDoorUs1
namespace Go.AM
set_option maxRecDepth 100000
theorem uRow_0 : uRow 0 = true := by kernel_rfl
theorem uRow_4 : uRow 4 = true := by kernel_rfl
theorem uRow_8 : uRow 8 = true := by kernel_rfl
theorem uRow_12 : uRow 12 = true := by kernel_rfl
theorem uRow_16 : uRow 16 = true := by kernel_rfl
theorem uRow_20 : uRow 20 = true := by kernel_rfl
theorem uRow_24 : uRow 24 = true := by kernel_rfl
theorem uRow_28 : uRow 28 = true := by kernel_rfl
theorem uRow_32 : uRow 32 = true := by kernel_rfl
theorem uRow_36 : uRow 36 = true := by kernel_rfl
end Go.AM
