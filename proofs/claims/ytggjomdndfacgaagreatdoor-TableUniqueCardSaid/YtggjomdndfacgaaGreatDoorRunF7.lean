/- Closed runs: the unique index made at the end, or not, at n rows. -/
import Derived.Test.YtggjomdndfacgaaGreatDoorUs1
namespace Go.AM
set_option maxRecDepth 100000
theorem fRow_7 : fRow 7 = true := by kernel_rfl
theorem fRow_15 : fRow 15 = true := by kernel_rfl
theorem fRow_23 : fRow 23 = true := by kernel_rfl
theorem fRow_31 : fRow 31 = true := by kernel_rfl
theorem fRow_39 : fRow 39 = true := by kernel_rfl
end Go.AM
