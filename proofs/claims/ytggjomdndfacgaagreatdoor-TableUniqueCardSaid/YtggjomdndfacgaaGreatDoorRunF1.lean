/- Closed runs: the unique index made at the end, or not, at n rows. -/
import Derived.Test.YtggjomdndfacgaaGreatDoorUs1
namespace Go.AM
set_option maxRecDepth 100000
theorem fRow_1 : fRow 1 = true := by kernel_rfl
theorem fRow_9 : fRow 9 = true := by kernel_rfl
theorem fRow_17 : fRow 17 = true := by kernel_rfl
theorem fRow_25 : fRow 25 = true := by kernel_rfl
theorem fRow_33 : fRow 33 = true := by kernel_rfl
end Go.AM
