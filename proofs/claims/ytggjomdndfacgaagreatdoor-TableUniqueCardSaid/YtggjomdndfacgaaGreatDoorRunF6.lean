/- Closed runs: the unique index made at the end, or not, at n rows. -/
import Derived.Test.YtggjomdndfacgaaGreatDoorUs1
namespace Go.AM
set_option maxRecDepth 100000
theorem fRow_6 : fRow 6 = true := by kernel_rfl
theorem fRow_14 : fRow 14 = true := by kernel_rfl
theorem fRow_22 : fRow 22 = true := by kernel_rfl
theorem fRow_30 : fRow 30 = true := by kernel_rfl
theorem fRow_38 : fRow 38 = true := by kernel_rfl
end Go.AM
