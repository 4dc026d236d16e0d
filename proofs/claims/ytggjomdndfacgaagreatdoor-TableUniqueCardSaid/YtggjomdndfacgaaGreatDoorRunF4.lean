/- Closed runs: the unique index made at the end, or not, at n rows. -/
import Derived.Test.YtggjomdndfacgaaGreatDoorUs1
namespace Go.AM
set_option maxRecDepth 100000
theorem fRow_4 : fRow 4 = true := by kernel_rfl
theorem fRow_12 : fRow 12 = true := by kernel_rfl
theorem fRow_20 : fRow 20 = true := by kernel_rfl
theorem fRow_28 : fRow 28 = true := by kernel_rfl
theorem fRow_36 : fRow 36 = true := by kernel_rfl
end Go.AM
