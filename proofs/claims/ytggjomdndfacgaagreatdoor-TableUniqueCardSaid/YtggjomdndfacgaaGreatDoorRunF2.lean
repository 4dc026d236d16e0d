/- Closed runs: the unique index made at the end, or not, at n rows. -/
import Derived.Test.YtggjomdndfacgaaGreatDoorUs1
namespace Go.AM
set_option maxRecDepth 100000
theorem fRow_2 : fRow 2 = true := by kernel_rfl
theorem fRow_10 : fRow 10 = true := by kernel_rfl
theorem fRow_18 : fRow 18 = true := by kernel_rfl
theorem fRow_26 : fRow 26 = true := by kernel_rfl
theorem fRow_34 : fRow 34 = true := by kernel_rfl
end Go.AM
