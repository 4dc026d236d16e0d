/- Closed runs: the unique index made at the end, or not, at n rows. -/
import Derived.Test.YtggjomdndfacgaaGreatDoorUs1
namespace Go.AM
set_option maxRecDepth 100000
theorem fRow_5 : fRow 5 = true := by kernel_rfl
theorem fRow_13 : fRow 13 = true := by kernel_rfl
theorem fRow_21 : fRow 21 = true := by kernel_rfl
theorem fRow_29 : fRow 29 = true := by kernel_rfl
theorem fRow_37 : fRow 37 = true := by kernel_rfl
end Go.AM
