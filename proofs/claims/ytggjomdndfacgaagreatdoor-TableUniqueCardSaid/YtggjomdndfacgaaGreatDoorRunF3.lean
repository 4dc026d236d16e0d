/- Closed runs: the unique index made at the end, or not, at n rows. -/
import Derived.Test.YtggjomdndfacgaaGreatDoorUs1
namespace Go.AM
set_option maxRecDepth 100000
theorem fRow_3 : fRow 3 = true := by kernel_rfl
theorem fRow_11 : fRow 11 = true := by kernel_rfl
theorem fRow_19 : fRow 19 = true := by kernel_rfl
theorem fRow_27 : fRow 27 = true := by kernel_rfl
theorem fRow_35 : fRow 35 = true := by kernel_rfl
end Go.AM
