/- Closed runs: the unique index made at the end, or not, at n rows. -/
import Derived.Test.YtggjomdndfacgaaGreatDoorUs1
namespace Go.AM
set_option maxRecDepth 100000
theorem fRow_0 : fRow 0 = true := by kernel_rfl
theorem fRow_8 : fRow 8 = true := by kernel_rfl
theorem fRow_16 : fRow 16 = true := by kernel_rfl
theorem fRow_24 : fRow 24 = true := by kernel_rfl
theorem fRow_32 : fRow 32 = true := by kernel_rfl
theorem fRow_40 : fRow 40 = true := by kernel_rfl
end Go.AM
