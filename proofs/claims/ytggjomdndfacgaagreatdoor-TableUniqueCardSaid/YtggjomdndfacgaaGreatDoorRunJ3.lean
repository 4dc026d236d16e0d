/- Closed runs: a round of the indexing, by what it finds. -/
import Derived.Test.YtggjomdndfacgaaGreatDoorUp2
namespace Go.AM
set_option maxRecDepth 100000
theorem irow_f03 : iRow false 0 3 = true := by kernel_rfl
theorem irow_f12 : iRow false 1 2 = true := by kernel_rfl
theorem irow_f21 : iRow false 2 1 = true := by kernel_rfl
theorem irow_f30 : iRow false 3 0 = true := by kernel_rfl
theorem irow_f34 : iRow false 3 4 = true := by kernel_rfl
theorem irow_f43 : iRow false 4 3 = true := by kernel_rfl
theorem irow_t03 : iRow true 0 3 = true := by kernel_rfl
theorem irow_t12 : iRow true 1 2 = true := by kernel_rfl
theorem irow_t21 : iRow true 2 1 = true := by kernel_rfl
theorem irow_t30 : iRow true 3 0 = true := by kernel_rfl
theorem irow_t34 : iRow true 3 4 = true := by kernel_rfl
theorem irow_t43 : iRow true 4 3 = true := by kernel_rfl
end Go.AM
