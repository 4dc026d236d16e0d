/- Closed runs: a round of the indexing, by what it finds. -/
import Derived.Test.YtggjomdndfacgaaGreatDoorUp2
namespace Go.AM
set_option maxRecDepth 100000
theorem irow_f02 : iRow false 0 2 = true := by kernel_rfl
theorem irow_f11 : iRow false 1 1 = true := by kernel_rfl
theorem irow_f20 : iRow false 2 0 = true := by kernel_rfl
theorem irow_f24 : iRow false 2 4 = true := by kernel_rfl
theorem irow_f33 : iRow false 3 3 = true := by kernel_rfl
theorem irow_f42 : iRow false 4 2 = true := by kernel_rfl
theorem irow_t02 : iRow true 0 2 = true := by kernel_rfl
theorem irow_t11 : iRow true 1 1 = true := by kernel_rfl
theorem irow_t20 : iRow true 2 0 = true := by kernel_rfl
theorem irow_t24 : iRow true 2 4 = true := by kernel_rfl
theorem irow_t33 : iRow true 3 3 = true := by kernel_rfl
theorem irow_t42 : iRow true 4 2 = true := by kernel_rfl
end Go.AM
