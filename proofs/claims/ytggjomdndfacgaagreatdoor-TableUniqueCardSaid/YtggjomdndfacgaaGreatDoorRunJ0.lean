/- Closed runs: a round of the indexing, by what it finds. -/
import Derived.Test.YtggjomdndfacgaaGreatDoorUp2
namespace Go.AM
set_option maxRecDepth 100000
theorem irow_f00 : iRow false 0 0 = true := by kernel_rfl
theorem irow_f04 : iRow false 0 4 = true := by kernel_rfl
theorem irow_f13 : iRow false 1 3 = true := by kernel_rfl
theorem irow_f22 : iRow false 2 2 = true := by kernel_rfl
theorem irow_f31 : iRow false 3 1 = true := by kernel_rfl
theorem irow_f40 : iRow false 4 0 = true := by kernel_rfl
theorem irow_t00 : iRow true 0 0 = true := by kernel_rfl
theorem irow_t04 : iRow true 0 4 = true := by kernel_rfl
theorem irow_t13 : iRow true 1 3 = true := by kernel_rfl
theorem irow_t22 : iRow true 2 2 = true := by kernel_rfl
theorem irow_t31 : iRow true 3 1 = true := by kernel_rfl
theorem irow_t40 : iRow true 4 0 = true := by kernel_rfl
end Go.AM
