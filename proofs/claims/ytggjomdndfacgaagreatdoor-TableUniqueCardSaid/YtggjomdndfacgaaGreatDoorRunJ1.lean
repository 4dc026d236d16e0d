/- Closed runs: a round of the indexing, by what it finds. -/
import Derived.Test.YtggjomdndfacgaaGreatDoorUp2
namespace Go.AM
set_option maxRecDepth 100000
theorem irow_f01 : iRow false 0 1 = true := by kernel_rfl
theorem irow_f10 : iRow false 1 0 = true := by kernel_rfl
theorem irow_f14 : iRow false 1 4 = true := by kernel_rfl
theorem irow_f23 : iRow false 2 3 = true := by kernel_rfl
theorem irow_f32 : iRow false 3 2 = true := by kernel_rfl
theorem irow_f41 : iRow false 4 1 = true := by kernel_rfl
theorem irow_t01 : iRow true 0 1 = true := by kernel_rfl
theorem irow_t10 : iRow true 1 0 = true := by kernel_rfl
theorem irow_t14 : iRow true 1 4 = true := by kernel_rfl
theorem irow_t23 : iRow true 2 3 = true := by kernel_rfl
theorem irow_t32 : iRow true 3 2 = true := by kernel_rfl
theorem irow_t41 : iRow true 4 1 = true := by kernel_rfl
end Go.AM
