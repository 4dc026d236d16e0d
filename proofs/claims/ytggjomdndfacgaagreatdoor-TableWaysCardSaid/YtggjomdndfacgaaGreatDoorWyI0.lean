/- Closed runs of the abstract machine, for TableWays. -/
import Derived.Test.YtggjomdndfacgaaGreatDoorWm6
import Derived.Test.YtggjomdndfacgaaGreatDoorWm4
namespace Go.AM
set_option maxRecDepth 100000
theorem wiRow_5:[39,38,37].all wiRow=true:=by kernel_rfl
theorem wiRow_6:[36,35,34].all wiRow=true:=by kernel_rfl
theorem wiRow_9:[27,26,25,24].all wiRow=true:=by kernel_rfl
theorem wiRow_1:[47,46].all wiRow=true:=by kernel_rfl
theorem wiRow_2:[45,44].all wiRow=true:=by kernel_rfl
theorem wiRow_3:[43,42].all wiRow=true:=by kernel_rfl
theorem wiRow_4:[41,40].all wiRow=true:=by kernel_rfl
end Go.AM
