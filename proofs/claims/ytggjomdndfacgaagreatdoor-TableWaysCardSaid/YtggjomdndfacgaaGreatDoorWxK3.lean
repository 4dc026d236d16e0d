/- Closed runs of the abstract machine, for TableWays. -/
import Derived.Test.YtggjomdndfacgaaGreatDoorWm3
import Derived.Test.YtggjomdndfacgaaGreatDoorWm4
namespace Go.AM
set_option maxRecDepth 100000
theorem kRow_7:[35,34,33].all kRow=true:=by kernel_rfl
theorem kRow_10:[26,25,24,23].all kRow=true:=by kernel_rfl
theorem kRow_4:[42,41].all kRow=true:=by kernel_rfl
theorem kRow_13:[10,9,8,7,6,5,4,3,2,1,0].all kRow=true:=by kernel_rfl
end Go.AM
