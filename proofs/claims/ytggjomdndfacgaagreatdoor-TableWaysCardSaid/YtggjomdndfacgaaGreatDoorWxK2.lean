/- Closed runs of the abstract machine, for TableWays. -/
import Derived.Test.YtggjomdndfacgaaGreatDoorWm3
import Derived.Test.YtggjomdndfacgaaGreatDoorWm4
namespace Go.AM
set_option maxRecDepth 100000
theorem kRow_11:[22,21,20,19,18].all kRow=true:=by kernel_rfl
theorem kRow_0:[50,49].all kRow=true:=by kernel_rfl
theorem kRow_2:[46,45].all kRow=true:=by kernel_rfl
end Go.AM
