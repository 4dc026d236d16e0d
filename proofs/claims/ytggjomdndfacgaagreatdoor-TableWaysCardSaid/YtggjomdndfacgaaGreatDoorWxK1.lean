/- Closed runs of the abstract machine, for TableWays. -/
import Derived.Test.YtggjomdndfacgaaGreatDoorWm3
import Derived.Test.YtggjomdndfacgaaGreatDoorWm4
namespace Go.AM
set_option maxRecDepth 100000
theorem kRow_12:[17,16,15,14,13,12,11].all kRow=true:=by kernel_rfl
theorem kRow_8:[32,31,30].all kRow=true:=by kernel_rfl
theorem kRow_3:[44,43].all kRow=true:=by kernel_rfl
end Go.AM
