/- Closed runs of the abstract machine, for TableWays. -/
import Derived.Test.YtggjomdndfacgaaGreatDoorWm3
import Derived.Test.YtggjomdndfacgaaGreatDoorWm4
namespace Go.AM
set_option maxRecDepth 100000
theorem kRow_6:[38,37,36].all kRow=true:=by kernel_rfl
theorem kRow_1:[48,47].all kRow=true:=by kernel_rfl
theorem kRow_9:[29,28,27].all kRow=true:=by kernel_rfl
theorem kRow_5:[40,39].all kRow=true:=by kernel_rfl
end Go.AM
