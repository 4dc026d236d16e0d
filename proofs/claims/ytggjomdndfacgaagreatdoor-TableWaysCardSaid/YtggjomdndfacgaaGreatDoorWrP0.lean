/- Closed runs of the abstract machine, for TableWays. -/
import Derived.Test.YtggjomdndfacgaaGreatDoorWm7
import Derived.Test.YtggjomdndfacgaaGreatDoorWm4
namespace Go.AM
set_option maxRecDepth 100000
theorem apAt_2:[33,32,31,30,29,28,27,26,25,24,23,22].all apAt=true:=by kernel_rfl
theorem apAt_1:[42,41,40,39,38,37,36,35,34].all apAt=true:=by kernel_rfl
theorem apAt_0:[49,48,47,46,45,44,43].all apAt=true:=by kernel_rfl
theorem apAt_3:[21,20,19,18,17,16,15,14,13,12,11,10,9,8,7,6,5,4,3,2,1,0].all apAt=true:=by kernel_rfl
end Go.AM
