/- Closed runs of the abstract machine, for TableWays. -/
import Derived.Test.YtggjomdndfacgaaGreatDoorWm7
import Derived.Test.YtggjomdndfacgaaGreatDoorWm4
namespace Go.AM
set_option maxRecDepth 100000
theorem raRow_13:[15,14,13,12,11,10,9].all raRow=true:=by kernel_rfl
theorem raRow_12:[20,19,18,17,16].all raRow=true:=by kernel_rfl
theorem raRow_0:[50,49].all raRow=true:=by kernel_rfl
theorem raRow_9:[30,29,28].all raRow=true:=by kernel_rfl
theorem raRow_2:[46,45].all raRow=true:=by kernel_rfl
theorem raRow_4:[42,41].all raRow=true:=by kernel_rfl
theorem raRow_6:[38,37].all raRow=true:=by kernel_rfl
theorem raRow_14:[8,7,6,5,4,3,2,1,0].all raRow=true:=by kernel_rfl
end Go.AM
