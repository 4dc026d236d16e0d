/- Closed runs of the abstract machine, for TableWays. -/
import Derived.Test.YtggjomdndfacgaaGreatDoorWm6
import Derived.Test.YtggjomdndfacgaaGreatDoorWm4
namespace Go.AM
set_option maxRecDepth 100000
theorem wiRow_11:[18,17,16,15,14,13,12].all wiRow=true:=by kernel_rfl
theorem wiRow_10:[23,22,21,20,19].all wiRow=true:=by kernel_rfl
theorem wiRow_7:[33,32,31].all wiRow=true:=by kernel_rfl
theorem wiRow_0:[49,48].all wiRow=true:=by kernel_rfl
theorem wiRow_8:[30,29,28].all wiRow=true:=by kernel_rfl
theorem wiRow_12:[11,10,9,8,7,6,5,4,3,2,1,0].all wiRow=true:=by kernel_rfl
end Go.AM
