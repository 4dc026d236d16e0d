/- Closed runs of the abstract machine, for TableWays. -/
import Derived.Test.YtggjomdndfacgaaGreatDoorWm7
import Derived.Test.YtggjomdndfacgaaGreatDoorWm4
namespace Go.AM
set_option maxRecDepth 100000
theorem raRow_7:[36,35,34].all raRow=true:=by kernel_rfl
theorem raRow_8:[33,32,31].all raRow=true:=by kernel_rfl
theorem raRow_11:[24,23,22,21].all raRow=true:=by kernel_rfl
theorem raRow_1:[48,47].all raRow=true:=by kernel_rfl
theorem raRow_3:[44,43].all raRow=true:=by kernel_rfl
theorem raRow_10:[27,26,25].all raRow=true:=by kernel_rfl
theorem raRow_5:[40,39].all raRow=true:=by kernel_rfl
end Go.AM
