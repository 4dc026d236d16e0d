/- Closed runs of the abstract machine, for TableWays. -/
import Derived.Test.YtggjomdndfacgaaGreatDoorWm7
import Derived.Test.YtggjomdndfacgaaGreatDoorWm4
namespace Go.AM
set_option maxRecDepth 100000
theorem lkC_3:[(46,3),(46,2),(46,1),(46,0),(45,4),(45,3),(45,2),(45,1),(45,0)].all (al2 lkC)=true:=by kernel_rfl
theorem lkC_0:[(50,5),(50,4),(50,3),(50,2),(50,1),(50,0),(49,5),(49,4)].all (al2 lkC)=true:=by kernel_rfl
theorem lkC_1:[(49,3),(49,2),(49,1),(49,0),(48,5),(48,4),(48,3),(48,2)].all (al2 lkC)=true:=by kernel_rfl
theorem lkC_5:[(43,0),(42,4),(42,3),(42,2),(42,1),(42,0),(41,4),(41,3),(41,2)].all (al2 lkC)=true:=by kernel_rfl
end Go.AM
