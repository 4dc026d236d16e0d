/- Closed runs of the abstract machine, for TableWays. -/
import Derived.Test.YtggjomdndfacgaaGreatDoorWm7
import Derived.Test.YtggjomdndfacgaaGreatDoorWm4
namespace Go.AM
set_option maxRecDepth 100000
theorem lkC_9:[(34,0),(39,4),(46,5),(33,3),(33,2),(33,1),(33,0),(32,3),(32,2),(32,1),(32,0),(31,2)].all (al2 lkC)=true:=by kernel_rfl
theorem lkC_10:[(31,1),(31,0),(30,2),(30,1),(30,0),(29,2),(29,1),(29,0),(28,2),(28,1),(28,0),(38,4),(27,2)].all (al2 lkC)=true:=by kernel_rfl
theorem lkC_4:[(44,4),(44,3),(44,2),(44,1),(44,0),(43,4),(43,3),(43,2),(43,1)].all (al2 lkC)=true:=by kernel_rfl
end Go.AM
