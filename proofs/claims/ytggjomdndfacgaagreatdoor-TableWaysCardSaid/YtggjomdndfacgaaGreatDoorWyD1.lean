/- Closed runs of the abstract machine, for TableWays. -/
import Derived.Test.YtggjomdndfacgaaGreatDoorWm6
import Derived.Test.YtggjomdndfacgaaGreatDoorWm4
namespace Go.AM
set_option maxRecDepth 100000
theorem wdC_78:[(5,0),(18,2),(11,1),(25,3),(4,0),(48,6),(10,1),(17,2),(40,5),(3,0),(32,4),(9,1),(24,3),(2,0),(16,2),(1,0),(8,1),(0,0),(47,6),(46,6),(45,6),(44,6),(43,6),(42,6),(41,6),(40,6),(39,6),(39,5),(38,6),(38,5),(37,6)].all (al2 wdC)=true:=by kernel_rfl
theorem wdC_72:[(43,5),(17,1),(17,0),(16,1)].all (al2 wdC)=true:=by kernel_rfl
theorem wdC_30:[(42,4),(42,3)].all (al2 wdC)=true:=by kernel_rfl
theorem wdC_40:[(39,0),(38,3)].all (al2 wdC)=true:=by kernel_rfl
theorem wdC_42:[(38,0),(37,3)].all (al2 wdC)=true:=by kernel_rfl
theorem wdC_51:[(33,2),(33,1)].all (al2 wdC)=true:=by kernel_rfl
theorem wdC_56:[(31,2),(31,1)].all (al2 wdC)=true:=by kernel_rfl
theorem wdC_2:[(49,3)].all (al2 wdC)=true:=by kernel_rfl
theorem wdC_7:[(48,4)].all (al2 wdC)=true:=by kernel_rfl
theorem wdC_20:[(46,2)].all (al2 wdC)=true:=by kernel_rfl
end Go.AM
