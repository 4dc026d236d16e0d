/- Closed runs of the abstract machine, for TableWays. -/
import Derived.Test.YtggjomdndfacgaaGreatDoorWm6
import Derived.Test.YtggjomdndfacgaaGreatDoorWm4
namespace Go.AM
set_option maxRecDepth 100000
theorem wdC_77:[(7,0),(49,6),(19,2),(26,3),(12,1),(6,0),(41,5),(33,4)].all (al2 wdC)=true:=by kernel_rfl
theorem wdC_27:[(44,0),(43,4)].all (al2 wdC)=true:=by kernel_rfl
theorem wdC_65:[(25,1),(25,0),(44,5)].all (al2 wdC)=true:=by kernel_rfl
theorem wdC_38:[(39,4),(39,3)].all (al2 wdC)=true:=by kernel_rfl
theorem wdC_68:[(22,1),(22,0),(21,1)].all (al2 wdC)=true:=by kernel_rfl
theorem wdC_50:[(34,0),(33,3)].all (al2 wdC)=true:=by kernel_rfl
theorem wdC_55:[(45,5),(31,3)].all (al2 wdC)=true:=by kernel_rfl
theorem wdC_1:[(49,4)].all (al2 wdC)=true:=by kernel_rfl
theorem wdC_6:[(48,5)].all (al2 wdC)=true:=by kernel_rfl
theorem wdC_18:[(46,4)].all (al2 wdC)=true:=by kernel_rfl
end Go.AM
