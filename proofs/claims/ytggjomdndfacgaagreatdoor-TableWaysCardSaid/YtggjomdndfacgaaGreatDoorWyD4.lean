/- Closed runs of the abstract machine, for TableWays. -/
import Derived.Test.YtggjomdndfacgaaGreatDoorWm6
import Derived.Test.YtggjomdndfacgaaGreatDoorWm4
namespace Go.AM
set_option maxRecDepth 100000
theorem wdC_23:[(45,3),(45,2)].all (al2 wdC)=true:=by kernel_rfl
theorem wdC_28:[(43,3),(43,2)].all (al2 wdC)=true:=by kernel_rfl
theorem wdC_34:[(41,1),(41,0)].all (al2 wdC)=true:=by kernel_rfl
theorem wdC_37:[(40,0),(46,5)].all (al2 wdC)=true:=by kernel_rfl
theorem wdC_44:[(37,0),(36,3)].all (al2 wdC)=true:=by kernel_rfl
theorem wdC_49:[(34,2),(34,1)].all (al2 wdC)=true:=by kernel_rfl
theorem wdC_57:[(31,0),(30,2)].all (al2 wdC)=true:=by kernel_rfl
theorem wdC_3:[(49,2)].all (al2 wdC)=true:=by kernel_rfl
theorem wdC_8:[(48,3)].all (al2 wdC)=true:=by kernel_rfl
theorem wdC_12:[(47,5)].all (al2 wdC)=true:=by kernel_rfl
end Go.AM
