/- Closed runs of the abstract machine, for TableWays. -/
import Derived.Test.YtggjomdndfacgaaGreatDoorWm6
import Derived.Test.YtggjomdndfacgaaGreatDoorWm4
namespace Go.AM
set_option maxRecDepth 100000
theorem wdC_26:[(44,2),(44,1)].all (al2 wdC)=true:=by kernel_rfl
theorem wdC_25:[(44,4),(44,3)].all (al2 wdC)=true:=by kernel_rfl
theorem wdC_33:[(41,3),(41,2)].all (al2 wdC)=true:=by kernel_rfl
theorem wdC_39:[(39,2),(39,1)].all (al2 wdC)=true:=by kernel_rfl
theorem wdC_41:[(38,2),(38,1)].all (al2 wdC)=true:=by kernel_rfl
theorem wdC_52:[(33,0),(38,4)].all (al2 wdC)=true:=by kernel_rfl
theorem wdC_54:[(32,1),(32,0)].all (al2 wdC)=true:=by kernel_rfl
theorem wdC_0:[(49,5)].all (al2 wdC)=true:=by kernel_rfl
theorem wdC_16:[(47,1)].all (al2 wdC)=true:=by kernel_rfl
theorem wdC_19:[(46,3)].all (al2 wdC)=true:=by kernel_rfl
end Go.AM
