/- Closed runs of the abstract machine, for TableWays. -/
import Derived.Test.YtggjomdndfacgaaGreatDoorWm6
import Derived.Test.YtggjomdndfacgaaGreatDoorWm4
namespace Go.AM
set_option maxRecDepth 100000
theorem wdC_24:[(45,1),(45,0)].all (al2 wdC)=true:=by kernel_rfl
theorem wdC_29:[(43,1),(43,0)].all (al2 wdC)=true:=by kernel_rfl
theorem wdC_32:[(42,0),(41,4)].all (al2 wdC)=true:=by kernel_rfl
theorem wdC_73:[(16,0),(15,1),(15,0),(28,3)].all (al2 wdC)=true:=by kernel_rfl
theorem wdC_43:[(37,2),(37,1)].all (al2 wdC)=true:=by kernel_rfl
theorem wdC_70:[(29,3),(36,4),(19,1)].all (al2 wdC)=true:=by kernel_rfl
theorem wdC_53:[(32,3),(32,2)].all (al2 wdC)=true:=by kernel_rfl
theorem wdC_11:[(48,0)].all (al2 wdC)=true:=by kernel_rfl
theorem wdC_17:[(47,0)].all (al2 wdC)=true:=by kernel_rfl
theorem wdC_21:[(46,1)].all (al2 wdC)=true:=by kernel_rfl
end Go.AM
