/- Closed runs of the abstract machine, for TableWays. -/
import Derived.Test.YtggjomdndfacgaaGreatDoorWm6
import Derived.Test.YtggjomdndfacgaaGreatDoorWm4
namespace Go.AM
set_option maxRecDepth 100000
theorem wdC_62:[(27,2),(27,1),(27,0)].all (al2 wdC)=true:=by kernel_rfl
theorem wdC_63:[(26,2),(26,1),(26,0)].all (al2 wdC)=true:=by kernel_rfl
theorem wdC_66:[(24,2),(24,1),(24,0)].all (al2 wdC)=true:=by kernel_rfl
theorem wdC_35:[(40,4),(40,3)].all (al2 wdC)=true:=by kernel_rfl
theorem wdC_46:[(36,0),(35,3)].all (al2 wdC)=true:=by kernel_rfl
theorem wdC_47:[(35,2),(35,1)].all (al2 wdC)=true:=by kernel_rfl
theorem wdC_59:[(29,2),(29,1)].all (al2 wdC)=true:=by kernel_rfl
theorem wdC_5:[(49,0)].all (al2 wdC)=true:=by kernel_rfl
theorem wdC_10:[(48,1)].all (al2 wdC)=true:=by kernel_rfl
theorem wdC_14:[(47,3)].all (al2 wdC)=true:=by kernel_rfl
end Go.AM
