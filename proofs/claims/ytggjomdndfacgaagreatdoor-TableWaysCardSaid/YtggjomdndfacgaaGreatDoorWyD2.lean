/- Closed runs of the abstract machine, for TableWays. -/
import Derived.Test.YtggjomdndfacgaaGreatDoorWm6
import Derived.Test.YtggjomdndfacgaaGreatDoorWm4
namespace Go.AM
set_option maxRecDepth 100000
theorem wdC_71:[(19,0),(22,2),(18,1),(18,0)].all (al2 wdC)=true:=by kernel_rfl
theorem wdC_76:[(20,2),(27,3),(9,0),(8,0),(13,1),(34,4)].all (al2 wdC)=true:=by kernel_rfl
theorem wdC_75:[(12,0),(14,1),(11,0),(42,5),(10,0)].all (al2 wdC)=true:=by kernel_rfl
theorem wdC_36:[(40,2),(40,1)].all (al2 wdC)=true:=by kernel_rfl
theorem wdC_45:[(36,2),(36,1)].all (al2 wdC)=true:=by kernel_rfl
theorem wdC_48:[(35,0),(34,3)].all (al2 wdC)=true:=by kernel_rfl
theorem wdC_58:[(30,1),(30,0)].all (al2 wdC)=true:=by kernel_rfl
theorem wdC_4:[(49,1)].all (al2 wdC)=true:=by kernel_rfl
theorem wdC_9:[(48,2)].all (al2 wdC)=true:=by kernel_rfl
theorem wdC_13:[(47,4)].all (al2 wdC)=true:=by kernel_rfl
end Go.AM
