/- Closed runs of the abstract machine, for TableWays. -/
import Derived.Test.YtggjomdndfacgaaGreatDoorWm3
import Derived.Test.YtggjomdndfacgaaGreatDoorWm4
namespace Go.AM
set_option maxRecDepth 100000
theorem putNRow_30:[(5,4,10),(5,3,10),(5,2,10),(5,1,10)].all (al3 zAt)=true:=by kernel_rfl
theorem putNRow_31:[(5,0,10),(6,5,9),(6,4,9),(6,3,9)].all (al3 zAt)=true:=by kernel_rfl
theorem putNRow_17:[(2,1,16),(2,0,16),(4,3,13)].all (al3 zAt)=true:=by kernel_rfl
theorem putNRow_19:[(3,2,14),(3,1,14),(3,0,14)].all (al3 zAt)=true:=by kernel_rfl
theorem putNRow_20:[(5,4,12),(5,3,12),(5,2,12)].all (al3 zAt)=true:=by kernel_rfl
theorem putNRow_23:[(3,0,13),(2,1,14),(2,0,14)].all (al3 zAt)=true:=by kernel_rfl
theorem putNRow_24:[(4,3,12),(4,2,12),(4,1,12)].all (al3 zAt)=true:=by kernel_rfl
theorem putNRow_28:[(2,1,13),(2,0,13),(4,3,11)].all (al3 zAt)=true:=by kernel_rfl
theorem putNRow_29:[(4,2,11),(4,1,11),(4,0,11)].all (al3 zAt)=true:=by kernel_rfl
theorem putNRow_10:[(4,2,15),(4,1,15)].all (al3 zAt)=true:=by kernel_rfl
theorem putNRow_8:[(5,2,14),(5,1,14)].all (al3 zAt)=true:=by kernel_rfl
theorem putNRow_44:[(2,0,8)].all (al3 zAt)=true:=by kernel_rfl
end Go.AM
