/- Closed runs of the abstract machine, for TableWays. -/
import Derived.Test.YtggjomdndfacgaaGreatDoorWm3
import Derived.Test.YtggjomdndfacgaaGreatDoorWm4
namespace Go.AM
set_option maxRecDepth 100000
theorem putNRow_41:[(2,1,10),(2,0,10),(3,2,9),(3,1,9),(3,0,9)].all (al3 zAt)=true:=by kernel_rfl
theorem putNRow_16:[(3,2,15),(3,1,15),(3,0,15)].all (al3 zAt)=true:=by kernel_rfl
theorem putNRow_33:[(2,0,12),(3,2,11),(3,1,11),(3,0,11)].all (al3 zAt)=true:=by kernel_rfl
theorem putNRow_18:[(4,2,13),(4,1,13),(4,0,13)].all (al3 zAt)=true:=by kernel_rfl
theorem putNRow_36:[(5,0,9),(2,1,11),(2,0,11),(3,2,10)].all (al3 zAt)=true:=by kernel_rfl
theorem putNRow_37:[(3,1,10),(3,0,10),(6,5,8),(6,4,8)].all (al3 zAt)=true:=by kernel_rfl
theorem putNRow_25:[(4,0,12),(5,4,11),(5,3,11)].all (al3 zAt)=true:=by kernel_rfl
theorem putNRow_0:[(5,4,16),(5,3,16)].all (al3 zAt)=true:=by kernel_rfl
theorem putNRow_3:[(5,3,15),(5,2,15)].all (al3 zAt)=true:=by kernel_rfl
theorem putNRow_5:[(4,3,16),(4,2,16)].all (al3 zAt)=true:=by kernel_rfl
theorem putNRow_12:[(3,1,16),(3,0,16)].all (al3 zAt)=true:=by kernel_rfl
end Go.AM
