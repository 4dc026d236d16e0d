/- Closed runs of the abstract machine, for TableWays. -/
import Derived.Test.YtggjomdndfacgaaGreatDoorWm3
import Derived.Test.YtggjomdndfacgaaGreatDoorWm4
namespace Go.AM
set_option maxRecDepth 100000
theorem putNRow_13:[(4,3,14),(4,2,14),(4,1,14)].all (al3 zAt)=true:=by kernel_rfl
theorem putNRow_14:[(4,0,14),(5,4,13),(5,3,13)].all (al3 zAt)=true:=by kernel_rfl
theorem putNRow_32:[(6,2,9),(6,1,9),(6,0,9),(2,1,12)].all (al3 zAt)=true:=by kernel_rfl
theorem putNRow_35:[(5,4,9),(5,3,9),(5,2,9),(5,1,9)].all (al3 zAt)=true:=by kernel_rfl
theorem putNRow_21:[(5,1,12),(5,0,12),(2,1,15)].all (al3 zAt)=true:=by kernel_rfl
theorem putNRow_38:[(6,3,8),(6,2,8),(6,1,8),(6,0,8)].all (al3 zAt)=true:=by kernel_rfl
theorem putNRow_26:[(5,2,11),(5,1,11),(5,0,11)].all (al3 zAt)=true:=by kernel_rfl
theorem putNRow_1:[(5,2,16),(5,1,16)].all (al3 zAt)=true:=by kernel_rfl
theorem putNRow_4:[(5,1,15),(5,0,15)].all (al3 zAt)=true:=by kernel_rfl
theorem putNRow_6:[(4,1,16),(4,0,16)].all (al3 zAt)=true:=by kernel_rfl
theorem putNRow_11:[(4,0,15),(3,2,16)].all (al3 zAt)=true:=by kernel_rfl
end Go.AM
