/- Closed runs of the abstract machine, for TableWays. -/
import Derived.Test.YtggjomdndfacgaaGreatDoorWm3
import Derived.Test.YtggjomdndfacgaaGreatDoorWm4
namespace Go.AM
set_option maxRecDepth 100000
theorem putNRow_40:[(5,4,8),(5,3,8),(5,2,8),(5,1,8),(5,0,8)].all (al3 zAt)=true:=by kernel_rfl
theorem putNRow_15:[(5,2,13),(5,1,13),(5,0,13)].all (al3 zAt)=true:=by kernel_rfl
theorem putNRow_34:[(4,3,10),(4,2,10),(4,1,10),(4,0,10)].all (al3 zAt)=true:=by kernel_rfl
theorem putNRow_42:[(4,3,8),(4,2,8),(4,1,8),(4,0,8),(2,1,9)].all (al3 zAt)=true:=by kernel_rfl
theorem putNRow_22:[(2,0,15),(3,2,13),(3,1,13)].all (al3 zAt)=true:=by kernel_rfl
theorem putNRow_43:[(2,0,9),(3,2,8),(3,1,8),(3,0,8),(2,1,8)].all (al3 zAt)=true:=by kernel_rfl
theorem putNRow_39:[(4,3,9),(4,2,9),(4,1,9),(4,0,9)].all (al3 zAt)=true:=by kernel_rfl
theorem putNRow_27:[(3,2,12),(3,1,12),(3,0,12)].all (al3 zAt)=true:=by kernel_rfl
theorem putNRow_2:[(5,0,16),(5,4,15)].all (al3 zAt)=true:=by kernel_rfl
theorem putNRow_9:[(5,0,14),(4,3,15)].all (al3 zAt)=true:=by kernel_rfl
theorem putNRow_7:[(5,4,14),(5,3,14)].all (al3 zAt)=true:=by kernel_rfl
end Go.AM
