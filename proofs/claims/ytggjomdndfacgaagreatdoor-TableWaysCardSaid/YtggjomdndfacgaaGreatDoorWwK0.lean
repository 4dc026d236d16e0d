/- Closed runs of the abstract machine, for TableWays. -/
import Derived.Test.YtggjomdndfacgaaGreatDoorWm5
import Derived.Test.YtggjomdndfacgaaGreatDoorWm4
namespace Go.AM
set_option maxRecDepth 100000
theorem keyRow_15:[15,14,13,12,11,10,9,8,7,6,5,4,3,2,1,0].all zDd=true:=by kernel_rfl
theorem keyRow_11:[79,78,77,76,75,74,73,72,71,70,69,68,67,66,65,64].all zDd=true:=by kernel_rfl
theorem keyRow_7:[143,142,141,140,139,138,137,136,135,134,133,132,131,130,129,128].all zDd=true:=by kernel_rfl
theorem keyRow_3:[207,206,205,204,203,202,201,200,199,198,197,196,195,194,193,192].all zDd=true:=by kernel_rfl
end Go.AM
