/- Closed runs of the abstract machine, for TableWays. -/
import Derived.Test.YtggjomdndfacgaaGreatDoorWm5
import Derived.Test.YtggjomdndfacgaaGreatDoorWm4
namespace Go.AM
set_option maxRecDepth 100000
theorem keyRow_14:[31,30,29,28,27,26,25,24,23,22,21,20,19,18,17,16].all zDd=true:=by kernel_rfl
theorem keyRow_10:[95,94,93,92,91,90,89,88,87,86,85,84,83,82,81,80].all zDd=true:=by kernel_rfl
theorem keyRow_6:[159,158,157,156,155,154,153,152,151,150,149,148,147,146,145,144].all zDd=true:=by kernel_rfl
theorem keyRow_2:[223,222,221,220,219,218,217,216,215,214,213,212,211,210,209,208].all zDd=true:=by kernel_rfl
end Go.AM
