/- Closed runs of the abstract machine, for TableWays. -/
import Derived.Test.YtggjomdndfacgaaGreatDoorWm5
import Derived.Test.YtggjomdndfacgaaGreatDoorWm4
namespace Go.AM
set_option maxRecDepth 100000
theorem keyRow_13:[47,46,45,44,43,42,41,40,39,38,37,36,35,34,33,32].all zDd=true:=by kernel_rfl
theorem keyRow_9:[111,110,109,108,107,106,105,104,103,102,101,100,99,98,97,96].all zDd=true:=by kernel_rfl
theorem keyRow_5:[175,174,173,172,171,170,169,168,167,166,165,164,163,162,161,160].all zDd=true:=by kernel_rfl
theorem keyRow_1:[239,238,237,236,235,234,233,232,231,230,229,228,227,226,225,224].all zDd=true:=by kernel_rfl
end Go.AM
