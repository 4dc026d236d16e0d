/- Closed runs of the abstract machine, for TableWays. -/
import Derived.Test.YtggjomdndfacgaaGreatDoorWm5
import Derived.Test.YtggjomdndfacgaaGreatDoorWm4
namespace Go.AM
set_option maxRecDepth 100000
theorem keyRow_12:[63,62,61,60,59,58,57,56,55,54,53,52,51,50,49,48].all zDd=true:=by kernel_rfl
theorem keyRow_8:[127,126,125,124,123,122,121,120,119,118,117,116,115,114,113,112].all zDd=true:=by kernel_rfl
theorem keyRow_4:[191,190,189,188,187,186,185,184,183,182,181,180,179,178,177,176].all zDd=true:=by kernel_rfl
theorem keyRow_0:[255,254,253,252,251,250,249,248,247,246,245,244,243,242,241,240].all zDd=true:=by kernel_rfl
end Go.AM
