/- Closed runs: known() and made(). -/
import Derived.Test.YtggjomdndfacgaaGreatDoorAm8
namespace Go.AM
theorem known_run : knownRun TZ K1 2 0 b00 (sl B4) (sl (sr B4)) = true := by kernel_rfl
theorem made_run : madeRun TZ K1 2 0 b00 (sl B4m) (sl (sr B4m)) (sl (sr (sr B4m))) = true := by kernel_rfl
end Go.AM
