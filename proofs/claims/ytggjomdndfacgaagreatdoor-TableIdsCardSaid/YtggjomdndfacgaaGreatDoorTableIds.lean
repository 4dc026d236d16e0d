/- PROVED: Rows.TableIdsCardSaid: consistorylaw12.TableIds answers true for every list of bytes, and the list reads behind the call as it read before (the tied card; no condition beyond its own). -/
import Derived.Test.YtggjomdndfacgaaGreatDoorTop
import Derived.Test.YtggjomdndfacgaaGreatDoorRunAll
namespace Go.Proofs.YtggjomdndfacgaaGreatDoor
/-- ████ THE CARD: TableIds ████ -/
theorem tableIds_holds : Rows.TableIdsCardSaid := tableIds.card ⟨AM.i_all, AM.known_run, AM.made_run, AM.r_all⟩
#print axioms tableIds_holds
end Go.Proofs.YtggjomdndfacgaaGreatDoor
