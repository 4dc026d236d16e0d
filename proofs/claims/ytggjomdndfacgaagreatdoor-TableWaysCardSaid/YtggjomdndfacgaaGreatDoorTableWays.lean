/- PROVED: Rows.TableWaysCardSaid: consistorylaw12.TableWays answers true for all its inputs, and the two lists read behind the call as they read before (the tied card; no condition beyond its own). -/
import Derived.Test.YtggjomdndfacgaaGreatDoorWm10
namespace Go.Proofs.YtggjomdndfacgaaGreatDoor
theorem tableWays_holds:Rows.TableWaysCardSaid:=tableWays.card
#print axioms tableWays_holds
end Go.Proofs.YtggjomdndfacgaaGreatDoor
