/- PROVED: Rows.TableUniqueCardSaid: consistorylaw12.TableUnique answers true for every list of bytes, and the list reads behind the call as it read before (the tied card; no condition beyond its own). -/
import Derived.Test.YtggjomdndfacgaaGreatDoorUTop
namespace Go.Proofs.YtggjomdndfacgaaGreatDoor
/-- ████ THE CARD: TableUnique ████ -/
theorem tableUnique_holds : Rows.TableUniqueCardSaid := tableUnique.card
#print axioms tableUnique_holds
end Go.Proofs.YtggjomdndfacgaaGreatDoor
