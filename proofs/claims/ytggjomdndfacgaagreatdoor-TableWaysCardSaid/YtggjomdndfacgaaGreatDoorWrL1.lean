/- Closed runs of the abstract machine, for TableWays. -/
import Derived.Test.YtggjomdndfacgaaGreatDoorWm7
import Derived.Test.YtggjomdndfacgaaGreatDoorWm4
namespace Go.AM
set_option maxRecDepth 100000
theorem lkC_13:[(16,0),(36,4),(22,2),(15,0),(14,0),(43,5),(13,0),(15,1),(28,3),(12,0),(21,2),(11,0),(35,4),(10,0),(50,6),(14,1),(9,0),(20,2),(8,0),(27,3),(42,5),(13,1),(7,0),(34,4),(19,2),(12,1),(6,0),(26,3),(49,6),(41,5),(11,1),(5,0),(18,2),(33,4),(4,0),(25,3)].all (al2 lkC)=true:=by kernel_rfl
theorem lkC_8:[(36,3),(36,2),(36,1),(36,0),(35,3),(35,2),(35,1),(35,0),(34,3),(34,2),(34,1)].all (al2 lkC)=true:=by kernel_rfl
theorem lkC_12:[(22,1),(22,0),(37,4),(30,3),(21,1),(21,0),(20,1),(20,0),(44,5),(23,2),(19,1),(19,0),(18,1),(18,0),(17,1),(17,0),(29,3),(16,1)].all (al2 lkC)=true:=by kernel_rfl
theorem lkC_2:[(48,1),(48,0),(47,4),(47,3),(47,2),(47,1),(47,0),(46,4)].all (al2 lkC)=true:=by kernel_rfl
end Go.AM
