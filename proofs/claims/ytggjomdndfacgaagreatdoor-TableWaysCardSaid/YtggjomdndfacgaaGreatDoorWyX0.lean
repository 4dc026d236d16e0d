/- Closed runs of the abstract machine, for TableWays. -/
import Derived.Test.YtggjomdndfacgaaGreatDoorWm6
import Derived.Test.YtggjomdndfacgaaGreatDoorWm4
namespace Go.AM
set_option maxRecDepth 100000
theorem wxC_15:[(44,5),(20,1),(20,0),(19,1),(19,0),(18,1),(18,0),(17,1),(17,0),(22,2),(29,3),(16,1),(16,0)].all (al2 wxC)=true:=by kernel_rfl
theorem wxC_6:[(42,0),(41,4),(41,3),(41,2),(41,1),(41,0),(40,4),(40,3)].all (al2 wxC)=true:=by kernel_rfl
theorem wxC_10:[(35,0),(34,3),(34,2),(34,1),(34,0),(33,3),(33,2),(33,1),(33,0)].all (al2 wxC)=true:=by kernel_rfl
theorem wxC_16:[(36,4),(15,1),(15,0),(14,0),(13,0),(12,0),(43,5),(11,0),(21,2),(28,3),(10,0),(14,1),(9,0),(8,0),(35,4)].all (al2 wxC)=true:=by kernel_rfl
theorem wxC_1:[(48,4),(48,3),(48,2),(48,1),(48,0),(47,5),(47,4)].all (al2 wxC)=true:=by kernel_rfl
theorem wxC_11:[(32,3),(32,2),(32,1),(32,0),(31,3),(31,2),(31,1),(31,0),(38,4)].all (al2 wxC)=true:=by kernel_rfl
theorem wxC_8:[(38,3),(38,2),(38,1),(38,0),(46,5),(37,3),(37,2),(37,1)].all (al2 wxC)=true:=by kernel_rfl
theorem wxC_9:[(37,0),(36,3),(36,2),(36,1),(36,0),(35,3),(35,2),(35,1)].all (al2 wxC)=true:=by kernel_rfl
theorem wxC_4:[(44,4),(44,3),(44,2),(44,1),(44,0),(43,4),(43,3)].all (al2 wxC)=true:=by kernel_rfl
theorem wxC_18:[(12,2),(11,6),(11,5),(11,4),(11,3),(11,2),(10,6),(10,5),(10,4),(10,3),(10,2),(9,6),(9,5),(9,4),(9,3),(9,2),(8,6),(8,5),(8,4),(8,3),(8,2),(7,6),(7,5),(7,4),(7,3),(7,2),(7,1),(6,6),(6,5),(6,4),(6,3),(6,2),(6,1),(5,6),(5,5),(5,4),(5,3),(5,2),(5,1),(4,6),(4,5),(4,4),(4,3),(4,2),(4,1),(3,6),(3,5),(3,4),(3,3),(3,2),(3,1),(2,6),(2,5),(2,4),(2,3),(2,2),(2,1),(1,6),(1,5),(1,4),(1,3),(1,2),(1,1),(0,6),(0,5),(0,4),(0,3),(0,2),(0,1)].all (al2 wxC)=true:=by kernel_rfl
end Go.AM
