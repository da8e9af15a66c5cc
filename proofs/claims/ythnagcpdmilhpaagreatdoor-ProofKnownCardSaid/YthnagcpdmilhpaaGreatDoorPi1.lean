/- Pieces of a long run. -/
import Derived.Test.YthnagcpdmilhpaaGreatDoorPiA
namespace Go.Vg
open Go Go.Proofs
set_option maxRecDepth 1000000
set_option maxHeartbeats 0
theorem k_0 : loopK 4267 fL 2 s_0 = some s_1 := by kernel_rfl
end Go.Vg
