/- Pieces of a long run. -/
import Derived.Test.YthnagcpdmilhpaaGreatDoorPiA
namespace Go.Vg
open Go Go.Proofs
set_option maxRecDepth 1000000
set_option maxHeartbeats 0
theorem k_2 : loopK 4267 fL 2 s_2 = some s_3 := by kernel_rfl
end Go.Vg
