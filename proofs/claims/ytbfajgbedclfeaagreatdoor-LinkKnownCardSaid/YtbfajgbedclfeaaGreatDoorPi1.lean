/- Pieces of a long run. -/
import Derived.Test.YtbfajgbedclfeaaGreatDoorPiA
namespace Go.Vg
open Go Go.Proofs
set_option maxRecDepth 1000000
set_option maxHeartbeats 0
theorem k_0 : loopK 65 fL 250 s_0 = some s_1 := by kernel_rfl
theorem k_1 : loopK 65 fL 250 s_1 = some s_2 := by kernel_rfl
theorem k_2 : loopK 65 fL 250 s_2 = some s_3 := by kernel_rfl
theorem k_3 : loopK 65 fL 250 s_3 = some s_4 := by kernel_rfl
end Go.Vg
