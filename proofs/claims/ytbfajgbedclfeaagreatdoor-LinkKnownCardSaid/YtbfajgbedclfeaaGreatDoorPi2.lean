/- Pieces of a long run. -/
import Derived.Test.YtbfajgbedclfeaaGreatDoorPiA
namespace Go.Vg
open Go Go.Proofs
set_option maxRecDepth 1000000
set_option maxHeartbeats 0
theorem k_4 : loopK 65 fL 250 s_4 = some s_5 := by kernel_rfl
theorem k_5 : loopK 65 fL 250 s_5 = some s_6 := by kernel_rfl
theorem k_6 : loopK 65 fL 250 s_6 = some s_7 := by kernel_rfl
theorem k_7 : loopK 65 fL 250 s_7 = some s_8 := by kernel_rfl
end Go.Vg
