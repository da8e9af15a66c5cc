/- Pieces of a long run. -/
import Derived.Test.YtoibdlakkekkeaaGreatDoorPiA
namespace Go.Vg
open Go Go.Proofs
set_option maxRecDepth 1000000
set_option maxHeartbeats 0
theorem k_20 : loopK 1802 fL 25 s_20 = some s_21 := by kernel_rfl
theorem k_21 : loopK 1802 fL 25 s_21 = some s_22 := by kernel_rfl
theorem k_22 : loopK 1802 fL 25 s_22 = some s_23 := by kernel_rfl
theorem k_23 : loopK 1802 fL 25 s_23 = some s_24 := by kernel_rfl
theorem k_24 : loopK 1802 fL 25 s_24 = some s_25 := by kernel_rfl
end Go.Vg
