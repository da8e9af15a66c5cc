/- Pieces of a long run. -/
import Derived.Test.YtoibdlakkekkeaaGreatDoorPiA
namespace Go.Vg
open Go Go.Proofs
set_option maxRecDepth 1000000
set_option maxHeartbeats 0
theorem k_10 : loopK 1802 fL 25 s_10 = some s_11 := by kernel_rfl
theorem k_11 : loopK 1802 fL 25 s_11 = some s_12 := by kernel_rfl
theorem k_12 : loopK 1802 fL 25 s_12 = some s_13 := by kernel_rfl
theorem k_13 : loopK 1802 fL 25 s_13 = some s_14 := by kernel_rfl
theorem k_14 : loopK 1802 fL 25 s_14 = some s_15 := by kernel_rfl
end Go.Vg
