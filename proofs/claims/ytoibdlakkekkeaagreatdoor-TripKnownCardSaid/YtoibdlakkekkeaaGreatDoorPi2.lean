/- Pieces of a long run. -/
import Derived.Test.YtoibdlakkekkeaaGreatDoorPiA
namespace Go.Vg
open Go Go.Proofs
set_option maxRecDepth 1000000
set_option maxHeartbeats 0
theorem k_5 : loopK 1802 fL 25 s_5 = some s_6 := by kernel_rfl
theorem k_6 : loopK 1802 fL 25 s_6 = some s_7 := by kernel_rfl
theorem k_7 : loopK 1802 fL 25 s_7 = some s_8 := by kernel_rfl
theorem k_8 : loopK 1802 fL 25 s_8 = some s_9 := by kernel_rfl
theorem k_9 : loopK 1802 fL 25 s_9 = some s_10 := by kernel_rfl
end Go.Vg
