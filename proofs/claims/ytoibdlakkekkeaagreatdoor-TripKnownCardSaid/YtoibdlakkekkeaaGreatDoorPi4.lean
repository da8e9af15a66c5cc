/- Pieces of a long run. -/
import Derived.Test.YtoibdlakkekkeaaGreatDoorPiA
namespace Go.Vg
open Go Go.Proofs
set_option maxRecDepth 1000000
set_option maxHeartbeats 0
theorem k_15 : loopK 1802 fL 25 s_15 = some s_16 := by kernel_rfl
theorem k_16 : loopK 1802 fL 25 s_16 = some s_17 := by kernel_rfl
theorem k_17 : loopK 1802 fL 25 s_17 = some s_18 := by kernel_rfl
theorem k_18 : loopK 1802 fL 25 s_18 = some s_19 := by kernel_rfl
theorem k_19 : loopK 1802 fL 25 s_19 = some s_20 := by kernel_rfl
end Go.Vg
