/- Pieces of a long run. -/
import Derived.Test.YtbfajgbedclfeaaGreatDoorPibA
namespace Go.Vg
open Go Go.Proofs
set_option maxRecDepth 1000000
set_option maxHeartbeats 0
theorem kb_18 : loopK 63 fLb 10 sb_18 = some sb_19 := by kernel_rfl
theorem kb_19 : loopK 63 fLb 10 sb_19 = some sb_20 := by kernel_rfl
theorem kb_20 : loopK 63 fLb 10 sb_20 = some sb_21 := by kernel_rfl
theorem kb_21 : loopK 63 fLb 10 sb_21 = some sb_22 := by kernel_rfl
theorem kb_22 : loopK 63 fLb 10 sb_22 = some sb_23 := by kernel_rfl
theorem kb_23 : loopK 63 fLb 10 sb_23 = some sb_24 := by kernel_rfl
theorem kb_24 : loopK 63 fLb 10 sb_24 = some sb_25 := by kernel_rfl
theorem kb_25 : loopK 63 fLb 10 sb_25 = some sb_26 := by kernel_rfl
theorem kb_26 : loopK 63 fLb 10 sb_26 = some sb_27 := by kernel_rfl
end Go.Vg
