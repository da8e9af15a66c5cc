/- Pieces of a long run. -/
import Derived.Test.YtbfajgbedclfeaaGreatDoorPibA
namespace Go.Vg
open Go Go.Proofs
set_option maxRecDepth 1000000
set_option maxHeartbeats 0
theorem kb_27 : loopK 63 fLb 10 sb_27 = some sb_28 := by kernel_rfl
theorem kb_28 : loopK 63 fLb 10 sb_28 = some sb_29 := by kernel_rfl
theorem kb_29 : loopK 63 fLb 10 sb_29 = some sb_30 := by kernel_rfl
theorem kb_30 : loopK 63 fLb 10 sb_30 = some sb_31 := by kernel_rfl
theorem kb_31 : loopK 63 fLb 10 sb_31 = some sb_32 := by kernel_rfl
theorem kb_32 : loopK 63 fLb 10 sb_32 = some sb_33 := by kernel_rfl
theorem kb_33 : loopK 63 fLb 10 sb_33 = some sb_34 := by kernel_rfl
theorem kb_34 : loopK 63 fLb 10 sb_34 = some sb_35 := by kernel_rfl
theorem kb_35 : loopK 63 fLb 10 sb_35 = some sb_36 := by kernel_rfl
end Go.Vg
