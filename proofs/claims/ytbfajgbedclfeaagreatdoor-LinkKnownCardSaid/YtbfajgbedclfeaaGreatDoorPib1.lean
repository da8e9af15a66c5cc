/- Pieces of a long run. -/
import Derived.Test.YtbfajgbedclfeaaGreatDoorPibA
namespace Go.Vg
open Go Go.Proofs
set_option maxRecDepth 1000000
set_option maxHeartbeats 0
theorem kb_0 : loopK 63 fLb 10 sb_0 = some sb_1 := by kernel_rfl
theorem kb_1 : loopK 63 fLb 10 sb_1 = some sb_2 := by kernel_rfl
theorem kb_2 : loopK 63 fLb 10 sb_2 = some sb_3 := by kernel_rfl
theorem kb_3 : loopK 63 fLb 10 sb_3 = some sb_4 := by kernel_rfl
theorem kb_4 : loopK 63 fLb 10 sb_4 = some sb_5 := by kernel_rfl
theorem kb_5 : loopK 63 fLb 10 sb_5 = some sb_6 := by kernel_rfl
theorem kb_6 : loopK 63 fLb 10 sb_6 = some sb_7 := by kernel_rfl
theorem kb_7 : loopK 63 fLb 10 sb_7 = some sb_8 := by kernel_rfl
theorem kb_8 : loopK 63 fLb 10 sb_8 = some sb_9 := by kernel_rfl
end Go.Vg
