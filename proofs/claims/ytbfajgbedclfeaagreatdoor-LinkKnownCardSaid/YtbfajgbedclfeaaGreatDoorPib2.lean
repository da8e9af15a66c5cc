/- Pieces of a long run. -/
import Derived.Test.YtbfajgbedclfeaaGreatDoorPibA
namespace Go.Vg
open Go Go.Proofs
set_option maxRecDepth 1000000
set_option maxHeartbeats 0
theorem kb_9 : loopK 63 fLb 10 sb_9 = some sb_10 := by kernel_rfl
theorem kb_10 : loopK 63 fLb 10 sb_10 = some sb_11 := by kernel_rfl
theorem kb_11 : loopK 63 fLb 10 sb_11 = some sb_12 := by kernel_rfl
theorem kb_12 : loopK 63 fLb 10 sb_12 = some sb_13 := by kernel_rfl
theorem kb_13 : loopK 63 fLb 10 sb_13 = some sb_14 := by kernel_rfl
theorem kb_14 : loopK 63 fLb 10 sb_14 = some sb_15 := by kernel_rfl
theorem kb_15 : loopK 63 fLb 10 sb_15 = some sb_16 := by kernel_rfl
theorem kb_16 : loopK 63 fLb 10 sb_16 = some sb_17 := by kernel_rfl
theorem kb_17 : loopK 63 fLb 10 sb_17 = some sb_18 := by kernel_rfl
end Go.Vg
