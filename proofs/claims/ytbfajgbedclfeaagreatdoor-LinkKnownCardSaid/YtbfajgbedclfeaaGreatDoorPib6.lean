/- Pieces of a long run. -/
import Derived.Test.YtbfajgbedclfeaaGreatDoorPibA
namespace Go.Vg
open Go Go.Proofs
set_option maxRecDepth 1000000
set_option maxHeartbeats 0
theorem kb_45 : loopK 63 fLb 10 sb_45 = some sb_46 := by kernel_rfl
theorem kb_46 : loopK 63 fLb 10 sb_46 = some sb_47 := by kernel_rfl
theorem kb_47 : loopK 63 fLb 10 sb_47 = some sb_48 := by kernel_rfl
theorem kb_48 : loopK 63 fLb 10 sb_48 = some sb_49 := by kernel_rfl
theorem kb_49 : loopK 63 fLb 10 sb_49 = some sb_50 := by kernel_rfl
theorem kb_50 : loopK 63 fLb 10 sb_50 = some sb_51 := by kernel_rfl
theorem kb_51 : loopK 63 fLb 10 sb_51 = some sb_52 := by kernel_rfl
theorem kb_52 : loopK 63 fLb 10 sb_52 = some sb_53 := by kernel_rfl
theorem kb_53 : loopK 63 fLb 10 sb_53 = some sb_54 := by kernel_rfl
end Go.Vg
