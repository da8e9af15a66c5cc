/- Pieces of a long run. -/
import Derived.Test.YtbfajgbedclfeaaGreatDoorPibA
namespace Go.Vg
open Go Go.Proofs
set_option maxRecDepth 1000000
set_option maxHeartbeats 0
theorem kb_63 : loopK 63 fLb 10 sb_63 = some sb_64 := by kernel_rfl
theorem kb_64 : loopK 63 fLb 10 sb_64 = some sb_65 := by kernel_rfl
theorem kb_65 : loopK 63 fLb 10 sb_65 = some sb_66 := by kernel_rfl
theorem kb_66 : loopK 63 fLb 10 sb_66 = some sb_67 := by kernel_rfl
theorem kb_67 : loopK 63 fLb 10 sb_67 = some sb_68 := by kernel_rfl
theorem kb_68 : loopK 63 fLb 10 sb_68 = some sb_69 := by kernel_rfl
theorem kb_69 : loopK 63 fLb 10 sb_69 = some sb_70 := by kernel_rfl
theorem kb_70 : loopK 63 fLb 10 sb_70 = some sb_71 := by kernel_rfl
theorem kb_71 : loopK 63 fLb 10 sb_71 = some sb_72 := by kernel_rfl
end Go.Vg
