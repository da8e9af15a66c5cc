/- Pieces of a long run. -/
import Derived.Test.YtbfajgbedclfeaaGreatDoorPibA
namespace Go.Vg
open Go Go.Proofs
set_option maxRecDepth 1000000
set_option maxHeartbeats 0
theorem kb_54 : loopK 63 fLb 10 sb_54 = some sb_55 := by kernel_rfl
theorem kb_55 : loopK 63 fLb 10 sb_55 = some sb_56 := by kernel_rfl
theorem kb_56 : loopK 63 fLb 10 sb_56 = some sb_57 := by kernel_rfl
theorem kb_57 : loopK 63 fLb 10 sb_57 = some sb_58 := by kernel_rfl
theorem kb_58 : loopK 63 fLb 10 sb_58 = some sb_59 := by kernel_rfl
theorem kb_59 : loopK 63 fLb 10 sb_59 = some sb_60 := by kernel_rfl
theorem kb_60 : loopK 63 fLb 10 sb_60 = some sb_61 := by kernel_rfl
theorem kb_61 : loopK 63 fLb 10 sb_61 = some sb_62 := by kernel_rfl
theorem kb_62 : loopK 63 fLb 10 sb_62 = some sb_63 := by kernel_rfl
end Go.Vg
