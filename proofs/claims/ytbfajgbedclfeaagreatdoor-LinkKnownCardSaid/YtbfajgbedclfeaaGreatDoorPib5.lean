/- Pieces of a long run. -/
import Derived.Test.YtbfajgbedclfeaaGreatDoorPibA
namespace Go.Vg
open Go Go.Proofs
set_option maxRecDepth 1000000
set_option maxHeartbeats 0
theorem kb_36 : loopK 63 fLb 10 sb_36 = some sb_37 := by kernel_rfl
theorem kb_37 : loopK 63 fLb 10 sb_37 = some sb_38 := by kernel_rfl
theorem kb_38 : loopK 63 fLb 10 sb_38 = some sb_39 := by kernel_rfl
theorem kb_39 : loopK 63 fLb 10 sb_39 = some sb_40 := by kernel_rfl
theorem kb_40 : loopK 63 fLb 10 sb_40 = some sb_41 := by kernel_rfl
theorem kb_41 : loopK 63 fLb 10 sb_41 = some sb_42 := by kernel_rfl
theorem kb_42 : loopK 63 fLb 10 sb_42 = some sb_43 := by kernel_rfl
theorem kb_43 : loopK 63 fLb 10 sb_43 = some sb_44 := by kernel_rfl
theorem kb_44 : loopK 63 fLb 10 sb_44 = some sb_45 := by kernel_rfl
end Go.Vg
