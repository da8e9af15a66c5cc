/- Pieces of a long run. -/
import Derived.Test.YtbfajgbedclfeaaGreatDoorPiaA
namespace Go.Vg
open Go Go.Proofs
set_option maxRecDepth 1000000
set_option maxHeartbeats 0
theorem ka_36 : loopK 63 fLa 10 sa_36 = some sa_37 := by kernel_rfl
theorem ka_37 : loopK 63 fLa 10 sa_37 = some sa_38 := by kernel_rfl
theorem ka_38 : loopK 63 fLa 10 sa_38 = some sa_39 := by kernel_rfl
theorem ka_39 : loopK 63 fLa 10 sa_39 = some sa_40 := by kernel_rfl
theorem ka_40 : loopK 63 fLa 10 sa_40 = some sa_41 := by kernel_rfl
theorem ka_41 : loopK 63 fLa 10 sa_41 = some sa_42 := by kernel_rfl
theorem ka_42 : loopK 63 fLa 10 sa_42 = some sa_43 := by kernel_rfl
theorem ka_43 : loopK 63 fLa 10 sa_43 = some sa_44 := by kernel_rfl
theorem ka_44 : loopK 63 fLa 10 sa_44 = some sa_45 := by kernel_rfl
theorem ka_45 : loopK 63 fLa 10 sa_45 = some sa_46 := by kernel_rfl
theorem ka_46 : loopK 63 fLa 10 sa_46 = some sa_47 := by kernel_rfl
theorem ka_47 : loopK 63 fLa 10 sa_47 = some sa_48 := by kernel_rfl
theorem ka_48 : loopK 63 fLa 10 sa_48 = some sa_49 := by kernel_rfl
theorem ka_49 : loopK 63 fLa 10 sa_49 = some sa_50 := by kernel_rfl
theorem ka_50 : loopK 63 fLa 10 sa_50 = some sa_51 := by kernel_rfl
theorem ka_51 : loopK 63 fLa 10 sa_51 = some sa_52 := by kernel_rfl
theorem ka_52 : loopK 63 fLa 10 sa_52 = some sa_53 := by kernel_rfl
theorem ka_53 : loopK 63 fLa 10 sa_53 = some sa_54 := by kernel_rfl
end Go.Vg
