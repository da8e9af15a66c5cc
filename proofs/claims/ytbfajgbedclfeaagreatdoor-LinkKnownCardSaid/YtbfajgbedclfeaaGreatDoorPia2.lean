/- Pieces of a long run. -/
import Derived.Test.YtbfajgbedclfeaaGreatDoorPiaA
namespace Go.Vg
open Go Go.Proofs
set_option maxRecDepth 1000000
set_option maxHeartbeats 0
theorem ka_18 : loopK 63 fLa 10 sa_18 = some sa_19 := by kernel_rfl
theorem ka_19 : loopK 63 fLa 10 sa_19 = some sa_20 := by kernel_rfl
theorem ka_20 : loopK 63 fLa 10 sa_20 = some sa_21 := by kernel_rfl
theorem ka_21 : loopK 63 fLa 10 sa_21 = some sa_22 := by kernel_rfl
theorem ka_22 : loopK 63 fLa 10 sa_22 = some sa_23 := by kernel_rfl
theorem ka_23 : loopK 63 fLa 10 sa_23 = some sa_24 := by kernel_rfl
theorem ka_24 : loopK 63 fLa 10 sa_24 = some sa_25 := by kernel_rfl
theorem ka_25 : loopK 63 fLa 10 sa_25 = some sa_26 := by kernel_rfl
theorem ka_26 : loopK 63 fLa 10 sa_26 = some sa_27 := by kernel_rfl
theorem ka_27 : loopK 63 fLa 10 sa_27 = some sa_28 := by kernel_rfl
theorem ka_28 : loopK 63 fLa 10 sa_28 = some sa_29 := by kernel_rfl
theorem ka_29 : loopK 63 fLa 10 sa_29 = some sa_30 := by kernel_rfl
theorem ka_30 : loopK 63 fLa 10 sa_30 = some sa_31 := by kernel_rfl
theorem ka_31 : loopK 63 fLa 10 sa_31 = some sa_32 := by kernel_rfl
theorem ka_32 : loopK 63 fLa 10 sa_32 = some sa_33 := by kernel_rfl
theorem ka_33 : loopK 63 fLa 10 sa_33 = some sa_34 := by kernel_rfl
theorem ka_34 : loopK 63 fLa 10 sa_34 = some sa_35 := by kernel_rfl
theorem ka_35 : loopK 63 fLa 10 sa_35 = some sa_36 := by kernel_rfl
end Go.Vg
