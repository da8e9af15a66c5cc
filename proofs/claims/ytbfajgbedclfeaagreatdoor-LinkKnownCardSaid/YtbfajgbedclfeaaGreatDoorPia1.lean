/- Pieces of a long run. -/
import Derived.Test.YtbfajgbedclfeaaGreatDoorPiaA
namespace Go.Vg
open Go Go.Proofs
set_option maxRecDepth 1000000
set_option maxHeartbeats 0
theorem ka_0 : loopK 63 fLa 10 sa_0 = some sa_1 := by kernel_rfl
theorem ka_1 : loopK 63 fLa 10 sa_1 = some sa_2 := by kernel_rfl
theorem ka_2 : loopK 63 fLa 10 sa_2 = some sa_3 := by kernel_rfl
theorem ka_3 : loopK 63 fLa 10 sa_3 = some sa_4 := by kernel_rfl
theorem ka_4 : loopK 63 fLa 10 sa_4 = some sa_5 := by kernel_rfl
theorem ka_5 : loopK 63 fLa 10 sa_5 = some sa_6 := by kernel_rfl
theorem ka_6 : loopK 63 fLa 10 sa_6 = some sa_7 := by kernel_rfl
theorem ka_7 : loopK 63 fLa 10 sa_7 = some sa_8 := by kernel_rfl
theorem ka_8 : loopK 63 fLa 10 sa_8 = some sa_9 := by kernel_rfl
theorem ka_9 : loopK 63 fLa 10 sa_9 = some sa_10 := by kernel_rfl
theorem ka_10 : loopK 63 fLa 10 sa_10 = some sa_11 := by kernel_rfl
theorem ka_11 : loopK 63 fLa 10 sa_11 = some sa_12 := by kernel_rfl
theorem ka_12 : loopK 63 fLa 10 sa_12 = some sa_13 := by kernel_rfl
theorem ka_13 : loopK 63 fLa 10 sa_13 = some sa_14 := by kernel_rfl
theorem ka_14 : loopK 63 fLa 10 sa_14 = some sa_15 := by kernel_rfl
theorem ka_15 : loopK 63 fLa 10 sa_15 = some sa_16 := by kernel_rfl
theorem ka_16 : loopK 63 fLa 10 sa_16 = some sa_17 := by kernel_rfl
theorem ka_17 : loopK 63 fLa 10 sa_17 = some sa_18 := by kernel_rfl
end Go.Vg
