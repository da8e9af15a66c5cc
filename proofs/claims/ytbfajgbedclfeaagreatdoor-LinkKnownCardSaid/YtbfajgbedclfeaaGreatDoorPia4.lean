/- Pieces of a long run. -/
import Derived.Test.YtbfajgbedclfeaaGreatDoorPiaA
namespace Go.Vg
open Go Go.Proofs
set_option maxRecDepth 1000000
set_option maxHeartbeats 0
theorem ka_54 : loopK 63 fLa 10 sa_54 = some sa_55 := by kernel_rfl
theorem ka_55 : loopK 63 fLa 10 sa_55 = some sa_56 := by kernel_rfl
theorem ka_56 : loopK 63 fLa 10 sa_56 = some sa_57 := by kernel_rfl
theorem ka_57 : loopK 63 fLa 10 sa_57 = some sa_58 := by kernel_rfl
theorem ka_58 : loopK 63 fLa 10 sa_58 = some sa_59 := by kernel_rfl
theorem ka_59 : loopK 63 fLa 10 sa_59 = some sa_60 := by kernel_rfl
theorem ka_60 : loopK 63 fLa 10 sa_60 = some sa_61 := by kernel_rfl
theorem ka_61 : loopK 63 fLa 10 sa_61 = some sa_62 := by kernel_rfl
theorem ka_62 : loopK 63 fLa 10 sa_62 = some sa_63 := by kernel_rfl
theorem ka_63 : loopK 63 fLa 10 sa_63 = some sa_64 := by kernel_rfl
theorem ka_64 : loopK 63 fLa 10 sa_64 = some sa_65 := by kernel_rfl
theorem ka_65 : loopK 63 fLa 10 sa_65 = some sa_66 := by kernel_rfl
theorem ka_66 : loopK 63 fLa 10 sa_66 = some sa_67 := by kernel_rfl
theorem ka_67 : loopK 63 fLa 10 sa_67 = some sa_68 := by kernel_rfl
theorem ka_68 : loopK 63 fLa 10 sa_68 = some sa_69 := by kernel_rfl
theorem ka_69 : loopK 63 fLa 10 sa_69 = some sa_70 := by kernel_rfl
theorem ka_70 : loopK 63 fLa 10 sa_70 = some sa_71 := by kernel_rfl
theorem ka_71 : loopK 63 fLa 10 sa_71 = some sa_72 := by kernel_rfl
end Go.Vg
