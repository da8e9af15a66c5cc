/- A long run put together. -/
import Derived.Test.YthnagcpdmilhpaaGreatDoorPi1
import Derived.Test.YthnagcpdmilhpaaGreatDoorPi2
import Derived.Test.YthnagcpdmilhpaaGreatDoorPi3
import Derived.Test.YthnagcpdmilhpaaGreatDoorPi4
import Derived.Test.YthnagcpdmilhpaaGreatDoorPi5
namespace Go.Vg
open Go Go.Proofs
set_option maxRecDepth 1000000
set_option maxHeartbeats 0
theorem lp_5 : loopN 4267 fL 99990 s_5 = loopN 4267 fL 99990 s_5 := rfl
theorem lp_4 : loopN 4267 fL 99992 s_4 = loopN 4267 fL 99990 s_5 := loop_cut lp_5 k_4 rfl
theorem lp_3 : loopN 4267 fL 99994 s_3 = loopN 4267 fL 99990 s_5 := loop_cut lp_4 k_3 rfl
theorem lp_2 : loopN 4267 fL 99996 s_2 = loopN 4267 fL 99990 s_5 := loop_cut lp_3 k_2 rfl
theorem lp_1 : loopN 4267 fL 99998 s_1 = loopN 4267 fL 99990 s_5 := loop_cut lp_2 k_1 rfl
theorem lp_0 : loopN 4267 fL 100000 s_0 = loopN 4267 fL 99990 s_5 := loop_cut lp_1 k_0 rfl
theorem preO : preP Tryz.prog sigC (pureKD Tryz.prog sigC 100000 ext10 39) (enterKD Tryz.prog sigC 100000 ext10 39) 100000 none [true, true, true, true, true, true, true, true, true, true, true, true, true, true, true, true, true, true, true, true, true, true, true, true, true, true, true, true, true, true, true, false, true, false] fO.2 { slots := numbered 0 (argAVs .unit zO), H := [], next := 0, n := fO.1.ntmps } = some s_0 := by kernel_rfl
theorem endO : finP Tryz.prog fO.1 (.pair .bool .unit) (behP Tryz.prog sigC (pureKD Tryz.prog sigC 100000 ext10 39) (enterKD Tryz.prog sigC 100000 ext10 39) 100000 none [true, true, true, true, true, true, true, true, true, true, true, true, true, true, true, true, true, true, true, true, true, true, true, true, true, true, true, true, true, true, true, false, true, false] fO.2 (loopN 4267 fL 99990 s_5)) = some (yO : Ty.T (.pair .bool .unit)) := by kernel_rfl
theorem runO : pureK Tryz.prog sigC (pureKD Tryz.prog sigC 100000 ext10 39) (enterKD Tryz.prog sigC 100000 ext10 39) 100000 3 .unit (.pair .bool .unit) (zO : Ty.T .unit) = some (yO : Ty.T (.pair .bool .unit)) :=
  pure_cut (p := [true, true, true, true, true, true, true, true, true, true, true, true, true, true, true, true, true, true, true, true, true, true, true, true, true, true, true, true, true, true, true, false, true, false]) hfO (by kernel_rfl) preO hsO (loopK_run lp_0) endO
end Go.Vg
