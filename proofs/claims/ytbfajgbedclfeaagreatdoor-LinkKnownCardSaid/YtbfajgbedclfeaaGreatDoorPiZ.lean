/- A long run put together. -/
import Derived.Test.YtbfajgbedclfeaaGreatDoorPi1
import Derived.Test.YtbfajgbedclfeaaGreatDoorPi2
namespace Go.Vg
open Go Go.Proofs
set_option maxRecDepth 1000000
set_option maxHeartbeats 0
theorem lp_8 : loopN 65 fL 98000 s_8 = loopN 65 fL 98000 s_8 := rfl
theorem lp_7 : loopN 65 fL 98250 s_7 = loopN 65 fL 98000 s_8 := loop_cut lp_8 k_7 rfl
theorem lp_6 : loopN 65 fL 98500 s_6 = loopN 65 fL 98000 s_8 := loop_cut lp_7 k_6 rfl
theorem lp_5 : loopN 65 fL 98750 s_5 = loopN 65 fL 98000 s_8 := loop_cut lp_6 k_5 rfl
theorem lp_4 : loopN 65 fL 99000 s_4 = loopN 65 fL 98000 s_8 := loop_cut lp_5 k_4 rfl
theorem lp_3 : loopN 65 fL 99250 s_3 = loopN 65 fL 98000 s_8 := loop_cut lp_4 k_3 rfl
theorem lp_2 : loopN 65 fL 99500 s_2 = loopN 65 fL 98000 s_8 := loop_cut lp_3 k_2 rfl
theorem lp_1 : loopN 65 fL 99750 s_1 = loopN 65 fL 98000 s_8 := loop_cut lp_2 k_1 rfl
theorem lp_0 : loopN 65 fL 100000 s_0 = loopN 65 fL 98000 s_8 := loop_cut lp_1 k_0 rfl
theorem preO : preP Tryz.prog sigC (pureKD Tryz.prog sigC 100000 ext0 39) (enterKD Tryz.prog sigC 100000 ext0 39) 100000 none [true, true, true, true, false, true, false] fO.2 { slots := numbered 0 (argAVs (.pair (.pair (.sl (.int .i64)) (.pair (.int .i64) (.pair (.sl (.int .i64)) .unit))) .unit) zO), H := [], next := 0, n := fO.1.ntmps } = some s_0 := by kernel_rfl
theorem endO : finP Tryz.prog fO.1 (.pair (.int .i64) .unit) (behP Tryz.prog sigC (pureKD Tryz.prog sigC 100000 ext0 39) (enterKD Tryz.prog sigC 100000 ext0 39) 100000 none [true, true, true, true, false, true, false] fO.2 (loopN 65 fL 98000 s_8)) = some (yO : Ty.T (.pair (.int .i64) .unit)) := by kernel_rfl
theorem runO : pureK Tryz.prog sigC (pureKD Tryz.prog sigC 100000 ext0 39) (enterKD Tryz.prog sigC 100000 ext0 39) 100000 29 (.pair (.pair (.sl (.int .i64)) (.pair (.int .i64) (.pair (.sl (.int .i64)) .unit))) .unit) (.pair (.int .i64) .unit) (zO : Ty.T (.pair (.pair (.sl (.int .i64)) (.pair (.int .i64) (.pair (.sl (.int .i64)) .unit))) .unit)) = some (yO : Ty.T (.pair (.int .i64) .unit)) :=
  pure_cut (p := [true, true, true, true, false, true, false]) hfO (by kernel_rfl) preO hsO (loopK_run lp_0) endO
end Go.Vg
