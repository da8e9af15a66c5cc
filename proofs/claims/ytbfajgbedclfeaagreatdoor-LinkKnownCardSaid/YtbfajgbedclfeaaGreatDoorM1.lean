/- Calls that have been run: part 1. -/
import Derived.Test.YtbfajgbedclfeaaGreatDoorExt
namespace Go.Vg
open Go Go.Proofs
set_option maxRecDepth 1000000
set_option maxHeartbeats 0
theorem p0 : PureOk Tryz.prog (Gt Tryz.prog) (pureKD Tryz.prog sigC 100000 ext0 40) := pure_at gmono mixed enterSig ext0_ok 100000 40
def t1_18 : HTr (v32 × v11) := .leaf [((((.ofNat 1), ([], ())), ()), ((.ofNat 1), ((.ofNat 0), ()))),
 ((((.ofNat 3), ([], ())), ()), ((.ofNat 3), ((.ofNat 0), ()))),
 ((((.ofNat 4), ([], ())), ()), ((.ofNat 4), ((.ofNat 0), ())))]
theorem q1_18 : okH (pureKD Tryz.prog sigC 100000 ext0 40) 18 z32 z11 (t1_18 : HTr ((Ty.T z32) × (Ty.T z11))) = true := by kernel_rfl
end Go.Vg
