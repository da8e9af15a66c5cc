/- Calls that have been run: part 12. -/
import Derived.Test.YtbfajgbedclfeaaGreatDoorM11
namespace Go.Vg
open Go Go.Proofs
set_option maxRecDepth 1000000
set_option maxHeartbeats 0
theorem p5 : PureOk Tryz.prog (Gt Tryz.prog) (pureKD Tryz.prog sigC 100000 ext5 40) := pure_at gmono mixed enterSig ext5_ok 100000 40
end Go.Vg
