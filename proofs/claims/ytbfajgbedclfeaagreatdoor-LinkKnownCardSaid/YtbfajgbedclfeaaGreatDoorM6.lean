/- Calls that have been run: part 6. -/
import Derived.Test.YtbfajgbedclfeaaGreatDoorM5
namespace Go.Vg
open Go Go.Proofs
set_option maxRecDepth 1000000
set_option maxHeartbeats 0
theorem p4 : PureOk Tryz.prog (Gt Tryz.prog) (pureKD Tryz.prog sigC 100000 ext4 40) := pure_at gmono mixed enterSig ext4_ok 100000 40
end Go.Vg
