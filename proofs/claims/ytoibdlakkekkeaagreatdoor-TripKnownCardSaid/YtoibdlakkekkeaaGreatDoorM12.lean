/- Calls that have been run: part 12. -/
import Derived.Test.YtoibdlakkekkeaaGreatDoorM11
namespace Go.Vg
open Go Go.Proofs
set_option maxRecDepth 1000000
set_option maxHeartbeats 0
theorem p6 : PureOk Tryz.prog (Gt Tryz.prog) (pureKD Tryz.prog sigC 100000 ext6 40) := pure_at gmono mixed enterSig ext6_ok 100000 40
end Go.Vg
