/- Calls that have been run: layer 7. -/
import Derived.Test.YtehhddgeoekdlaaGreatDoorM6
namespace Go.Vg
open Go Go.Proofs
set_option maxRecDepth 1000000
set_option maxHeartbeats 0
def r7_4 : Row := ⟨4, .unit, (.pair .bool .unit), ([((), (true, ()))] : List (Unit × (Bool × Unit)))⟩
def rows7 : List Row := [r7_4]
theorem ok_r7_4 : okRows (pureKD Tryz.prog sigC 100000 ext6 40) [r7_4] = true := by kernel_rfl
def ext7 : PureT := firstR (extTab rows7) ext6
theorem ext7_ok : PureOk Tryz.prog (Gt Tryz.prog) ext7 := layer_ok gmono mixed enterSig ext6_ok 100000 40 (okRows_cons' ok_r7_4 (rfl))
end Go.Vg
