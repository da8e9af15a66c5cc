/- Calls that have been run: layer 11. -/
import Derived.Test.YtbdojimkdgajgaaGreatDoorM10
namespace Go.Vg
open Go Go.Proofs
set_option maxRecDepth 1000000
set_option maxHeartbeats 0
def r11_4 : Row := ⟨4, .unit, (.pair .bool .unit), ([((), (true, ()))] : List (Unit × (Bool × Unit)))⟩
def rows11 : List Row := [r11_4]
theorem ok_r11_4 : okRows (pureKD Tryz.prog sigC 100000 ext10 40) [r11_4] = true := by kernel_rfl
def ext11 : PureT := firstR (extTab rows11) ext10
theorem ext11_ok : PureOk Tryz.prog (Gt Tryz.prog) ext11 := layer_ok gmono mixed enterSig ext10_ok 100000 40 (okRows_cons' ok_r11_4 (rfl))
end Go.Vg
