/- Calls that have been run: layer 3. -/
import Derived.Test.YtjfhagjpcdjjkabGreatDoorM2
namespace Go.Vg
open Go Go.Proofs
set_option maxRecDepth 1000000
set_option maxHeartbeats 0
def r3_44 : Row := ⟨44, (.pair (.pair .str (.pair .str .unit)) .unit), (.pair (.pair (.pair (.sl (.int .u32)) (.pair .bool .unit)) (.pair (.sl (.int .u32)) .unit)) (.pair .bool .unit)), ([((([48], ([49], ())), ()), ((([], (false, ())), ([(.ofNat 1)], ())), (true, ())))] : List (((List UInt8 × (List UInt8 × Unit)) × Unit) × (((List Int × (Bool × Unit)) × (List Int × Unit)) × (Bool × Unit))))⟩
def rows3 : List Row := [r3_44]
theorem ok_r3_44 : okRows (pureKD Tryz.prog sigC 100000 ext2 40) [r3_44] = true := by kernel_rfl
def ext3 : PureT := firstR (extTab rows3) ext2
theorem ext3_ok : PureOk Tryz.prog (Gt Tryz.prog) ext3 := layer_ok gmono mixed enterSig ext2_ok 100000 40 (okRows_cons' ok_r3_44 (rfl))
end Go.Vg
