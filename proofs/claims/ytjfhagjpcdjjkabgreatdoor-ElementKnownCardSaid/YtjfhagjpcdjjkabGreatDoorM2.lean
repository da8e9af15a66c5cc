/- Calls that have been run: layer 2. -/
import Derived.Test.YtjfhagjpcdjjkabGreatDoorM1
namespace Go.Vg
open Go Go.Proofs
set_option maxRecDepth 1000000
set_option maxHeartbeats 0
def r2_75 : Row := ⟨75, (.pair .str .unit), (.pair (.int .i64) .unit), ([(([48], ()), ((.ofNat 0), ()))] : List ((List UInt8 × Unit) × (Int × Unit)))⟩
def r2_76 : Row := ⟨76, (.pair .str .unit), (.pair (.pair (.sl (.int .u32)) (.pair .bool .unit)) .unit), ([(([48], ()), (([], (false, ())), ()))] : List ((List UInt8 × Unit) × ((List Int × (Bool × Unit)) × Unit)))⟩
def rows2 : List Row := [r2_75, r2_76]
theorem ok_r2_75 : okRows (pureKD Tryz.prog sigC 100000 ext1 40) [r2_75] = true := by kernel_rfl
theorem ok_r2_76 : okRows (pureKD Tryz.prog sigC 100000 ext1 40) [r2_76] = true := by kernel_rfl
def ext2 : PureT := firstR (extTab rows2) ext1
theorem ext2_ok : PureOk Tryz.prog (Gt Tryz.prog) ext2 := layer_ok gmono mixed enterSig ext1_ok 100000 40 (okRows_cons' ok_r2_75 (okRows_cons' ok_r2_76 (rfl)))
end Go.Vg
