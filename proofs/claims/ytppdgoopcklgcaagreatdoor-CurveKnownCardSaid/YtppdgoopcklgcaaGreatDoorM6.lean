/- Calls that have been run: layer 6. -/
import Derived.Test.YtppdgoopcklgcaaGreatDoorM5
namespace Go.Vg
open Go Go.Proofs
set_option maxRecDepth 1000000
set_option maxHeartbeats 0
def r6_58 : Row := ⟨58, (.pair (.pair (.pair (.int .i64) (.pair (.sl (.int .i64)) (.pair (.sl (.pair (.int .i64) (.pair (.int .i64) (.pair (.int .i64) (.pair (.int .i64) (.pair (.int .i64) (.pair (.int .i64) .unit))))))) .unit))) .unit) (.pair (.pair (.int .i64) (.pair (.int .i64) .unit)) .unit)), (.pair (.pair (.int .i64) (.pair (.int .i64) .unit)) (.pair (.int .i64) .unit)), ([(((((.ofNat 2), ([(.ofNat 0), (.ofNat 65535), (.ofNat 0)], ([], ()))), ()), (((.ofNat 250000000000), ((.ofNat 750000000000), ())), ())), (((.ofNat 500000000000), ((.ofNat 1000000000000), ())), ((.ofNat 0), ())))] : List ((((Int × (List Int × (List (Int × (Int × (Int × (Int × (Int × (Int × Unit)))))) × Unit))) × Unit) × ((Int × (Int × Unit)) × Unit)) × ((Int × (Int × Unit)) × (Int × Unit))))⟩
def r6_119 : Row := ⟨119, (.pair (.sl (.pair .str (.pair .str .unit))) .unit), (.pair (.pair (.int .i64) (.pair (.int .i64) .unit)) (.pair (.int .i64) .unit)), ([(([([48], ([49], ())), ([48], ([49], ()))], ()), (((.ofNat 0), ((.ofNat 0), ())), ((.ofNat 0), ())))] : List ((List (List UInt8 × (List UInt8 × Unit)) × Unit) × ((Int × (Int × Unit)) × (Int × Unit))))⟩
def rows6 : List Row := [r6_58, r6_119]
theorem ok_r6_58 : okRows (pureKD Tryz.prog sigC 100000 ext5 40) [r6_58] = true := by kernel_rfl
theorem ok_r6_119 : okRows (pureKD Tryz.prog sigC 100000 ext5 40) [r6_119] = true := by kernel_rfl
def ext6 : PureT := firstR (extTab rows6) ext5
theorem ext6_ok : PureOk Tryz.prog (Gt Tryz.prog) ext6 := layer_ok gmono mixed enterSig ext5_ok 100000 40 (okRows_cons' ok_r6_58 (okRows_cons' ok_r6_119 (rfl)))
end Go.Vg
