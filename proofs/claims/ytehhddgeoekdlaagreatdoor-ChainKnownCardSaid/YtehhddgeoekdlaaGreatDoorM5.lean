/- Calls that have been run: layer 5. -/
import Derived.Test.YtehhddgeoekdlaaGreatDoorM4
namespace Go.Vg
open Go Go.Proofs
set_option maxRecDepth 1000000
set_option maxHeartbeats 0
def r5_7 : Row := ⟨7, (.pair (.pair (.int .i64) (.pair (.sl (.pair (.int .i64) (.pair (.sl (.pair (.int .i64) (.pair (.sl (.int .i64)) (.pair (.sl (.pair (.int .i64) (.pair (.int .i64) (.pair (.int .i64) (.pair (.int .i64) (.pair (.int .i64) (.pair (.int .i64) .unit))))))) .unit)))) (.pair (.sl (.sl (.int .i64))) (.pair (.sl (.int .i64)) (.pair (.pair (.sl (.int .i64)) (.pair (.int .i64) (.pair (.sl (.int .i64)) .unit))) (.pair (.sl (.pair (.int .i64) (.pair (.int .i64) .unit))) (.pair (.int .i64) (.pair (.int .i64) .unit))))))))) .unit)) (.pair (.sl (.pair .str (.pair .str .unit))) .unit)), (.pair (.sl (.pair .str (.pair .str .unit))) (.pair (.int .i64) .unit)), ([((((.ofNat 2), ([((.ofNat 2), ([], ([[(.ofNat 500000), (.ofNat 500000)], [(.ofNat 1000000), (.negSucc 999999)]], ([(.ofNat 0), (.ofNat 250000)], (([], ((.ofNat 0), ([], ()))), ([], ((.ofNat 0), ((.ofNat 0), ())))))))), ((.ofNat 1), ([((.ofNat 1), ([], ([], ()))), ((.ofNat 2), ([(.ofNat 65535), (.ofNat 0)], ([], ())))], ([], ([], (([], ((.ofNat 0), ([], ()))), ([], ((.ofNat 0), ((.ofNat 0), ()))))))))], ())), ([([49], ([50], ())), ([49], ([52], ()))], ())), ([([51], ([56], ())), ([49], ([50], ()))], ((.ofNat 0), ())))] : List (((Int × (List (Int × (List (Int × (List Int × (List (Int × (Int × (Int × (Int × (Int × (Int × Unit)))))) × Unit))) × (List (List Int) × (List Int × ((List Int × (Int × (List Int × Unit))) × (List (Int × (Int × Unit)) × (Int × (Int × Unit)))))))) × Unit)) × (List (List UInt8 × (List UInt8 × Unit)) × Unit)) × (List (List UInt8 × (List UInt8 × Unit)) × (Int × Unit))))⟩
def r5_151 : Row := ⟨151, (.pair (.pair .str (.pair .str .unit)) .unit), (.pair (.pair (.int .i64) (.pair (.int .i64) .unit)) (.pair (.int .i64) .unit)), ([((([49], ([49], ())), ()), (((.ofNat 1000000000000), ((.ofNat 1000000000000), ())), ((.ofNat 0), ())))] : List (((List UInt8 × (List UInt8 × Unit)) × Unit) × ((Int × (Int × Unit)) × (Int × Unit))))⟩
def rows5 : List Row := [r5_7, r5_151]
theorem ok_r5_7 : okRows (pureKD Tryz.prog sigC 100000 ext4 40) [r5_7] = true := by kernel_rfl
theorem ok_r5_151 : okRows (pureKD Tryz.prog sigC 100000 ext4 40) [r5_151] = true := by kernel_rfl
def ext5 : PureT := firstR (extTab rows5) ext4
theorem ext5_ok : PureOk Tryz.prog (Gt Tryz.prog) ext5 := layer_ok gmono mixed enterSig ext4_ok 100000 40 (okRows_cons' ok_r5_7 (okRows_cons' ok_r5_151 (rfl)))
end Go.Vg
