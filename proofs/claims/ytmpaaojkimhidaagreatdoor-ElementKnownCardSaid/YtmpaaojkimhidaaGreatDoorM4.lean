/- Calls that have been run: layer 4. -/
import Derived.Test.YtmpaaojkimhidaaGreatDoorM3
namespace Go.Vg
open Go Go.Proofs
set_option maxRecDepth 1000000
set_option maxHeartbeats 0
def r4_23 : Row := ⟨23, (.pair (.pair (.pair (.int .i64) (.pair (.sl (.pair (.int .i64) (.pair (.sl (.int .i64)) (.pair (.sl (.pair (.int .i64) (.pair (.int .i64) (.pair (.int .i64) (.pair (.int .i64) (.pair (.int .i64) (.pair (.int .i64) .unit))))))) .unit)))) (.pair (.sl (.sl (.int .i64))) (.pair (.sl (.int .i64)) (.pair (.pair (.sl (.int .i64)) (.pair (.int .i64) (.pair (.sl (.int .i64)) .unit))) (.pair (.sl (.pair (.int .i64) (.pair (.int .i64) .unit))) (.pair (.int .i64) (.pair (.int .i64) .unit)))))))) .unit) (.pair (.sl (.pair .str (.pair .str .unit))) .unit)), (.pair (.sl (.pair .str (.pair .str .unit))) (.pair (.int .i64) .unit)), ([(((((.ofNat 2), ([], ([[(.ofNat 500000), (.ofNat 500000)], [(.ofNat 1000000), (.negSucc 999999)]], ([(.ofNat 0), (.ofNat 250000)], (([], ((.ofNat 0), ([], ()))), ([], ((.ofNat 0), ((.ofNat 0), ())))))))), ()), ([([49], ([50], ())), ([49], ([52], ()))], ())), ([([51], ([56], ())), ([49], ([50], ()))], ((.ofNat 0), ())))] : List ((((Int × (List (Int × (List Int × (List (Int × (Int × (Int × (Int × (Int × (Int × Unit)))))) × Unit))) × (List (List Int) × (List Int × ((List Int × (Int × (List Int × Unit))) × (List (Int × (Int × Unit)) × (Int × (Int × Unit)))))))) × Unit) × (List (List UInt8 × (List UInt8 × Unit)) × Unit)) × (List (List UInt8 × (List UInt8 × Unit)) × (Int × Unit))))⟩
def r4_59 : Row := ⟨59, (.pair (.int .i64) .unit), (.pair (.pair (.int .i64) (.pair (.int .i64) .unit)) (.pair (.int .i64) .unit)), ([(((.ofNat 500000), ()), (((.ofNat 500000000000), ((.ofNat 500000000000), ())), ((.ofNat 0), ())))] : List ((Int × Unit) × ((Int × (Int × Unit)) × (Int × Unit))))⟩
def r4_81 : Row := ⟨81, (.pair (.pair (.pair (.int .i64) (.pair (.sl (.int .i64)) (.pair (.sl (.pair (.int .i64) (.pair (.int .i64) (.pair (.int .i64) (.pair (.int .i64) (.pair (.int .i64) (.pair (.int .i64) .unit))))))) .unit))) .unit) (.pair (.pair .str (.pair .str .unit)) .unit)), (.pair (.pair .str (.pair .str .unit)) (.pair (.int .i64) .unit)), ([(((((.ofNat 2), ([(.ofNat 65535), (.ofNat 0)], ([], ()))), ()), (([49], ([51], ())), ())), (([50], ([51], ())), ((.ofNat 0), ())))] : List ((((Int × (List Int × (List (Int × (Int × (Int × (Int × (Int × (Int × Unit)))))) × Unit))) × Unit) × ((List UInt8 × (List UInt8 × Unit)) × Unit)) × ((List UInt8 × (List UInt8 × Unit)) × (Int × Unit))))⟩
def r4_83 : Row := ⟨83, (.pair (.pair .str (.pair .str .unit)) .unit), (.pair (.pair .str (.pair .str .unit)) .unit), ([((([49], ([51], ())), ()), (([49], ([51], ())), ()))] : List (((List UInt8 × (List UInt8 × Unit)) × Unit) × ((List UInt8 × (List UInt8 × Unit)) × Unit)))⟩
def r4_144 : Row := ⟨144, (.pair (.pair .str (.pair .str .unit)) (.pair (.pair .str (.pair .str .unit)) .unit)), (.pair (.int .i64) (.pair (.int .i64) .unit)), ([((([49], ([50], ())), (([49], ([49], ())), ())), ((.negSucc 0), ((.ofNat 0), ())))] : List (((List UInt8 × (List UInt8 × Unit)) × ((List UInt8 × (List UInt8 × Unit)) × Unit)) × (Int × (Int × Unit))))⟩
def rows4 : List Row := [r4_23, r4_59, r4_81, r4_83, r4_144]
theorem ok_r4_23 : okRows (pureKD Tryz.prog sigC 100000 ext3 40) [r4_23] = true := by kernel_rfl
theorem ok_r4_59 : okRows (pureKD Tryz.prog sigC 100000 ext3 40) [r4_59] = true := by kernel_rfl
theorem ok_r4_81 : okRows (pureKD Tryz.prog sigC 100000 ext3 40) [r4_81] = true := by kernel_rfl
theorem ok_r4_83 : okRows (pureKD Tryz.prog sigC 100000 ext3 40) [r4_83] = true := by kernel_rfl
theorem ok_r4_144 : okRows (pureKD Tryz.prog sigC 100000 ext3 40) [r4_144] = true := by kernel_rfl
def ext4 : PureT := firstR (extTab rows4) ext3
theorem ext4_ok : PureOk Tryz.prog (Gt Tryz.prog) ext4 := layer_ok gmono mixed enterSig ext3_ok 100000 40 (okRows_cons' ok_r4_23 (okRows_cons' ok_r4_59 (okRows_cons' ok_r4_81 (okRows_cons' ok_r4_83 (okRows_cons' ok_r4_144 (rfl))))))
end Go.Vg
