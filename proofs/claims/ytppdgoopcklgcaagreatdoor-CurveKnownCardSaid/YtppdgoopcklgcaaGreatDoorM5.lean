/- Calls that have been run: layer 5. -/
import Derived.Test.YtppdgoopcklgcaaGreatDoorM4
namespace Go.Vg
open Go Go.Proofs
set_option maxRecDepth 1000000
set_option maxHeartbeats 0
def r5_47 : Row := ⟨47, (.pair (.pair (.pair (.int .i64) (.pair (.sl (.int .i64)) (.pair (.sl (.pair (.int .i64) (.pair (.int .i64) (.pair (.int .i64) (.pair (.int .i64) (.pair (.int .i64) (.pair (.int .i64) .unit))))))) .unit))) .unit) (.pair (.pair .str (.pair .str .unit)) .unit)), (.pair (.pair .str (.pair .str .unit)) (.pair (.int .i64) .unit)), ([(((((.ofNat 2), ([(.ofNat 0), (.ofNat 65535), (.ofNat 0)], ([], ()))), ()), (([49], ([52], ())), ())), (([49], ([50], ())), ((.ofNat 0), ())))] : List ((((Int × (List Int × (List (Int × (Int × (Int × (Int × (Int × (Int × Unit)))))) × Unit))) × Unit) × ((List UInt8 × (List UInt8 × Unit)) × Unit)) × ((List UInt8 × (List UInt8 × Unit)) × (Int × Unit))))⟩
def r5_49 : Row := ⟨49, (.pair (.pair .str (.pair .str .unit)) .unit), (.pair (.pair .str (.pair .str .unit)) .unit), ([((([49], ([52], ())), ()), (([49], ([52], ())), ())),
  ((([51], ([52], ())), ()), (([51], ([52], ())), ())),
  ((([48], ([49], ())), ()), (([48], ([49], ())), ())),
  ((([49], ([49], ())), ()), (([49], ([49], ())), ()))] : List (((List UInt8 × (List UInt8 × Unit)) × Unit) × ((List UInt8 × (List UInt8 × Unit)) × Unit)))⟩
def r5_102 : Row := ⟨102, (.pair (.pair (.pair (.int .i64) (.pair (.int .i64) (.pair (.int .i64) (.pair (.int .i64) (.pair (.int .i64) (.pair (.int .i64) .unit)))))) (.pair (.int .i64) (.pair .bool .unit))) (.pair (.pair .str (.pair .str .unit)) .unit)), (.pair (.pair .str (.pair .str .unit)) (.pair (.int .i64) .unit)), ([(((((.ofNat 1000000), ((.ofNat 1000000), ((.ofNat 0), ((.ofNat 1), ((.ofNat 2), ((.ofNat 0), ())))))), ((.ofNat 0), (true, ()))), (([49], ([52], ())), ())), (([49], ([52], ())), ((.ofNat 0), ()))),
  (((((.ofNat 500000), ((.ofNat 0), ((.ofNat 0), ((.ofNat 1), ((.ofNat 1), ((.ofNat 0), ())))))), ((.ofNat 0), (true, ()))), (([49], ([50], ())), ())), (([48], ([49], ())), ((.ofNat 0), ())))] : List ((((Int × (Int × (Int × (Int × (Int × (Int × Unit)))))) × (Int × (Bool × Unit))) × ((List UInt8 × (List UInt8 × Unit)) × Unit)) × ((List UInt8 × (List UInt8 × Unit)) × (Int × Unit))))⟩
def r5_161 : Row := ⟨161, (.pair (.pair .str (.pair .str .unit)) .unit), (.pair (.pair (.int .i64) (.pair (.int .i64) .unit)) (.pair (.int .i64) .unit)), ([((([48], ([49], ())), ()), (((.ofNat 0), ((.ofNat 0), ())), ((.ofNat 0), ()))),
  ((([49], ([50], ())), ()), (((.ofNat 500000000000), ((.ofNat 500000000000), ())), ((.ofNat 0), ()))),
  ((([49], ([49], ())), ()), (((.ofNat 1000000000000), ((.ofNat 1000000000000), ())), ((.ofNat 0), ())))] : List (((List UInt8 × (List UInt8 × Unit)) × Unit) × ((Int × (Int × Unit)) × (Int × Unit))))⟩
def r5_162 : Row := ⟨162, (.pair (.pair (.int .i64) (.pair (.int .i64) .unit)) (.pair (.int .i64) (.pair (.int .i64) .unit))), (.pair (.pair (.int .i64) (.pair (.int .i64) .unit)) (.pair (.int .i64) .unit)), ([((((.ofNat 0), ((.ofNat 0), ())), ((.ofNat 1), ((.ofNat 1), ()))), (((.ofNat 0), ((.ofNat 0), ())), ((.ofNat 0), ())))] : List (((Int × (Int × Unit)) × (Int × (Int × Unit))) × ((Int × (Int × Unit)) × (Int × Unit))))⟩
def rows5 : List Row := [r5_47, r5_49, r5_102, r5_161, r5_162]
theorem ok_r5_47 : okRows (pureKD Tryz.prog sigC 100000 ext4 40) [r5_47] = true := by kernel_rfl
theorem ok_r5_49 : okRows (pureKD Tryz.prog sigC 100000 ext4 40) [r5_49] = true := by kernel_rfl
theorem ok_r5_102 : okRows (pureKD Tryz.prog sigC 100000 ext4 40) [r5_102] = true := by kernel_rfl
theorem ok_r5_161 : okRows (pureKD Tryz.prog sigC 100000 ext4 40) [r5_161] = true := by kernel_rfl
theorem ok_r5_162 : okRows (pureKD Tryz.prog sigC 100000 ext4 40) [r5_162] = true := by kernel_rfl
def ext5 : PureT := firstR (extTab rows5) ext4
theorem ext5_ok : PureOk Tryz.prog (Gt Tryz.prog) ext5 := layer_ok gmono mixed enterSig ext4_ok 100000 40 (okRows_cons' ok_r5_47 (okRows_cons' ok_r5_49 (okRows_cons' ok_r5_102 (okRows_cons' ok_r5_161 (okRows_cons' ok_r5_162 (rfl))))))
end Go.Vg
