/- Calls that have been run: layer 3. -/
import Derived.Test.YtmpaaojkimhidaaGreatDoorM2
namespace Go.Vg
open Go Go.Proofs
set_option maxRecDepth 1000000
set_option maxHeartbeats 0
def r3_13 : Row := ⟨13, (.pair (.int .i64) (.pair (.int .i64) .unit)), (.pair (.pair .str (.pair .str .unit)) .unit), ([(((.ofNat 1), ((.ofNat 2), ())), (([49], ([50], ())), ())),
  (((.ofNat 1), ((.ofNat 3), ())), (([49], ([51], ())), ()))] : List ((Int × (Int × Unit)) × ((List UInt8 × (List UInt8 × Unit)) × Unit)))⟩
def r3_44 : Row := ⟨44, (.pair (.pair .str (.pair .str .unit)) .unit), (.pair (.pair (.pair (.sl (.int .u32)) (.pair .bool .unit)) (.pair (.sl (.int .u32)) .unit)) (.pair .bool .unit)), ([((([48], ([49], ())), ()), ((([], (false, ())), ([(.ofNat 1)], ())), (true, ()))),
  ((([49], ([50], ())), ()), ((([(.ofNat 1)], (false, ())), ([(.ofNat 2)], ())), (true, ()))),
  ((([49], ([52], ())), ()), ((([(.ofNat 1)], (false, ())), ([(.ofNat 4)], ())), (true, ()))),
  ((([49], ([49], ())), ()), ((([(.ofNat 1)], (false, ())), ([(.ofNat 1)], ())), (true, ()))),
  ((([45,49], ([49], ())), ()), ((([(.ofNat 1)], (true, ())), ([(.ofNat 1)], ())), (true, ()))),
  ((([49], ([51], ())), ()), ((([(.ofNat 1)], (false, ())), ([(.ofNat 3)], ())), (true, ()))),
  ((([54,53,53,51,53], ([49], ())), ()), ((([(.ofNat 65535)], (false, ())), ([(.ofNat 1)], ())), (true, ())))] : List (((List UInt8 × (List UInt8 × Unit)) × Unit) × (((List Int × (Bool × Unit)) × (List Int × Unit)) × (Bool × Unit))))⟩
def r3_49 : Row := ⟨49, (.pair (.int .i64) .unit), (.pair (.pair .str (.pair .str .unit)) (.pair (.int .i64) .unit)), ([(((.ofNat 0), ()), (([48], ([49], ())), ((.ofNat 0), ()))),
  (((.ofNat 500000), ()), (([49], ([50], ())), ((.ofNat 0), ()))),
  (((.ofNat 250000), ()), (([49], ([52], ())), ((.ofNat 0), ()))),
  (((.negSucc 999999), ()), (([45,49], ([49], ())), ((.ofNat 0), ())))] : List ((Int × Unit) × ((List UInt8 × (List UInt8 × Unit)) × (Int × Unit))))⟩
def r3_88 : Row := ⟨88, (.pair (.int .i64) (.pair (.int .i64) .unit)), (.pair (.pair .str (.pair .str .unit)) (.pair (.int .i64) .unit)), ([(((.ofNat 1000000), ((.ofNat 1000000), ())), (([49], ([49], ())), ((.ofNat 0), ())))] : List ((Int × (Int × Unit)) × ((List UInt8 × (List UInt8 × Unit)) × (Int × Unit))))⟩
def r3_138 : Row := ⟨138, (.pair (.int .i64) .unit), (.pair (.pair .str (.pair .str .unit)) .unit), ([(((.ofNat 0), ()), (([48], ([49], ())), ())),
  (((.ofNat 1), ()), (([49], ([49], ())), ())),
  (((.ofNat 65535), ()), (([54,53,53,51,53], ([49], ())), ()))] : List ((Int × Unit) × ((List UInt8 × (List UInt8 × Unit)) × Unit)))⟩
def rows3 : List Row := [r3_13, r3_44, r3_49, r3_88, r3_138]
theorem ok_r3_13 : okRows (pureKD Tryz.prog sigC 100000 ext2 40) [r3_13] = true := by kernel_rfl
theorem ok_r3_44 : okRows (pureKD Tryz.prog sigC 100000 ext2 40) [r3_44] = true := by kernel_rfl
theorem ok_r3_49 : okRows (pureKD Tryz.prog sigC 100000 ext2 40) [r3_49] = true := by kernel_rfl
theorem ok_r3_88 : okRows (pureKD Tryz.prog sigC 100000 ext2 40) [r3_88] = true := by kernel_rfl
theorem ok_r3_138 : okRows (pureKD Tryz.prog sigC 100000 ext2 40) [r3_138] = true := by kernel_rfl
def ext3 : PureT := firstR (extTab rows3) ext2
theorem ext3_ok : PureOk Tryz.prog (Gt Tryz.prog) ext3 := layer_ok gmono mixed enterSig ext2_ok 100000 40 (okRows_cons' ok_r3_13 (okRows_cons' ok_r3_44 (okRows_cons' ok_r3_49 (okRows_cons' ok_r3_88 (okRows_cons' ok_r3_138 (rfl))))))
end Go.Vg
