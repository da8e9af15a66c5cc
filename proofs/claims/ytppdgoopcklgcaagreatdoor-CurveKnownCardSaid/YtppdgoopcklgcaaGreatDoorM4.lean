/- Calls that have been run: layer 4. -/
import Derived.Test.YtppdgoopcklgcaaGreatDoorM3
namespace Go.Vg
open Go Go.Proofs
set_option maxRecDepth 1000000
set_option maxHeartbeats 0
def r4_49 : Row := ⟨49, (.pair (.pair .str (.pair .str .unit)) .unit), (.pair (.pair .str (.pair .str .unit)) .unit), ([((([49], ([50], ())), ()), (([49], ([50], ())), ()))] : List (((List UInt8 × (List UInt8 × Unit)) × Unit) × ((List UInt8 × (List UInt8 × Unit)) × Unit)))⟩
def r4_91 : Row := ⟨91, (.pair (.pair .str (.pair .str .unit)) (.pair (.pair .str (.pair .str .unit)) .unit)), (.pair (.pair .str (.pair .str .unit)) (.pair (.int .i64) .unit)), ([((([49,48,48,48,48,48,48], ([49], ())), (([49], ([52], ())), ())), (([50,53,48,48,48,48], ([49], ())), ((.ofNat 0), ()))),
  ((([50,48,48,48,48,48,48], ([49], ())), (([51], ([52], ())), ())), (([49,53,48,48,48,48,48], ([49], ())), ((.ofNat 0), ()))),
  ((([48], ([49], ())), (([49], ([50], ())), ())), (([48], ([49], ())), ((.ofNat 0), ())))] : List (((List UInt8 × (List UInt8 × Unit)) × ((List UInt8 × (List UInt8 × Unit)) × Unit)) × ((List UInt8 × (List UInt8 × Unit)) × (Int × Unit))))⟩
def r4_98 : Row := ⟨98, (.pair (.pair .str (.pair .str .unit)) (.pair (.pair .str (.pair .str .unit)) .unit)), (.pair (.pair .str (.pair .str .unit)) (.pair (.int .i64) .unit)), ([((([50,53,48,48,48,48], ([49], ())), (([48], ([49], ())), ())), (([50,53,48,48,48,48], ([49], ())), ((.ofNat 0), ()))),
  ((([49,53,48,48,48,48,48], ([49], ())), (([45,49,48,48,48,48,48,48], ([49], ())), ())), (([53,48,48,48,48,48], ([49], ())), ((.ofNat 0), ()))),
  ((([49], ([50], ())), (([48], ([49], ())), ())), (([49], ([50], ())), ((.ofNat 0), ()))),
  ((([48], ([49], ())), (([48], ([49], ())), ())), (([48], ([49], ())), ((.ofNat 0), ())))] : List (((List UInt8 × (List UInt8 × Unit)) × ((List UInt8 × (List UInt8 × Unit)) × Unit)) × ((List UInt8 × (List UInt8 × Unit)) × (Int × Unit))))⟩
def r4_99 : Row := ⟨99, (.pair (.pair .str (.pair .str .unit)) (.pair (.pair .str (.pair .str .unit)) .unit)), (.pair (.pair .str (.pair .str .unit)) (.pair (.int .i64) .unit)), ([((([50,53,48,48,48,48], ([49], ())), (([49,48,48,48,48,48,48], ([49], ())), ())), (([49], ([52], ())), ((.ofNat 0), ()))),
  ((([54,53,53,51,53], ([50], ())), (([54,53,53,51,53], ([49], ())), ())), (([49], ([50], ())), ((.ofNat 0), ()))),
  ((([53,48,48,48,48,48], ([49], ())), (([49,48,48,48,48,48,48], ([49], ())), ())), (([49], ([50], ())), ((.ofNat 0), ()))),
  ((([48], ([49], ())), (([49,48,48,48,48,48,48], ([49], ())), ())), (([48], ([49], ())), ((.ofNat 0), ())))] : List (((List UInt8 × (List UInt8 × Unit)) × ((List UInt8 × (List UInt8 × Unit)) × Unit)) × ((List UInt8 × (List UInt8 × Unit)) × (Int × Unit))))⟩
def r4_100 : Row := ⟨100, (.pair (.pair .str (.pair .str .unit)) (.pair (.pair .str (.pair .str .unit)) .unit)), (.pair (.int .i64) (.pair (.int .i64) .unit)), ([((([49], ([52], ())), (([49], ([49], ())), ())), ((.negSucc 0), ((.ofNat 0), ()))),
  ((([48], ([49], ())), (([48], ([49], ())), ())), ((.ofNat 0), ((.ofNat 0), ()))),
  ((([49], ([50], ())), (([49], ([50], ())), ())), ((.ofNat 0), ((.ofNat 0), ()))),
  ((([49], ([49], ())), (([49], ([49], ())), ())), ((.ofNat 0), ((.ofNat 0), ()))),
  ((([51], ([52], ())), (([49], ([49], ())), ())), ((.negSucc 0), ((.ofNat 0), ()))),
  ((([53,48,48,48,48,49], ([49,48,48,48,48,48,48], ())), (([49], ([49], ())), ())), ((.negSucc 0), ((.ofNat 0), ())))] : List (((List UInt8 × (List UInt8 × Unit)) × ((List UInt8 × (List UInt8 × Unit)) × Unit)) × (Int × (Int × Unit))))⟩
def r4_103 : Row := ⟨103, (.pair (.pair .str (.pair .str .unit)) .unit), (.pair (.int .i64) (.pair (.int .i64) .unit)), ([((([49], ([50], ())), ()), ((.ofNat 1), ((.ofNat 0), ()))),
  ((([48], ([49], ())), ()), ((.ofNat 0), ((.ofNat 0), ())))] : List (((List UInt8 × (List UInt8 × Unit)) × Unit) × (Int × (Int × Unit))))⟩
def r4_161 : Row := ⟨161, (.pair (.pair .str (.pair .str .unit)) .unit), (.pair (.pair (.int .i64) (.pair (.int .i64) .unit)) (.pair (.int .i64) .unit)), ([((([49], ([52], ())), ()), (((.ofNat 250000000000), ((.ofNat 250000000000), ())), ((.ofNat 0), ())))] : List (((List UInt8 × (List UInt8 × Unit)) × Unit) × ((Int × (Int × Unit)) × (Int × Unit))))⟩
def r4_229 : Row := ⟨229, (.pair .str (.pair (.int .i64) .unit)), (.pair .str (.pair .bool (.pair (.int .i64) .unit))), ([(([48], ((.ofNat 1), ())), ([48], (true, ((.ofNat 0), ()))))] : List ((List UInt8 × (Int × Unit)) × (List UInt8 × (Bool × (Int × Unit)))))⟩
def rows4 : List Row := [r4_49, r4_91, r4_98, r4_99, r4_100, r4_103, r4_161, r4_229]
theorem ok_r4_49 : okRows (pureKD Tryz.prog sigC 100000 ext3 40) [r4_49] = true := by kernel_rfl
theorem ok_r4_91 : okRows (pureKD Tryz.prog sigC 100000 ext3 40) [r4_91] = true := by kernel_rfl
theorem ok_r4_98 : okRows (pureKD Tryz.prog sigC 100000 ext3 40) [r4_98] = true := by kernel_rfl
theorem ok_r4_99 : okRows (pureKD Tryz.prog sigC 100000 ext3 40) [r4_99] = true := by kernel_rfl
theorem ok_r4_100 : okRows (pureKD Tryz.prog sigC 100000 ext3 40) [r4_100] = true := by kernel_rfl
theorem ok_r4_103 : okRows (pureKD Tryz.prog sigC 100000 ext3 40) [r4_103] = true := by kernel_rfl
theorem ok_r4_161 : okRows (pureKD Tryz.prog sigC 100000 ext3 40) [r4_161] = true := by kernel_rfl
theorem ok_r4_229 : okRows (pureKD Tryz.prog sigC 100000 ext3 40) [r4_229] = true := by kernel_rfl
def ext4 : PureT := firstR (extTab rows4) ext3
theorem ext4_ok : PureOk Tryz.prog (Gt Tryz.prog) ext4 := layer_ok gmono mixed enterSig ext3_ok 100000 40 (okRows_cons' ok_r4_49 (okRows_cons' ok_r4_91 (okRows_cons' ok_r4_98 (okRows_cons' ok_r4_99 (okRows_cons' ok_r4_100 (okRows_cons' ok_r4_103 (okRows_cons' ok_r4_161 (okRows_cons' ok_r4_229 (rfl)))))))))
end Go.Vg
