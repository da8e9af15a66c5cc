/- Calls that have been run: layer 3. -/
import Derived.Test.YtppdgoopcklgcaaGreatDoorM2
namespace Go.Vg
open Go Go.Proofs
set_option maxRecDepth 1000000
set_option maxHeartbeats 0
def r3_14 : Row := ⟨14, (.pair (.int .i64) (.pair (.int .i64) .unit)), (.pair (.pair .str (.pair .str .unit)) .unit), ([(((.ofNat 1), ((.ofNat 4), ())), (([49], ([52], ())), ())),
  (((.ofNat 1), ((.ofNat 2), ())), (([49], ([50], ())), ())),
  (((.ofNat 0), ((.ofNat 1), ())), (([48], ([49], ())), ())),
  (((.ofNat 3), ((.ofNat 4), ())), (([51], ([52], ())), ())),
  (((.ofNat 1), ((.ofNat 1), ())), (([49], ([49], ())), ()))] : List ((Int × (Int × Unit)) × ((List UInt8 × (List UInt8 × Unit)) × Unit)))⟩
def r3_90 : Row := ⟨90, (.pair (.pair .str (.pair .str .unit)) .unit), (.pair (.pair (.pair (.sl (.int .u32)) (.pair .bool .unit)) (.pair (.sl (.int .u32)) .unit)) (.pair .bool .unit)), ([((([49], ([52], ())), ()), ((([(.ofNat 1)], (false, ())), ([(.ofNat 4)], ())), (true, ()))),
  ((([48], ([49], ())), ()), ((([], (false, ())), ([(.ofNat 1)], ())), (true, ()))),
  ((([49], ([49], ())), ()), ((([(.ofNat 1)], (false, ())), ([(.ofNat 1)], ())), (true, ()))),
  ((([49,48,48,48,48,48,48], ([49], ())), ()), ((([(.ofNat 1000000)], (false, ())), ([(.ofNat 1)], ())), (true, ()))),
  ((([50,53,48,48,48,48], ([49], ())), ()), ((([(.ofNat 250000)], (false, ())), ([(.ofNat 1)], ())), (true, ()))),
  ((([50], ([49], ())), ()), ((([(.ofNat 2)], (false, ())), ([(.ofNat 1)], ())), (true, ()))),
  ((([49], ([50], ())), ()), ((([(.ofNat 1)], (false, ())), ([(.ofNat 2)], ())), (true, ()))),
  ((([54,53,53,51,53], ([49], ())), ()), ((([(.ofNat 65535)], (false, ())), ([(.ofNat 1)], ())), (true, ()))),
  ((([54,53,53,51,53], ([50], ())), ()), ((([(.ofNat 65535)], (false, ())), ([(.ofNat 2)], ())), (true, ()))),
  ((([51], ([52], ())), ()), ((([(.ofNat 3)], (false, ())), ([(.ofNat 4)], ())), (true, ()))),
  ((([51], ([50], ())), ()), ((([(.ofNat 3)], (false, ())), ([(.ofNat 2)], ())), (true, ()))),
  ((([45,54,53,53,51,53], ([49], ())), ()), ((([(.ofNat 65535)], (true, ())), ([(.ofNat 1)], ())), (true, ()))),
  ((([50,48,48,48,48,48,48], ([49], ())), ()), ((([(.ofNat 2000000)], (false, ())), ([(.ofNat 1)], ())), (true, ()))),
  ((([45,49,48,48,48,48,48,48], ([49], ())), ()), ((([(.ofNat 1000000)], (true, ())), ([(.ofNat 1)], ())), (true, ()))),
  ((([53,48,48,48,48,48], ([49], ())), ()), ((([(.ofNat 500000)], (false, ())), ([(.ofNat 1)], ())), (true, ()))),
  ((([53,48,48,48,48,49], ([49,48,48,48,48,48,48], ())), ()), ((([(.ofNat 500001)], (false, ())), ([(.ofNat 1000000)], ())), (true, ())))] : List (((List UInt8 × (List UInt8 × Unit)) × Unit) × (((List Int × (Bool × Unit)) × (List Int × Unit)) × (Bool × Unit))))⟩
def r3_92 : Row := ⟨92, (.pair (.int .i64) .unit), (.pair (.pair .str (.pair .str .unit)) .unit), ([(((.ofNat 0), ()), (([48], ([49], ())), ())),
  (((.ofNat 1), ()), (([49], ([49], ())), ())),
  (((.ofNat 1000000), ()), (([49,48,48,48,48,48,48], ([49], ())), ())),
  (((.ofNat 2), ()), (([50], ([49], ())), ())),
  (((.ofNat 65535), ()), (([54,53,53,51,53], ([49], ())), ())),
  (((.negSucc 65534), ()), (([45,54,53,53,51,53], ([49], ())), ())),
  (((.ofNat 2000000), ()), (([50,48,48,48,48,48,48], ([49], ())), ())),
  (((.negSucc 999999), ()), (([45,49,48,48,48,48,48,48], ([49], ())), ()))] : List ((Int × Unit) × ((List UInt8 × (List UInt8 × Unit)) × Unit)))⟩
def r3_101 : Row := ⟨101, (.pair (.int .i64) (.pair (.int .i64) .unit)), (.pair (.pair .str (.pair .str .unit)) .unit), ([(((.ofNat 1000000), ((.ofNat 1000000), ())), (([49], ([49], ())), ())),
  (((.ofNat 0), ((.ofNat 1000000), ())), (([48], ([49], ())), ())),
  (((.ofNat 500000), ((.ofNat 1000000), ())), (([49], ([50], ())), ()))] : List ((Int × (Int × Unit)) × ((List UInt8 × (List UInt8 × Unit)) × Unit)))⟩
def r3_152 : Row := ⟨152, (.pair (.pair (.pair (.sl (.int .u32)) (.pair .bool .unit)) (.pair (.sl (.int .u32)) .unit)) (.pair (.pair (.pair (.sl (.int .u32)) (.pair .bool .unit)) (.pair (.sl (.int .u32)) .unit)) .unit)), (.pair (.pair (.pair (.sl (.int .u32)) (.pair .bool .unit)) (.pair (.sl (.int .u32)) .unit)) .unit), ([(((([(.ofNat 1)], (false, ())), ([(.ofNat 2)], ())), ((([], (false, ())), ([(.ofNat 1)], ())), ())), ((([(.ofNat 1)], (false, ())), ([(.ofNat 2)], ())), ()))] : List ((((List Int × (Bool × Unit)) × (List Int × Unit)) × (((List Int × (Bool × Unit)) × (List Int × Unit)) × Unit)) × (((List Int × (Bool × Unit)) × (List Int × Unit)) × Unit)))⟩
def r3_158 : Row := ⟨158, (.pair (.int .i64) (.pair (.int .i64) .unit)), (.pair (.pair .str (.pair .str .unit)) (.pair (.int .i64) .unit)), ([(((.ofNat 250000000000), ((.ofNat 1000000000000), ())), (([49], ([52], ())), ((.ofNat 0), ()))),
  (((.ofNat 0), ((.ofNat 1000000000000), ())), (([48], ([49], ())), ((.ofNat 0), ()))),
  (((.ofNat 500000000000), ((.ofNat 1000000000000), ())), (([49], ([50], ())), ((.ofNat 0), ())))] : List ((Int × (Int × Unit)) × ((List UInt8 × (List UInt8 × Unit)) × (Int × Unit))))⟩
def r3_222 : Row := ⟨222, (.pair .str .unit), (.pair (.int .i64) (.pair (.int .i64) .unit)), ([(([53,48,48,48,48,48,48,48,48,48,48,48], ()), ((.ofNat 500000000000), ((.ofNat 0), ()))),
  (([48], ()), ((.ofNat 0), ((.ofNat 0), ())))] : List ((List UInt8 × Unit) × (Int × (Int × Unit))))⟩
def r3_225 : Row := ⟨225, (.pair .str (.pair (.int .i64) .unit)), (.pair .str (.pair (.int .i64) .unit)), ([(([50,53,48,48,48,48,48,48,48,48,48,48], ((.ofNat 1), ())), ([50,53,48,48,48,48,48,48,48,48,48,48], ((.ofNat 0), ()))),
  (([48], ((.ofNat 1), ())), ([48], ((.ofNat 0), ())))] : List ((List UInt8 × (Int × Unit)) × (List UInt8 × (Int × Unit))))⟩
def r3_226 : Row := ⟨226, (.pair .str (.pair .str .unit)), (.pair .str (.pair (.int .i64) .unit)), ([(([50,53,48,48,48,48,48,48,48,48,48,48], ([49,48,48,48,48,48,48,48,48,48,48,48,48], ())), ([50,53,48,48,48,48,48,48,48,48,48,48,48,48,48,48,48,48,48,48,48,48,48,48], ((.ofNat 0), ()))),
  (([48], ([49], ())), ([48], ((.ofNat 0), ())))] : List ((List UInt8 × (List UInt8 × Unit)) × (List UInt8 × (Int × Unit))))⟩
def r3_229 : Row := ⟨229, (.pair .str (.pair (.int .i64) .unit)), (.pair .str (.pair .bool (.pair (.int .i64) .unit))), ([(([50,53,48,48,48,48,48,48,48,48,48,48,48,48,48,48,48,48,48,48,48,48,48,48], ((.ofNat 2), ())), ([53,48,48,48,48,48,48,48,48,48,48,48], (true, ((.ofNat 0), ()))))] : List ((List UInt8 × (Int × Unit)) × (List UInt8 × (Bool × (Int × Unit)))))⟩
def rows3 : List Row := [r3_14, r3_90, r3_92, r3_101, r3_152, r3_158, r3_222, r3_225, r3_226, r3_229]
theorem ok_r3_14 : okRows (pureKD Tryz.prog sigC 100000 ext2 40) [r3_14] = true := by kernel_rfl
theorem ok_r3_90 : okRows (pureKD Tryz.prog sigC 100000 ext2 40) [r3_90] = true := by kernel_rfl
theorem ok_r3_92 : okRows (pureKD Tryz.prog sigC 100000 ext2 40) [r3_92] = true := by kernel_rfl
theorem ok_r3_101 : okRows (pureKD Tryz.prog sigC 100000 ext2 40) [r3_101] = true := by kernel_rfl
theorem ok_r3_152 : okRows (pureKD Tryz.prog sigC 100000 ext2 40) [r3_152] = true := by kernel_rfl
theorem ok_r3_158 : okRows (pureKD Tryz.prog sigC 100000 ext2 40) [r3_158] = true := by kernel_rfl
theorem ok_r3_222 : okRows (pureKD Tryz.prog sigC 100000 ext2 40) [r3_222] = true := by kernel_rfl
theorem ok_r3_225 : okRows (pureKD Tryz.prog sigC 100000 ext2 40) [r3_225] = true := by kernel_rfl
theorem ok_r3_226 : okRows (pureKD Tryz.prog sigC 100000 ext2 40) [r3_226] = true := by kernel_rfl
theorem ok_r3_229 : okRows (pureKD Tryz.prog sigC 100000 ext2 40) [r3_229] = true := by kernel_rfl
def ext3 : PureT := firstR (extTab rows3) ext2
theorem ext3_ok : PureOk Tryz.prog (Gt Tryz.prog) ext3 := layer_ok gmono mixed enterSig ext2_ok 100000 40 (okRows_cons' ok_r3_14 (okRows_cons' ok_r3_90 (okRows_cons' ok_r3_92 (okRows_cons' ok_r3_101 (okRows_cons' ok_r3_152 (okRows_cons' ok_r3_158 (okRows_cons' ok_r3_222 (okRows_cons' ok_r3_225 (okRows_cons' ok_r3_226 (okRows_cons' ok_r3_229 (rfl)))))))))))
end Go.Vg
