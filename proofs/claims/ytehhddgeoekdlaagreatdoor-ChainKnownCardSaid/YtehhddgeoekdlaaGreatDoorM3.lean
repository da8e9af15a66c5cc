/- Calls that have been run: layer 3. -/
import Derived.Test.YtehhddgeoekdlaaGreatDoorM2
namespace Go.Vg
open Go Go.Proofs
set_option maxRecDepth 1000000
set_option maxHeartbeats 0
def r3_14 : Row := ⟨14, (.pair (.int .i64) (.pair (.int .i64) .unit)), (.pair (.pair .str (.pair .str .unit)) .unit), ([(((.ofNat 1), ((.ofNat 2), ())), (([49], ([50], ())), ())),
  (((.ofNat 3), ((.ofNat 2), ())), (([51], ([50], ())), ()))] : List ((Int × (Int × Unit)) × ((List UInt8 × (List UInt8 × Unit)) × Unit)))⟩
def r3_19 : Row := ⟨19, (.pair (.pair (.pair (.int .i64) (.pair (.sl (.pair (.int .i64) (.pair (.sl (.pair (.int .i64) (.pair (.sl (.int .i64)) (.pair (.sl (.pair (.int .i64) (.pair (.int .i64) (.pair (.int .i64) (.pair (.int .i64) (.pair (.int .i64) (.pair (.int .i64) .unit))))))) .unit)))) (.pair (.sl (.sl (.int .i64))) (.pair (.sl (.int .i64)) (.pair (.pair (.sl (.int .i64)) (.pair (.int .i64) (.pair (.sl (.int .i64)) .unit))) (.pair (.sl (.pair (.int .i64) (.pair (.int .i64) .unit))) (.pair (.int .i64) (.pair (.int .i64) .unit))))))))) .unit)) .unit) .unit), (.pair (.int .i64) (.pair .bool .unit)), ([(((((.ofNat 2), ([((.ofNat 2), ([], ([[(.ofNat 500000), (.ofNat 500000)], [(.ofNat 1000000), (.negSucc 999999)]], ([(.ofNat 0), (.ofNat 250000)], (([], ((.ofNat 0), ([], ()))), ([], ((.ofNat 0), ((.ofNat 0), ())))))))), ((.ofNat 1), ([((.ofNat 1), ([], ([], ()))), ((.ofNat 2), ([(.ofNat 65535), (.ofNat 0)], ([], ())))], ([], ([], (([], ((.ofNat 0), ([], ()))), ([], ((.ofNat 0), ((.ofNat 0), ()))))))))], ())), ()), ()), ((.ofNat 2), (true, ())))] : List ((((Int × (List (Int × (List (Int × (List Int × (List (Int × (Int × (Int × (Int × (Int × (Int × Unit)))))) × Unit))) × (List (List Int) × (List Int × ((List Int × (Int × (List Int × Unit))) × (List (Int × (Int × Unit)) × (Int × (Int × Unit)))))))) × Unit)) × Unit) × Unit) × (Int × (Bool × Unit))))⟩
def r3_40 : Row := ⟨40, (.pair (.pair .str (.pair .str .unit)) .unit), (.pair (.pair (.pair (.sl (.int .u32)) (.pair .bool .unit)) (.pair (.sl (.int .u32)) .unit)) (.pair .bool .unit)), ([((([49], ([50], ())), ()), ((([(.ofNat 1)], (false, ())), ([(.ofNat 2)], ())), (true, ()))),
  ((([49], ([52], ())), ()), ((([(.ofNat 1)], (false, ())), ([(.ofNat 4)], ())), (true, ()))),
  ((([49], ([49], ())), ()), ((([(.ofNat 1)], (false, ())), ([(.ofNat 1)], ())), (true, ()))),
  ((([48], ([49], ())), ()), ((([], (false, ())), ([(.ofNat 1)], ())), (true, ()))),
  ((([45,49], ([49], ())), ()), ((([(.ofNat 1)], (true, ())), ([(.ofNat 1)], ())), (true, ()))),
  ((([51], ([52], ())), ()), ((([(.ofNat 3)], (false, ())), ([(.ofNat 4)], ())), (true, ()))),
  ((([51], ([56], ())), ()), ((([(.ofNat 3)], (false, ())), ([(.ofNat 8)], ())), (true, ()))),
  ((([45,54,53,53,51,53], ([49], ())), ()), ((([(.ofNat 65535)], (true, ())), ([(.ofNat 1)], ())), (true, ()))),
  ((([54,53,53,51,53], ([49], ())), ()), ((([(.ofNat 65535)], (false, ())), ([(.ofNat 1)], ())), (true, ()))),
  ((([51], ([50], ())), ()), ((([(.ofNat 3)], (false, ())), ([(.ofNat 2)], ())), (true, ()))),
  ((([45,49], ([49,48,48,48], ())), ()), ((([(.ofNat 1)], (true, ())), ([(.ofNat 1000)], ())), (true, ()))),
  ((([49], ([51], ())), ()), ((([(.ofNat 1)], (false, ())), ([(.ofNat 3)], ())), (true, ())))] : List (((List UInt8 × (List UInt8 × Unit)) × Unit) × (((List Int × (Bool × Unit)) × (List Int × Unit)) × (Bool × Unit))))⟩
def r3_88 : Row := ⟨88, (.pair (.int .i64) .unit), (.pair (.pair .str (.pair .str .unit)) (.pair (.int .i64) .unit)), ([(((.ofNat 0), ()), (([48], ([49], ())), ((.ofNat 0), ()))),
  (((.ofNat 500000), ()), (([49], ([50], ())), ((.ofNat 0), ()))),
  (((.ofNat 250000), ()), (([49], ([52], ())), ((.ofNat 0), ()))),
  (((.ofNat 1000000), ()), (([49], ([49], ())), ((.ofNat 0), ()))),
  (((.negSucc 999999), ()), (([45,49], ([49], ())), ((.ofNat 0), ())))] : List ((Int × Unit) × ((List UInt8 × (List UInt8 × Unit)) × (Int × Unit))))⟩
def r3_134 : Row := ⟨134, (.pair (.int .i64) (.pair (.int .i64) .unit)), (.pair (.pair .str (.pair .str .unit)) (.pair (.int .i64) .unit)), ([(((.ofNat 0), ((.ofNat 1000000000000), ())), (([48], ([49], ())), ((.ofNat 0), ()))),
  (((.ofNat 250000000000), ((.ofNat 1000000000000), ())), (([49], ([52], ())), ((.ofNat 0), ())))] : List ((Int × (Int × Unit)) × ((List UInt8 × (List UInt8 × Unit)) × (Int × Unit))))⟩
def r3_190 : Row := ⟨190, (.pair (.int .i64) .unit), (.pair (.pair .str (.pair .str .unit)) .unit), ([(((.ofNat 0), ()), (([48], ([49], ())), ())),
  (((.ofNat 1), ()), (([49], ([49], ())), ())),
  (((.negSucc 65534), ()), (([45,54,53,53,51,53], ([49], ())), ())),
  (((.ofNat 65535), ()), (([54,53,53,51,53], ([49], ())), ()))] : List ((Int × Unit) × ((List UInt8 × (List UInt8 × Unit)) × Unit)))⟩
def rows3 : List Row := [r3_14, r3_19, r3_40, r3_88, r3_134, r3_190]
theorem ok_r3_14 : okRows (pureKD Tryz.prog sigC 100000 ext2 40) [r3_14] = true := by kernel_rfl
theorem ok_r3_19 : okRows (pureKD Tryz.prog sigC 100000 ext2 40) [r3_19] = true := by kernel_rfl
theorem ok_r3_40 : okRows (pureKD Tryz.prog sigC 100000 ext2 40) [r3_40] = true := by kernel_rfl
theorem ok_r3_88 : okRows (pureKD Tryz.prog sigC 100000 ext2 40) [r3_88] = true := by kernel_rfl
theorem ok_r3_134 : okRows (pureKD Tryz.prog sigC 100000 ext2 40) [r3_134] = true := by kernel_rfl
theorem ok_r3_190 : okRows (pureKD Tryz.prog sigC 100000 ext2 40) [r3_190] = true := by kernel_rfl
def ext3 : PureT := firstR (extTab rows3) ext2
theorem ext3_ok : PureOk Tryz.prog (Gt Tryz.prog) ext3 := layer_ok gmono mixed enterSig ext2_ok 100000 40 (okRows_cons' ok_r3_14 (okRows_cons' ok_r3_19 (okRows_cons' ok_r3_40 (okRows_cons' ok_r3_88 (okRows_cons' ok_r3_134 (okRows_cons' ok_r3_190 (rfl)))))))
end Go.Vg
