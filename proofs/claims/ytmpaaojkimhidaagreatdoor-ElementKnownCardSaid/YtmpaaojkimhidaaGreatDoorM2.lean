/- Calls that have been run: layer 2. -/
import Derived.Test.YtmpaaojkimhidaaGreatDoorM1
namespace Go.Vg
open Go Go.Proofs
set_option maxRecDepth 1000000
set_option maxHeartbeats 0
def r2_7 : Row := ⟨7, (.pair (.pair (.int .i64) (.pair (.sl (.pair (.int .i64) (.pair (.sl (.int .i64)) (.pair (.sl (.pair (.int .i64) (.pair (.int .i64) (.pair (.int .i64) (.pair (.int .i64) (.pair (.int .i64) (.pair (.int .i64) .unit))))))) .unit)))) (.pair (.sl (.sl (.int .i64))) (.pair (.sl (.int .i64)) (.pair (.pair (.sl (.int .i64)) (.pair (.int .i64) (.pair (.sl (.int .i64)) .unit))) (.pair (.sl (.pair (.int .i64) (.pair (.int .i64) .unit))) (.pair (.int .i64) (.pair (.int .i64) .unit)))))))) .unit), (.pair (.int .i64) .unit), ([((((.ofNat 1), ([((.ofNat 1), ([], ([], ()))), ((.ofNat 2), ([(.ofNat 65535), (.ofNat 0)], ([], ())))], ([], ([], (([], ((.ofNat 0), ([], ()))), ([], ((.ofNat 0), ((.ofNat 0), ())))))))), ()), ((.ofNat 0), ())),
  ((((.ofNat 1), ([((.ofNat 3), ([], ([((.ofNat 1000000), ((.ofNat 1000000), ((.ofNat 0), ((.ofNat 1), ((.ofNat 2), ((.ofNat 0), ()))))))], ()))), ((.ofNat 1), ([], ([], ())))], ([], ([], (([], ((.ofNat 0), ([], ()))), ([], ((.ofNat 0), ((.ofNat 0), ())))))))), ()), ((.ofNat 0), ()))] : List (((Int × (List (Int × (List Int × (List (Int × (Int × (Int × (Int × (Int × (Int × Unit)))))) × Unit))) × (List (List Int) × (List Int × ((List Int × (Int × (List Int × Unit))) × (List (Int × (Int × Unit)) × (Int × (Int × Unit)))))))) × Unit) × (Int × Unit)))⟩
def r2_75 : Row := ⟨75, (.pair .str .unit), (.pair (.int .i64) .unit), ([(([48], ()), ((.ofNat 0), ())),
  (([49,48,48,48,48,48,48], ()), ((.ofNat 0), ())),
  (([49], ()), ((.ofNat 0), ())),
  (([49,48,48,48,48,48,48,48,48,48,48,48,48], ()), ((.ofNat 0), ())),
  (([53,48,48,48,48,48,48,48,48,48,48,48], ()), ((.ofNat 0), ())),
  (([52], ()), ((.ofNat 0), ())),
  (([50,53,48,48,48,48,48,48,48,48,48,48], ()), ((.ofNat 0), ())),
  (([45,49], ()), ((.ofNat 0), ())),
  (([45,49,48,48,48,48,48,48,48,48,48,48,48,48], ()), ((.ofNat 0), ())),
  (([51], ()), ((.ofNat 0), ())),
  (([45,54,53,53,51,53], ()), ((.ofNat 0), ())),
  (([54,53,53,51,53], ()), ((.ofNat 0), ()))] : List ((List UInt8 × Unit) × (Int × Unit)))⟩
def r2_76 : Row := ⟨76, (.pair .str .unit), (.pair (.pair (.sl (.int .u32)) (.pair .bool .unit)) .unit), ([(([48], ()), (([], (false, ())), ())),
  (([52], ()), (([(.ofNat 4)], (false, ())), ())),
  (([51], ()), (([(.ofNat 3)], (false, ())), ()))] : List ((List UInt8 × Unit) × ((List Int × (Bool × Unit)) × Unit)))⟩
def r2_78 : Row := ⟨78, (.pair (.sl (.int .u32)) (.pair (.sl (.int .u32)) .unit)), (.pair (.sl (.int .u32)) .unit), ([(([(.ofNat 0), (.ofNat 1000)], ([(.ofNat 0), (.ofNat 1000)], ())), ([(.ofNat 0), (.ofNat 1000)], ()))] : List ((List Int × (List Int × Unit)) × (List Int × Unit)))⟩
def r2_89 : Row := ⟨89, (.pair (.pair (.pair (.sl (.int .u32)) (.pair .bool .unit)) (.pair (.sl (.int .u32)) .unit)) (.pair (.int .i64) .unit)), (.pair (.pair .str (.pair .str .unit)) (.pair (.int .i64) .unit)), ([(((([(.ofNat 1)], (false, ())), ([(.ofNat 3)], ())), ((.ofNat 0), ())), (([49], ([51], ())), ((.ofNat 0), ())))] : List ((((List Int × (Bool × Unit)) × (List Int × Unit)) × (Int × Unit)) × ((List UInt8 × (List UInt8 × Unit)) × (Int × Unit))))⟩
def r2_109 : Row := ⟨109, (.pair (.int .i64) (.pair (.int .i64) (.pair .bool .unit))), (.pair (.int .i64) (.pair .bool .unit)), ([(((.ofNat 500000000000), ((.ofNat 0), (false, ()))), ((.ofNat 0), (true, ()))),
  (((.ofNat 500000000000), ((.ofNat 0), (true, ()))), ((.ofNat 0), (true, ()))),
  (((.ofNat 500000000000), ((.ofNat 1000000000000), (false, ()))), ((.ofNat 500000000000), (true, ()))),
  (((.ofNat 500000000000), ((.ofNat 1000000000000), (true, ()))), ((.ofNat 500000000000), (true, ()))),
  (((.ofNat 1000000000000), ((.ofNat 0), (false, ()))), ((.ofNat 0), (true, ()))),
  (((.ofNat 1000000000000), ((.ofNat 0), (true, ()))), ((.ofNat 0), (true, ()))),
  (((.ofNat 1000000000000), ((.ofNat 1000000000000), (false, ()))), ((.ofNat 1000000000000), (true, ()))),
  (((.ofNat 1000000000000), ((.ofNat 1000000000000), (true, ()))), ((.ofNat 1000000000000), (true, ()))),
  (((.negSucc 999999999999), ((.ofNat 1000000000000), (false, ()))), ((.negSucc 999999999999), (true, ()))),
  (((.negSucc 999999999999), ((.ofNat 1000000000000), (true, ()))), ((.negSucc 999999999999), (true, ())))] : List ((Int × (Int × (Bool × Unit))) × (Int × (Bool × Unit))))⟩
def r2_135 : Row := ⟨135, (.pair (.sl (.int .u32)) (.pair (.sl (.int .u32)) .unit)), (.pair (.sl (.int .u32)) (.pair (.sl (.int .u32)) .unit)), ([(([(.ofNat 0), (.ofNat 1000)], ([(.ofNat 0), (.ofNat 1000)], ())), ([(.ofNat 1)], ([], ()))),
  (([(.ofNat 3)], ([(.ofNat 1)], ())), ([(.ofNat 3)], ([], ())))] : List ((List Int × (List Int × Unit)) × (List Int × (List Int × Unit))))⟩
def r2_153 : Row := ⟨153, (.pair (.pair (.pair (.sl (.int .u32)) (.pair .bool .unit)) (.pair (.sl (.int .u32)) .unit)) .unit), (.pair (.pair .str (.pair .str .unit)) (.pair (.int .i64) .unit)), ([(((([], (false, ())), ([(.ofNat 1)], ())), ()), (([48], ([49], ())), ((.ofNat 0), ()))),
  (((([(.ofNat 1)], (false, ())), ([(.ofNat 2)], ())), ()), (([49], ([50], ())), ((.ofNat 0), ()))),
  (((([(.ofNat 1)], (false, ())), ([(.ofNat 4)], ())), ()), (([49], ([52], ())), ((.ofNat 0), ()))),
  (((([(.ofNat 1)], (false, ())), ([(.ofNat 1)], ())), ()), (([49], ([49], ())), ((.ofNat 0), ()))),
  (((([(.ofNat 1)], (true, ())), ([(.ofNat 1)], ())), ()), (([45,49], ([49], ())), ((.ofNat 0), ())))] : List ((((List Int × (Bool × Unit)) × (List Int × Unit)) × Unit) × ((List UInt8 × (List UInt8 × Unit)) × (Int × Unit))))⟩
def r2_155 : Row := ⟨155, (.pair (.sl (.int .u32)) (.pair (.sl (.int .u32)) .unit)), (.pair (.sl (.int .u32)) .unit), ([(([(.ofNat 0), (.ofNat 1000)], ([(.ofNat 2)], ())), ([(.ofNat 0), (.ofNat 2000)], ())),
  (([(.ofNat 1)], ([(.ofNat 2)], ())), ([(.ofNat 2)], ())),
  (([(.ofNat 1)], ([(.ofNat 0), (.ofNat 2000)], ())), ([(.ofNat 0), (.ofNat 2000)], ())),
  (([(.ofNat 2)], ([(.ofNat 2)], ())), ([(.ofNat 4)], ())),
  (([(.ofNat 1)], ([(.ofNat 4)], ())), ([(.ofNat 4)], ())),
  (([(.ofNat 3)], ([(.ofNat 1)], ())), ([(.ofNat 3)], ())),
  (([(.ofNat 1)], ([(.ofNat 3)], ())), ([(.ofNat 3)], ()))] : List ((List Int × (List Int × Unit)) × (List Int × Unit)))⟩
def r2_156 : Row := ⟨156, (.pair (.pair (.sl (.int .u32)) (.pair .bool .unit)) (.pair (.sl (.int .u32)) .unit)), (.pair (.pair (.sl (.int .u32)) (.pair .bool .unit)) .unit), ([((([(.ofNat 1)], (true, ())), ([(.ofNat 1)], ())), (([(.ofNat 1)], (true, ())), ()))] : List (((List Int × (Bool × Unit)) × (List Int × Unit)) × ((List Int × (Bool × Unit)) × Unit)))⟩
def r2_217 : Row := ⟨217, (.pair (.pair .bool (.pair (.sl (.int .i64)) .unit)) (.pair (.pair .bool (.pair (.sl (.int .i64)) .unit)) .unit)), (.pair (.pair .bool (.pair (.sl (.int .i64)) .unit)) (.pair (.pair .bool (.pair (.sl (.int .i64)) .unit)) .unit)), ([(((false, ([(.ofNat 2)], ())), ((false, ([(.ofNat 1)], ())), ())), ((false, ([(.ofNat 2)], ())), ((false, ([], ())), ()))),
  (((false, ([(.ofNat 3)], ())), ((false, ([(.ofNat 1)], ())), ())), ((false, ([(.ofNat 3)], ())), ((false, ([], ())), ())))] : List (((Bool × (List Int × Unit)) × ((Bool × (List Int × Unit)) × Unit)) × ((Bool × (List Int × Unit)) × ((Bool × (List Int × Unit)) × Unit))))⟩
def rows2 : List Row := [r2_7, r2_75, r2_76, r2_78, r2_89, r2_109, r2_135, r2_153, r2_155, r2_156, r2_217]
theorem ok_r2_7 : okRows (pureKD Tryz.prog sigC 100000 ext1 40) [r2_7] = true := by kernel_rfl
theorem ok_r2_75 : okRows (pureKD Tryz.prog sigC 100000 ext1 40) [r2_75] = true := by kernel_rfl
theorem ok_r2_76 : okRows (pureKD Tryz.prog sigC 100000 ext1 40) [r2_76] = true := by kernel_rfl
theorem ok_r2_78 : okRows (pureKD Tryz.prog sigC 100000 ext1 40) [r2_78] = true := by kernel_rfl
theorem ok_r2_89 : okRows (pureKD Tryz.prog sigC 100000 ext1 40) [r2_89] = true := by kernel_rfl
theorem ok_r2_109 : okRows (pureKD Tryz.prog sigC 100000 ext1 40) [r2_109] = true := by kernel_rfl
theorem ok_r2_135 : okRows (pureKD Tryz.prog sigC 100000 ext1 40) [r2_135] = true := by kernel_rfl
theorem ok_r2_153 : okRows (pureKD Tryz.prog sigC 100000 ext1 40) [r2_153] = true := by kernel_rfl
theorem ok_r2_155 : okRows (pureKD Tryz.prog sigC 100000 ext1 40) [r2_155] = true := by kernel_rfl
theorem ok_r2_156 : okRows (pureKD Tryz.prog sigC 100000 ext1 40) [r2_156] = true := by kernel_rfl
theorem ok_r2_217 : okRows (pureKD Tryz.prog sigC 100000 ext1 40) [r2_217] = true := by kernel_rfl
def ext2 : PureT := firstR (extTab rows2) ext1
theorem ext2_ok : PureOk Tryz.prog (Gt Tryz.prog) ext2 := layer_ok gmono mixed enterSig ext1_ok 100000 40 (okRows_cons' ok_r2_7 (okRows_cons' ok_r2_75 (okRows_cons' ok_r2_76 (okRows_cons' ok_r2_78 (okRows_cons' ok_r2_89 (okRows_cons' ok_r2_109 (okRows_cons' ok_r2_135 (okRows_cons' ok_r2_153 (okRows_cons' ok_r2_155 (okRows_cons' ok_r2_156 (okRows_cons' ok_r2_217 (rfl))))))))))))
end Go.Vg
