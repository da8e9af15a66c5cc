/- Calls that have been run: layer 2. -/
import Derived.Test.YtehhddgeoekdlaaGreatDoorM1
namespace Go.Vg
open Go Go.Proofs
set_option maxRecDepth 1000000
set_option maxHeartbeats 0
def r2_6 : Row := ⟨6, (.pair (.pair (.int .i64) (.pair (.sl (.pair (.int .i64) (.pair (.sl (.pair (.int .i64) (.pair (.sl (.int .i64)) (.pair (.sl (.pair (.int .i64) (.pair (.int .i64) (.pair (.int .i64) (.pair (.int .i64) (.pair (.int .i64) (.pair (.int .i64) .unit))))))) .unit)))) (.pair (.sl (.sl (.int .i64))) (.pair (.sl (.int .i64)) (.pair (.pair (.sl (.int .i64)) (.pair (.int .i64) (.pair (.sl (.int .i64)) .unit))) (.pair (.sl (.pair (.int .i64) (.pair (.int .i64) .unit))) (.pair (.int .i64) (.pair (.int .i64) .unit))))))))) .unit)) .unit), (.pair (.int .i64) (.pair (.int .i64) .unit)), ([((((.ofNat 1), ([((.ofNat 2), ([], ([[(.ofNat 500000), (.ofNat 500000)], [(.ofNat 1000000), (.negSucc 999999)]], ([(.ofNat 0), (.ofNat 250000)], (([], ((.ofNat 0), ([], ()))), ([], ((.ofNat 0), ((.ofNat 0), ()))))))))], ())), ()), ((.ofNat 0), ((.ofNat 140), ()))),
  ((((.ofNat 2), ([((.ofNat 2), ([], ([[(.ofNat 500000), (.ofNat 500000)], [(.ofNat 1000000), (.negSucc 999999)]], ([(.ofNat 0), (.ofNat 250000)], (([], ((.ofNat 0), ([], ()))), ([], ((.ofNat 0), ((.ofNat 0), ())))))))), ((.ofNat 1), ([((.ofNat 1), ([], ([], ())))], ([], ([], (([], ((.ofNat 0), ([], ()))), ([], ((.ofNat 0), ((.ofNat 0), ()))))))))], ())), ()), ((.ofNat 0), ((.ofNat 140), ()))),
  ((((.ofNat 2), ([((.ofNat 2), ([], ([[(.ofNat 500000), (.ofNat 500000)], [(.ofNat 1000000), (.negSucc 999999)]], ([(.ofNat 0), (.ofNat 250000)], (([], ((.ofNat 0), ([], ()))), ([], ((.ofNat 0), ((.ofNat 0), ())))))))), ((.ofNat 0), ([], ([], ([], (([], ((.ofNat 0), ([], ()))), ([], ((.ofNat 0), ((.ofNat 0), ()))))))))], ())), ()), ((.ofNat 0), ((.ofNat 140), ()))),
  ((((.ofNat 1), ([((.ofNat 1), ([((.ofNat 1), ([], ([], ())))], ([], ([], (([], ((.ofNat 0), ([], ()))), ([], ((.ofNat 0), ((.ofNat 0), ())))))))), ((.ofNat 1), ([((.ofNat 1), ([], ([], ())))], ([], ([], (([], ((.ofNat 0), ([], ()))), ([], ((.ofNat 0), ((.ofNat 0), ())))))))), ((.ofNat 1), ([((.ofNat 1), ([], ([], ())))], ([], ([], (([], ((.ofNat 0), ([], ()))), ([], ((.ofNat 0), ((.ofNat 0), ())))))))), ((.ofNat 1), ([((.ofNat 1), ([], ([], ())))], ([], ([], (([], ((.ofNat 0), ([], ()))), ([], ((.ofNat 0), ((.ofNat 0), ())))))))), ((.ofNat 1), ([((.ofNat 1), ([], ([], ())))], ([], ([], (([], ((.ofNat 0), ([], ()))), ([], ((.ofNat 0), ((.ofNat 0), ())))))))), ((.ofNat 1), ([((.ofNat 1), ([], ([], ())))], ([], ([], (([], ((.ofNat 0), ([], ()))), ([], ((.ofNat 0), ((.ofNat 0), ())))))))), ((.ofNat 1), ([((.ofNat 1), ([], ([], ())))], ([], ([], (([], ((.ofNat 0), ([], ()))), ([], ((.ofNat 0), ((.ofNat 0), ())))))))), ((.ofNat 1), ([((.ofNat 1), ([], ([], ())))], ([], ([], (([], ((.ofNat 0), ([], ()))), ([], ((.ofNat 0), ((.ofNat 0), ()))))))))], ())), ()), ((.ofNat 1), ((.ofNat 0), ())))] : List (((Int × (List (Int × (List (Int × (List Int × (List (Int × (Int × (Int × (Int × (Int × (Int × Unit)))))) × Unit))) × (List (List Int) × (List Int × ((List Int × (Int × (List Int × Unit))) × (List (Int × (Int × Unit)) × (Int × (Int × Unit)))))))) × Unit)) × Unit) × (Int × (Int × Unit))))⟩
def r2_32 : Row := ⟨32, (.pair (.pair (.int .i64) (.pair (.sl (.pair (.int .i64) (.pair (.sl (.int .i64)) (.pair (.sl (.pair (.int .i64) (.pair (.int .i64) (.pair (.int .i64) (.pair (.int .i64) (.pair (.int .i64) (.pair (.int .i64) .unit))))))) .unit)))) (.pair (.sl (.sl (.int .i64))) (.pair (.sl (.int .i64)) (.pair (.pair (.sl (.int .i64)) (.pair (.int .i64) (.pair (.sl (.int .i64)) .unit))) (.pair (.sl (.pair (.int .i64) (.pair (.int .i64) .unit))) (.pair (.int .i64) (.pair (.int .i64) .unit)))))))) .unit), (.pair .bool .unit), ([((((.ofNat 1), ([((.ofNat 1), ([], ([], ())))], ([], ([], (([], ((.ofNat 0), ([], ()))), ([], ((.ofNat 0), ((.ofNat 0), ())))))))), ()), (false, ()))] : List (((Int × (List (Int × (List Int × (List (Int × (Int × (Int × (Int × (Int × (Int × Unit)))))) × Unit))) × (List (List Int) × (List Int × ((List Int × (Int × (List Int × Unit))) × (List (Int × (Int × Unit)) × (Int × (Int × Unit)))))))) × Unit) × (Bool × Unit)))⟩
def r2_62 : Row := ⟨62, (.pair (.pair (.int .i64) (.pair (.sl (.pair (.int .i64) (.pair (.sl (.int .i64)) (.pair (.sl (.pair (.int .i64) (.pair (.int .i64) (.pair (.int .i64) (.pair (.int .i64) (.pair (.int .i64) (.pair (.int .i64) .unit))))))) .unit)))) (.pair (.sl (.sl (.int .i64))) (.pair (.sl (.int .i64)) (.pair (.pair (.sl (.int .i64)) (.pair (.int .i64) (.pair (.sl (.int .i64)) .unit))) (.pair (.sl (.pair (.int .i64) (.pair (.int .i64) .unit))) (.pair (.int .i64) (.pair (.int .i64) .unit)))))))) .unit), (.pair (.int .i64) .unit), ([((((.ofNat 1), ([((.ofNat 1), ([], ([], ()))), ((.ofNat 2), ([(.ofNat 65535), (.ofNat 0)], ([], ())))], ([], ([], (([], ((.ofNat 0), ([], ()))), ([], ((.ofNat 0), ((.ofNat 0), ())))))))), ()), ((.ofNat 0), ()))] : List (((Int × (List (Int × (List Int × (List (Int × (Int × (Int × (Int × (Int × (Int × Unit)))))) × Unit))) × (List (List Int) × (List Int × ((List Int × (Int × (List Int × Unit))) × (List (Int × (Int × Unit)) × (Int × (Int × Unit)))))))) × Unit) × (Int × Unit)))⟩
def r2_75 : Row := ⟨75, (.pair .str .unit), (.pair (.int .i64) .unit), ([(([49], ()), ((.ofNat 0), ())),
  (([50], ()), ((.ofNat 0), ())),
  (([52], ()), ((.ofNat 0), ())),
  (([48], ()), ((.ofNat 0), ())),
  (([49,48,48,48,48,48,48], ()), ((.ofNat 0), ())),
  (([56], ()), ((.ofNat 0), ())),
  (([45,49], ()), ((.ofNat 0), ())),
  (([51], ()), ((.ofNat 0), ())),
  (([45,54,53,53,51,53], ()), ((.ofNat 0), ())),
  (([54,53,53,51,53], ()), ((.ofNat 0), ())),
  (([49,48,48,48,48,48,48,48,48,48,48,48,48], ()), ((.ofNat 0), ())),
  (([53,48,48,48,48,48,48,48,48,48,48,48], ()), ((.ofNat 0), ())),
  (([50,53,48,48,48,48,48,48,48,48,48,48], ()), ((.ofNat 0), ())),
  (([45,49,48,48,48,48,48,48,48,48,48,48,48,48], ()), ((.ofNat 0), ())),
  (([55,53,48,48,48,48,48,48,48,48,48,48], ()), ((.ofNat 0), ()))] : List ((List UInt8 × Unit) × (Int × Unit)))⟩
def r2_76 : Row := ⟨76, (.pair .str .unit), (.pair (.pair (.sl (.int .u32)) (.pair .bool .unit)) .unit), ([(([50], ()), (([(.ofNat 2)], (false, ())), ())),
  (([52], ()), (([(.ofNat 4)], (false, ())), ())),
  (([48], ()), (([], (false, ())), ())),
  (([56], ()), (([(.ofNat 8)], (false, ())), ())),
  (([51], ()), (([(.ofNat 3)], (false, ())), ()))] : List ((List UInt8 × Unit) × ((List Int × (Bool × Unit)) × Unit)))⟩
def r2_77 : Row := ⟨77, (.pair (.sl (.int .u32)) (.pair (.sl (.int .u32)) .unit)), (.pair (.sl (.int .u32)) .unit), ([(([(.ofNat 0), (.ofNat 1000)], ([(.ofNat 0), (.ofNat 1000)], ())), ([(.ofNat 0), (.ofNat 1000)], ()))] : List ((List Int × (List Int × Unit)) × (List Int × Unit)))⟩
def r2_80 : Row := ⟨80, (.pair (.pair (.sl (.int .u32)) (.pair .bool .unit)) (.pair (.sl (.int .u32)) .unit)), (.pair (.pair (.sl (.int .u32)) (.pair .bool .unit)) .unit), ([((([(.ofNat 1)], (true, ())), ([(.ofNat 1)], ())), (([(.ofNat 1)], (true, ())), ())),
  ((([(.ofNat 65535)], (true, ())), ([(.ofNat 1)], ())), (([(.ofNat 65535)], (true, ())), ()))] : List (((List Int × (Bool × Unit)) × (List Int × Unit)) × ((List Int × (Bool × Unit)) × Unit)))⟩
def r2_119 : Row := ⟨119, (.pair (.sl (.int .u32)) (.pair (.sl (.int .u32)) .unit)), (.pair (.sl (.int .u32)) (.pair (.sl (.int .u32)) .unit)), ([(([(.ofNat 3)], ([(.ofNat 1)], ())), ([(.ofNat 3)], ([], ()))),
  (([(.ofNat 0), (.ofNat 1000)], ([(.ofNat 0), (.ofNat 1000)], ())), ([(.ofNat 1)], ([], ()))),
  (([(.ofNat 0), (.ofNat 1000)], ([(.ofNat 0), (.ofNat 250)], ())), ([(.ofNat 4)], ([], ())))] : List ((List Int × (List Int × Unit)) × (List Int × (List Int × Unit))))⟩
def r2_123 : Row := ⟨123, (.pair (.sl (.int .u32)) (.pair (.sl (.int .u32)) .unit)), (.pair (.sl (.int .u32)) .unit), ([(([(.ofNat 1)], ([(.ofNat 2)], ())), ([(.ofNat 2)], ())),
  (([(.ofNat 1)], ([(.ofNat 4)], ())), ([(.ofNat 4)], ())),
  (([(.ofNat 2)], ([(.ofNat 2)], ())), ([(.ofNat 4)], ())),
  (([(.ofNat 1)], ([(.ofNat 8)], ())), ([(.ofNat 8)], ())),
  (([(.ofNat 3)], ([(.ofNat 1)], ())), ([(.ofNat 3)], ())),
  (([(.ofNat 2)], ([(.ofNat 1)], ())), ([(.ofNat 2)], ())),
  (([(.ofNat 0), (.ofNat 1000)], ([(.ofNat 2)], ())), ([(.ofNat 0), (.ofNat 2000)], ())),
  (([(.ofNat 1)], ([(.ofNat 0), (.ofNat 2000)], ())), ([(.ofNat 0), (.ofNat 2000)], ())),
  (([(.ofNat 4)], ([(.ofNat 2)], ())), ([(.ofNat 8)], ())),
  (([(.ofNat 4)], ([(.ofNat 1)], ())), ([(.ofNat 4)], ()))] : List ((List Int × (List Int × Unit)) × (List Int × Unit)))⟩
def r2_155 : Row := ⟨155, (.pair (.int .i64) (.pair (.int .i64) (.pair .bool .unit))), (.pair (.int .i64) (.pair .bool .unit)), ([(((.ofNat 500000000000), ((.ofNat 0), (false, ()))), ((.ofNat 0), (true, ()))),
  (((.ofNat 500000000000), ((.ofNat 0), (true, ()))), ((.ofNat 0), (true, ()))),
  (((.ofNat 500000000000), ((.ofNat 1000000000000), (false, ()))), ((.ofNat 500000000000), (true, ()))),
  (((.ofNat 500000000000), ((.ofNat 1000000000000), (true, ()))), ((.ofNat 500000000000), (true, ()))),
  (((.ofNat 1000000000000), ((.ofNat 0), (false, ()))), ((.ofNat 0), (true, ()))),
  (((.ofNat 1000000000000), ((.ofNat 0), (true, ()))), ((.ofNat 0), (true, ()))),
  (((.ofNat 1000000000000), ((.ofNat 1000000000000), (false, ()))), ((.ofNat 1000000000000), (true, ()))),
  (((.ofNat 1000000000000), ((.ofNat 1000000000000), (true, ()))), ((.ofNat 1000000000000), (true, ()))),
  (((.negSucc 999999999999), ((.ofNat 1000000000000), (false, ()))), ((.negSucc 999999999999), (true, ()))),
  (((.negSucc 999999999999), ((.ofNat 1000000000000), (true, ()))), ((.negSucc 999999999999), (true, ())))] : List ((Int × (Int × (Bool × Unit))) × (Int × (Bool × Unit))))⟩
def r2_181 : Row := ⟨181, (.pair (.pair .bool (.pair (.sl (.int .i64)) .unit)) (.pair (.pair .bool (.pair (.sl (.int .i64)) .unit)) .unit)), (.pair (.pair .bool (.pair (.sl (.int .i64)) .unit)) (.pair (.pair .bool (.pair (.sl (.int .i64)) .unit)) .unit)), ([(((false, ([(.ofNat 1)], ())), ((false, ([(.ofNat 1)], ())), ())), ((false, ([(.ofNat 1)], ())), ((false, ([], ())), ()))),
  (((false, ([(.ofNat 2)], ())), ((false, ([(.ofNat 1)], ())), ())), ((false, ([(.ofNat 2)], ())), ((false, ([], ())), ()))),
  (((false, ([(.ofNat 3)], ())), ((false, ([(.ofNat 1)], ())), ())), ((false, ([(.ofNat 3)], ())), ((false, ([], ())), ())))] : List (((Bool × (List Int × Unit)) × ((Bool × (List Int × Unit)) × Unit)) × ((Bool × (List Int × Unit)) × ((Bool × (List Int × Unit)) × Unit))))⟩
def r2_203 : Row := ⟨203, (.pair (.pair (.pair (.sl (.int .u32)) (.pair .bool .unit)) (.pair (.sl (.int .u32)) .unit)) .unit), (.pair (.pair .str (.pair .str .unit)) (.pair (.int .i64) .unit)), ([(((([], (false, ())), ([(.ofNat 1)], ())), ()), (([48], ([49], ())), ((.ofNat 0), ()))),
  (((([(.ofNat 1)], (false, ())), ([(.ofNat 2)], ())), ()), (([49], ([50], ())), ((.ofNat 0), ()))),
  (((([(.ofNat 1)], (false, ())), ([(.ofNat 4)], ())), ()), (([49], ([52], ())), ((.ofNat 0), ()))),
  (((([(.ofNat 1)], (false, ())), ([(.ofNat 1)], ())), ()), (([49], ([49], ())), ((.ofNat 0), ()))),
  (((([(.ofNat 3)], (false, ())), ([(.ofNat 4)], ())), ()), (([51], ([52], ())), ((.ofNat 0), ()))),
  (((([(.ofNat 1)], (true, ())), ([(.ofNat 1)], ())), ()), (([45,49], ([49], ())), ((.ofNat 0), ()))),
  (((([(.ofNat 65535)], (false, ())), ([(.ofNat 1)], ())), ()), (([54,53,53,51,53], ([49], ())), ((.ofNat 0), ())))] : List ((((List Int × (Bool × Unit)) × (List Int × Unit)) × Unit) × ((List UInt8 × (List UInt8 × Unit)) × (Int × Unit))))⟩
def r2_274 : Row := ⟨274, (.pair (.pair (.sl (.int .u32)) (.pair .bool .unit)) (.pair (.sl (.int .u32)) .unit)), (.pair (.pair (.sl (.int .u32)) (.pair .bool .unit)) .unit), ([((([(.ofNat 1)], (false, ())), ([(.ofNat 2)], ())), (([], (false, ())), ()))] : List (((List Int × (Bool × Unit)) × (List Int × Unit)) × ((List Int × (Bool × Unit)) × Unit)))⟩
def rows2 : List Row := [r2_6, r2_32, r2_62, r2_75, r2_76, r2_77, r2_80, r2_119, r2_123, r2_155, r2_181, r2_203, r2_274]
theorem ok_r2_6 : okRows (pureKD Tryz.prog sigC 100000 ext1 40) [r2_6] = true := by kernel_rfl
theorem ok_r2_32 : okRows (pureKD Tryz.prog sigC 100000 ext1 40) [r2_32] = true := by kernel_rfl
theorem ok_r2_62 : okRows (pureKD Tryz.prog sigC 100000 ext1 40) [r2_62] = true := by kernel_rfl
theorem ok_r2_75 : okRows (pureKD Tryz.prog sigC 100000 ext1 40) [r2_75] = true := by kernel_rfl
theorem ok_r2_76 : okRows (pureKD Tryz.prog sigC 100000 ext1 40) [r2_76] = true := by kernel_rfl
theorem ok_r2_77 : okRows (pureKD Tryz.prog sigC 100000 ext1 40) [r2_77] = true := by kernel_rfl
theorem ok_r2_80 : okRows (pureKD Tryz.prog sigC 100000 ext1 40) [r2_80] = true := by kernel_rfl
theorem ok_r2_119 : okRows (pureKD Tryz.prog sigC 100000 ext1 40) [r2_119] = true := by kernel_rfl
theorem ok_r2_123 : okRows (pureKD Tryz.prog sigC 100000 ext1 40) [r2_123] = true := by kernel_rfl
theorem ok_r2_155 : okRows (pureKD Tryz.prog sigC 100000 ext1 40) [r2_155] = true := by kernel_rfl
theorem ok_r2_181 : okRows (pureKD Tryz.prog sigC 100000 ext1 40) [r2_181] = true := by kernel_rfl
theorem ok_r2_203 : okRows (pureKD Tryz.prog sigC 100000 ext1 40) [r2_203] = true := by kernel_rfl
theorem ok_r2_274 : okRows (pureKD Tryz.prog sigC 100000 ext1 40) [r2_274] = true := by kernel_rfl
def ext2 : PureT := firstR (extTab rows2) ext1
theorem ext2_ok : PureOk Tryz.prog (Gt Tryz.prog) ext2 := layer_ok gmono mixed enterSig ext1_ok 100000 40 (okRows_cons' ok_r2_6 (okRows_cons' ok_r2_32 (okRows_cons' ok_r2_62 (okRows_cons' ok_r2_75 (okRows_cons' ok_r2_76 (okRows_cons' ok_r2_77 (okRows_cons' ok_r2_80 (okRows_cons' ok_r2_119 (okRows_cons' ok_r2_123 (okRows_cons' ok_r2_155 (okRows_cons' ok_r2_181 (okRows_cons' ok_r2_203 (okRows_cons' ok_r2_274 (rfl))))))))))))))
end Go.Vg
