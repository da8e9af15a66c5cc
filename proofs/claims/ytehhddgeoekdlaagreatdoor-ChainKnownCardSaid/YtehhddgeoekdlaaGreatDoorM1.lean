/- Calls that have been run: layer 1. -/
import Derived.Test.YtehhddgeoekdlaaGreatDoorExt
namespace Go.Vg
open Go Go.Proofs
set_option maxRecDepth 1000000
set_option maxHeartbeats 0
def r1_6 : Row := ⟨6, (.pair (.pair (.int .i64) (.pair (.sl (.pair (.int .i64) (.pair (.sl (.pair (.int .i64) (.pair (.sl (.int .i64)) (.pair (.sl (.pair (.int .i64) (.pair (.int .i64) (.pair (.int .i64) (.pair (.int .i64) (.pair (.int .i64) (.pair (.int .i64) .unit))))))) .unit)))) (.pair (.sl (.sl (.int .i64))) (.pair (.sl (.int .i64)) (.pair (.pair (.sl (.int .i64)) (.pair (.int .i64) (.pair (.sl (.int .i64)) .unit))) (.pair (.sl (.pair (.int .i64) (.pair (.int .i64) .unit))) (.pair (.int .i64) (.pair (.int .i64) .unit))))))))) .unit)) .unit), (.pair (.int .i64) (.pair (.int .i64) .unit)), ([((((.ofNat 5), ([], ())), ()), ((.ofNat 0), ((.ofNat 140), ()))),
  ((((.ofNat 1), ([((.ofNat 1), ([((.ofNat 1), ([], ([], ())))], ([], ([], (([], ((.ofNat 0), ([], ()))), ([], ((.ofNat 0), ((.ofNat 0), ())))))))), ((.ofNat 1), ([((.ofNat 1), ([], ([], ())))], ([], ([], (([], ((.ofNat 0), ([], ()))), ([], ((.ofNat 0), ((.ofNat 0), ())))))))), ((.ofNat 1), ([((.ofNat 1), ([], ([], ())))], ([], ([], (([], ((.ofNat 0), ([], ()))), ([], ((.ofNat 0), ((.ofNat 0), ())))))))), ((.ofNat 1), ([((.ofNat 1), ([], ([], ())))], ([], ([], (([], ((.ofNat 0), ([], ()))), ([], ((.ofNat 0), ((.ofNat 0), ())))))))), ((.ofNat 1), ([((.ofNat 1), ([], ([], ())))], ([], ([], (([], ((.ofNat 0), ([], ()))), ([], ((.ofNat 0), ((.ofNat 0), ())))))))), ((.ofNat 1), ([((.ofNat 1), ([], ([], ())))], ([], ([], (([], ((.ofNat 0), ([], ()))), ([], ((.ofNat 0), ((.ofNat 0), ())))))))), ((.ofNat 1), ([((.ofNat 1), ([], ([], ())))], ([], ([], (([], ((.ofNat 0), ([], ()))), ([], ((.ofNat 0), ((.ofNat 0), ())))))))), ((.ofNat 1), ([((.ofNat 1), ([], ([], ())))], ([], ([], (([], ((.ofNat 0), ([], ()))), ([], ((.ofNat 0), ((.ofNat 0), ())))))))), ((.ofNat 1), ([((.ofNat 1), ([], ([], ())))], ([], ([], (([], ((.ofNat 0), ([], ()))), ([], ((.ofNat 0), ((.ofNat 0), ()))))))))], ())), ()), ((.ofNat 0), ((.ofNat 140), ())))] : List (((Int × (List (Int × (List (Int × (List Int × (List (Int × (Int × (Int × (Int × (Int × (Int × Unit)))))) × Unit))) × (List (List Int) × (List Int × ((List Int × (Int × (List Int × Unit))) × (List (Int × (Int × Unit)) × (Int × (Int × Unit)))))))) × Unit)) × Unit) × (Int × (Int × Unit))))⟩
def r1_12 : Row := ⟨12, (.pair (.pair (.int .i64) (.pair (.sl (.pair (.int .i64) (.pair (.sl (.pair (.int .i64) (.pair (.sl (.int .i64)) (.pair (.sl (.pair (.int .i64) (.pair (.int .i64) (.pair (.int .i64) (.pair (.int .i64) (.pair (.int .i64) (.pair (.int .i64) .unit))))))) .unit)))) (.pair (.sl (.sl (.int .i64))) (.pair (.sl (.int .i64)) (.pair (.pair (.sl (.int .i64)) (.pair (.int .i64) (.pair (.sl (.int .i64)) .unit))) (.pair (.sl (.pair (.int .i64) (.pair (.int .i64) .unit))) (.pair (.int .i64) (.pair (.int .i64) .unit))))))))) .unit)) .unit), (.pair (.int .i64) .unit), ([((((.ofNat 0), ([], ())), ()), ((.ofNat 140), ())),
  ((((.negSucc 0), ([], ())), ()), ((.ofNat 140), ()))] : List (((Int × (List (Int × (List (Int × (List Int × (List (Int × (Int × (Int × (Int × (Int × (Int × Unit)))))) × Unit))) × (List (List Int) × (List Int × ((List Int × (Int × (List Int × Unit))) × (List (Int × (Int × Unit)) × (Int × (Int × Unit)))))))) × Unit)) × Unit) × (Int × Unit)))⟩
def r1_62 : Row := ⟨62, (.pair (.pair (.int .i64) (.pair (.sl (.pair (.int .i64) (.pair (.sl (.int .i64)) (.pair (.sl (.pair (.int .i64) (.pair (.int .i64) (.pair (.int .i64) (.pair (.int .i64) (.pair (.int .i64) (.pair (.int .i64) .unit))))))) .unit)))) (.pair (.sl (.sl (.int .i64))) (.pair (.sl (.int .i64)) (.pair (.pair (.sl (.int .i64)) (.pair (.int .i64) (.pair (.sl (.int .i64)) .unit))) (.pair (.sl (.pair (.int .i64) (.pair (.int .i64) .unit))) (.pair (.int .i64) (.pair (.int .i64) .unit)))))))) .unit), (.pair (.int .i64) .unit), ([((((.ofNat 2), ([], ([[(.ofNat 500000), (.ofNat 500000)], [(.ofNat 1000000), (.negSucc 999999)]], ([(.ofNat 0), (.ofNat 250000)], (([], ((.ofNat 0), ([], ()))), ([], ((.ofNat 0), ((.ofNat 0), ())))))))), ()), ((.ofNat 0), ())),
  ((((.ofNat 1), ([((.ofNat 1), ([], ([], ())))], ([], ([], (([], ((.ofNat 0), ([], ()))), ([], ((.ofNat 0), ((.ofNat 0), ())))))))), ()), ((.ofNat 0), ()))] : List (((Int × (List (Int × (List Int × (List (Int × (Int × (Int × (Int × (Int × (Int × Unit)))))) × Unit))) × (List (List Int) × (List Int × ((List Int × (Int × (List Int × Unit))) × (List (Int × (Int × Unit)) × (Int × (Int × Unit)))))))) × Unit) × (Int × Unit)))⟩
def r1_77 : Row := ⟨77, (.pair (.sl (.int .u32)) (.pair (.sl (.int .u32)) .unit)), (.pair (.sl (.int .u32)) .unit), ([(([(.ofNat 1)], ([(.ofNat 2)], ())), ([(.ofNat 1)], ())),
  (([(.ofNat 1)], ([(.ofNat 4)], ())), ([(.ofNat 1)], ())),
  (([(.ofNat 1)], ([(.ofNat 1)], ())), ([(.ofNat 1)], ())),
  (([], ([(.ofNat 1)], ())), ([(.ofNat 1)], ())),
  (([(.ofNat 3)], ([(.ofNat 4)], ())), ([(.ofNat 1)], ())),
  (([(.ofNat 1000000)], ([(.ofNat 1000000)], ())), ([(.ofNat 1000000)], ())),
  (([(.ofNat 3)], ([(.ofNat 2)], ())), ([(.ofNat 1)], ())),
  (([(.ofNat 65535)], ([(.ofNat 1)], ())), ([(.ofNat 1)], ())),
  (([(.ofNat 65535)], ([(.ofNat 2)], ())), ([(.ofNat 1)], ())),
  (([(.ofNat 65535)], ([(.ofNat 65535)], ())), ([(.ofNat 65535)], ())),
  (([(.ofNat 65535)], ([(.ofNat 4)], ())), ([(.ofNat 1)], ()))] : List ((List Int × (List Int × Unit)) × (List Int × Unit)))⟩
def r1_78 : Row := ⟨78, (.pair (.sl (.int .u32)) (.pair (.sl (.int .u32)) .unit)), (.pair (.int .i64) .unit), ([(([(.ofNat 1)], ([(.ofNat 2)], ())), ((.negSucc 0), ())),
  (([(.ofNat 1)], ([(.ofNat 4)], ())), ((.negSucc 0), ())),
  (([(.ofNat 3)], ([(.ofNat 1)], ())), ((.ofNat 1), ()))] : List ((List Int × (List Int × Unit)) × (Int × Unit)))⟩
def r1_80 : Row := ⟨80, (.pair (.pair (.sl (.int .u32)) (.pair .bool .unit)) (.pair (.sl (.int .u32)) .unit)), (.pair (.pair (.sl (.int .u32)) (.pair .bool .unit)) .unit), ([((([], (false, ())), ([(.ofNat 4)], ())), (([], (false, ())), ())),
  ((([], (false, ())), ([(.ofNat 2)], ())), (([], (false, ())), ())),
  ((([(.ofNat 3)], (false, ())), ([(.ofNat 4)], ())), (([(.ofNat 12)], (false, ())), ()))] : List (((List Int × (Bool × Unit)) × (List Int × Unit)) × ((List Int × (Bool × Unit)) × Unit)))⟩
def r1_81 : Row := ⟨81, (.pair (.pair (.sl (.int .u32)) (.pair .bool .unit)) (.pair (.pair (.sl (.int .u32)) (.pair .bool .unit)) .unit)), (.pair (.pair (.sl (.int .u32)) (.pair .bool .unit)) .unit), ([((([], (false, ())), (([(.ofNat 1)], (false, ())), ())), (([(.ofNat 1)], (false, ())), ())),
  ((([(.ofNat 1)], (false, ())), (([], (false, ())), ())), (([(.ofNat 1)], (false, ())), ())),
  ((([], (false, ())), (([], (false, ())), ())), (([], (false, ())), ()))] : List (((List Int × (Bool × Unit)) × ((List Int × (Bool × Unit)) × Unit)) × ((List Int × (Bool × Unit)) × Unit)))⟩
def r1_108 : Row := ⟨108, (.pair (.pair (.int .i64) (.pair (.sl (.int .i64)) (.pair (.sl (.pair (.int .i64) (.pair (.int .i64) (.pair (.int .i64) (.pair (.int .i64) (.pair (.int .i64) (.pair (.int .i64) .unit))))))) .unit))) .unit), (.pair (.int .i64) .unit), ([((((.ofNat 2), ([(.ofNat 65535), (.ofNat 0)], ([], ()))), ()), ((.ofNat 0), ()))] : List (((Int × (List Int × (List (Int × (Int × (Int × (Int × (Int × (Int × Unit)))))) × Unit))) × Unit) × (Int × Unit)))⟩
def r1_110 : Row := ⟨110, (.pair (.pair .bool (.pair (.sl (.int .i64)) .unit)) .unit), (.pair .str (.pair (.int .i64) .unit)), ([(((false, ([(.ofNat 1)], ())), ()), ([49], ((.ofNat 0), ()))),
  (((false, ([(.ofNat 2)], ())), ()), ([50], ((.ofNat 0), ()))),
  (((false, ([(.ofNat 3)], ())), ()), ([51], ((.ofNat 0), ())))] : List (((Bool × (List Int × Unit)) × Unit) × (List UInt8 × (Int × Unit))))⟩
def r1_112 : Row := ⟨112, (.pair (.int .i64) .unit), (.pair (.pair .bool (.pair (.sl (.int .i64)) .unit)) .unit), ([(((.ofNat 1), ()), ((false, ([(.ofNat 1)], ())), ())),
  (((.ofNat 2), ()), ((false, ([(.ofNat 2)], ())), ())),
  (((.ofNat 3), ()), ((false, ([(.ofNat 3)], ())), ()))] : List ((Int × Unit) × ((Bool × (List Int × Unit)) × Unit)))⟩
def r1_115 : Row := ⟨115, (.pair .str (.pair .str .unit)), (.pair .str (.pair .bool .unit)), ([(([49], ([45], ())), ([49], (false, ()))),
  (([50], ([45], ())), ([50], (false, ()))),
  (([52], ([45], ())), ([52], (false, ()))),
  (([48], ([45], ())), ([48], (false, ()))),
  (([49,48,48,48,48,48,48], ([45], ())), ([49,48,48,48,48,48,48], (false, ()))),
  (([53,48,48,48,48,48], ([45], ())), ([53,48,48,48,48,48], (false, ()))),
  (([56], ([45], ())), ([56], (false, ()))),
  (([50,53,48,48,48,48], ([45], ())), ([50,53,48,48,48,48], (false, ()))),
  (([45,49,48,48,48,48,48,48], ([45], ())), ([49,48,48,48,48,48,48], (true, ()))),
  (([45,49], ([45], ())), ([49], (true, ()))),
  (([51], ([45], ())), ([51], (false, ()))),
  (([45,54,53,53,51,53], ([45], ())), ([54,53,53,51,53], (true, ()))),
  (([54,53,53,51,53], ([45], ())), ([54,53,53,51,53], (false, ()))),
  (([49,48,48,48,48,48,48,48,48,48,48,48,48], ([45], ())), ([49,48,48,48,48,48,48,48,48,48,48,48,48], (false, ()))),
  (([53,48,48,48,48,48,48,48,48,48,48,48], ([45], ())), ([53,48,48,48,48,48,48,48,48,48,48,48], (false, ()))),
  (([50,53,48,48,48,48,48,48,48,48,48,48], ([45], ())), ([50,53,48,48,48,48,48,48,48,48,48,48], (false, ()))),
  (([45,49,48,48,48,48,48,48,48,48,48,48,48,48], ([45], ())), ([49,48,48,48,48,48,48,48,48,48,48,48,48], (true, ()))),
  (([49,57,54,54,48,53], ([45], ())), ([49,57,54,54,48,53], (false, ()))),
  (([55,53,48,48,48,48,48,48,48,48,48,48], ([45], ())), ([55,53,48,48,48,48,48,48,48,48,48,48], (false, ()))),
  (([49,48,48,48], ([45], ())), ([49,48,48,48], (false, ())))] : List ((List UInt8 × (List UInt8 × Unit)) × (List UInt8 × (Bool × Unit))))⟩
def r1_116 : Row := ⟨116, (.pair .str .unit), (.pair (.sl (.int .u32)) .unit), ([(([49], ()), ([(.ofNat 1)], ())),
  (([49,48,48,48,48,48,48], ()), ([(.ofNat 1000000)], ())),
  (([54,53,53,51,53], ()), ([(.ofNat 65535)], ())),
  (([49,48,48,48,48,48,48,48,48,48,48,48,48], ()), ([(.ofNat 0), (.ofNat 1000)], ()))] : List ((List UInt8 × Unit) × (List Int × Unit)))⟩
def r1_117 : Row := ⟨117, (.pair (.sl (.int .u32)) .unit), (.pair (.int .u64) .unit), ([(([(.ofNat 0), (.ofNat 1000)], ()), ((.ofNat 1000000000000), ()))] : List ((List Int × Unit) × (Int × Unit)))⟩
def r1_118 : Row := ⟨118, (.pair (.int .u64) .unit), (.pair (.sl (.int .u32)) .unit), ([(((.ofNat 1000000000000), ()), ([(.ofNat 0), (.ofNat 1000)], ())),
  (((.ofNat 250000000000), ()), ([(.ofNat 0), (.ofNat 250)], ()))] : List ((Int × Unit) × (List Int × Unit)))⟩
def r1_119 : Row := ⟨119, (.pair (.sl (.int .u32)) (.pair (.sl (.int .u32)) .unit)), (.pair (.sl (.int .u32)) (.pair (.sl (.int .u32)) .unit)), ([(([(.ofNat 1000000)], ([(.ofNat 1000000)], ())), ([(.ofNat 1)], ([], ()))),
  (([(.ofNat 1)], ([(.ofNat 1)], ())), ([(.ofNat 1)], ([], ()))),
  (([(.ofNat 2)], ([(.ofNat 1)], ())), ([(.ofNat 2)], ([], ()))),
  (([(.ofNat 4)], ([(.ofNat 1)], ())), ([(.ofNat 4)], ([], ()))),
  (([(.ofNat 4)], ([(.ofNat 4)], ())), ([(.ofNat 1)], ([], ()))),
  (([(.ofNat 2)], ([(.ofNat 2)], ())), ([(.ofNat 1)], ([], ()))),
  (([(.ofNat 4)], ([(.ofNat 2)], ())), ([(.ofNat 2)], ([], ()))),
  (([], ([(.ofNat 1)], ())), ([], ([], ()))),
  (([(.ofNat 65535)], ([(.ofNat 1)], ())), ([(.ofNat 65535)], ([], ()))),
  (([(.ofNat 65535)], ([(.ofNat 65535)], ())), ([(.ofNat 1)], ([], ())))] : List ((List Int × (List Int × Unit)) × (List Int × (List Int × Unit))))⟩
def r1_123 : Row := ⟨123, (.pair (.sl (.int .u32)) (.pair (.sl (.int .u32)) .unit)), (.pair (.sl (.int .u32)) .unit), ([(([(.ofNat 1)], ([(.ofNat 1)], ())), ([(.ofNat 1)], ())),
  (([(.ofNat 65535)], ([(.ofNat 1)], ())), ([(.ofNat 65535)], ())),
  (([(.ofNat 0), (.ofNat 1000)], ([(.ofNat 999000)], ())), ([(.ofNat 0), (.ofNat 999000000)], ())),
  (([], ([(.ofNat 1)], ())), ([], ())),
  (([(.ofNat 0), (.ofNat 500)], ([(.ofNat 1996007)], ())), ([(.ofNat 0), (.ofNat 998003500)], ())),
  (([(.ofNat 0), (.ofNat 250)], ([(.ofNat 3984063)], ())), ([(.ofNat 0), (.ofNat 996015750)], ()))] : List ((List Int × (List Int × Unit)) × (List Int × Unit)))⟩
def r1_125 : Row := ⟨125, (.pair (.sl (.int .u32)) (.pair (.sl (.int .u32)) .unit)), (.pair (.sl (.int .u32)) .unit), ([(([(.ofNat 3)], ([(.ofNat 1)], ())), ([(.ofNat 2)], ())),
  (([(.ofNat 1)], ([(.ofNat 1)], ())), ([], ()))] : List ((List Int × (List Int × Unit)) × (List Int × Unit)))⟩
def r1_182 : Row := ⟨182, (.pair .bool (.pair (.sl (.int .i64)) .unit)), (.pair (.pair .bool (.pair (.sl (.int .i64)) .unit)) .unit), ([((true, ([(.ofNat 1)], ())), ((true, ([(.ofNat 1)], ())), ()))] : List ((Bool × (List Int × Unit)) × ((Bool × (List Int × Unit)) × Unit)))⟩
def r1_183 : Row := ⟨183, (.pair .str .unit), (.pair (.sl (.int .u32)) .unit), ([(([49], ()), ([(.ofNat 1)], ())),
  (([49,48,48,48,48,48,48], ()), ([(.ofNat 1000000)], ())),
  (([54,53,53,51,53], ()), ([(.ofNat 65535)], ())),
  (([49,48,48,48,48,48,48,48,48,48,48,48,48], ()), ([(.ofNat 0), (.ofNat 1000)], ()))] : List ((List UInt8 × Unit) × (List Int × Unit)))⟩
def r1_185 : Row := ⟨185, (.pair (.sl (.int .u32)) .unit), (.pair (.sl (.int .u32)) .unit), ([(([(.ofNat 2), (.ofNat 0)], ()), ([(.ofNat 2)], ())),
  (([(.ofNat 4), (.ofNat 0)], ()), ([(.ofNat 4)], ())),
  (([(.ofNat 8), (.ofNat 0)], ()), ([(.ofNat 8)], ())),
  (([(.ofNat 3), (.ofNat 0)], ()), ([(.ofNat 3)], ())),
  (([(.ofNat 0), (.ofNat 2000), (.ofNat 0)], ()), ([(.ofNat 0), (.ofNat 2000)], ())),
  (([(.ofNat 0), (.ofNat 0)], ()), ([], ()))] : List ((List Int × Unit) × (List Int × Unit)))⟩
def r1_235 : Row := ⟨235, (.pair (.int .u64) (.pair (.int .u64) .unit)), (.pair (.int .u64) (.pair (.int .u64) .unit)), ([(((.ofNat 500000000000), ((.ofNat 0), ())), ((.ofNat 0), ((.ofNat 0), ()))),
  (((.ofNat 500000000000), ((.ofNat 1000000000000), ())), ((.ofNat 27105), ((.ofNat 1001882102603448320), ()))),
  (((.ofNat 1000000000000), ((.ofNat 0), ())), ((.ofNat 0), ((.ofNat 0), ()))),
  (((.ofNat 1000000000000), ((.ofNat 1000000000000), ())), ((.ofNat 54210), ((.ofNat 2003764205206896640), ())))] : List ((Int × (Int × Unit)) × (Int × (Int × Unit))))⟩
def r1_237 : Row := ⟨237, (.pair (.int .u64) (.pair (.int .u64) (.pair (.int .u64) .unit))), (.pair (.int .u64) (.pair (.int .u64) .unit)), ([(((.ofNat 27105), ((.ofNat 1001882102603448320), ((.ofNat 1000000000000), ()))), ((.ofNat 500000000000), ((.ofNat 0), ()))),
  (((.ofNat 54210), ((.ofNat 2003764205206896640), ((.ofNat 1000000000000), ()))), ((.ofNat 1000000000000), ((.ofNat 0), ())))] : List ((Int × (Int × (Int × Unit))) × (Int × (Int × Unit))))⟩
def r1_268 : Row := ⟨268, (.pair (.sl (.int .i64)) (.pair (.sl (.int .i64)) .unit)), (.pair (.sl (.int .i64)) (.pair (.sl (.int .i64)) .unit)), ([(([(.ofNat 2)], ([(.ofNat 1)], ())), ([(.ofNat 2)], ([], ()))),
  (([(.ofNat 1)], ([(.ofNat 1)], ())), ([(.ofNat 1)], ([], ()))),
  (([(.ofNat 4)], ([(.ofNat 1)], ())), ([(.ofNat 4)], ([], ()))),
  (([(.ofNat 3)], ([(.ofNat 2)], ())), ([(.ofNat 1)], ([(.ofNat 1)], ()))),
  (([(.ofNat 3)], ([(.ofNat 1)], ())), ([(.ofNat 3)], ([], ()))),
  (([], ([(.ofNat 1)], ())), ([], ([], ()))),
  (([(.ofNat 1000)], ([(.ofNat 1)], ())), ([(.ofNat 1000)], ([], ())))] : List ((List Int × (List Int × Unit)) × (List Int × (List Int × Unit))))⟩
def r1_275 : Row := ⟨275, (.pair (.pair (.sl (.int .u32)) (.pair .bool .unit)) .unit), (.pair .str .unit), ([((([(.ofNat 3)], (false, ())), ()), ([51], ()))] : List (((List Int × (Bool × Unit)) × Unit) × (List UInt8 × Unit)))⟩
def r1_283 : Row := ⟨283, (.pair (.sl (.int .u32)) .unit), (.pair .str .unit), ([(([(.ofNat 1)], ()), ([49], ())),
  (([(.ofNat 2)], ()), ([50], ())),
  (([(.ofNat 4)], ()), ([52], ())),
  (([(.ofNat 8)], ()), ([56], ())),
  (([(.ofNat 65535)], ()), ([54,53,53,51,53], ())),
  (([(.ofNat 0), (.ofNat 1000)], ()), ([49,48,48,48,48,48,48,48,48,48,48,48,48], ()))] : List ((List Int × Unit) × (List UInt8 × Unit)))⟩
def r1_294 : Row := ⟨294, (.pair (.pair (.pair (.sl (.int .u32)) (.pair .bool .unit)) (.pair (.sl (.int .u32)) .unit)) .unit), (.pair (.pair (.pair (.sl (.int .u32)) (.pair .bool .unit)) (.pair (.sl (.int .u32)) .unit)) .unit), ([(((([], (false, ())), ([(.ofNat 1)], ())), ()), ((([], (false, ())), ([(.ofNat 1)], ())), ()))] : List ((((List Int × (Bool × Unit)) × (List Int × Unit)) × Unit) × (((List Int × (Bool × Unit)) × (List Int × Unit)) × Unit)))⟩
def rows1 : List Row := [r1_6, r1_12, r1_62, r1_77, r1_78, r1_80, r1_81, r1_108, r1_110, r1_112, r1_115, r1_116, r1_117, r1_118, r1_119, r1_123, r1_125, r1_182, r1_183, r1_185, r1_235, r1_237, r1_268, r1_275, r1_283, r1_294]
theorem ok_r1_6 : okRows (pureKD Tryz.prog sigC 100000 ext0 40) [r1_6] = true := by kernel_rfl
theorem ok_r1_12 : okRows (pureKD Tryz.prog sigC 100000 ext0 40) [r1_12] = true := by kernel_rfl
theorem ok_r1_62 : okRows (pureKD Tryz.prog sigC 100000 ext0 40) [r1_62] = true := by kernel_rfl
theorem ok_r1_77 : okRows (pureKD Tryz.prog sigC 100000 ext0 40) [r1_77] = true := by kernel_rfl
theorem ok_r1_78 : okRows (pureKD Tryz.prog sigC 100000 ext0 40) [r1_78] = true := by kernel_rfl
theorem ok_r1_80 : okRows (pureKD Tryz.prog sigC 100000 ext0 40) [r1_80] = true := by kernel_rfl
theorem ok_r1_81 : okRows (pureKD Tryz.prog sigC 100000 ext0 40) [r1_81] = true := by kernel_rfl
theorem ok_r1_108 : okRows (pureKD Tryz.prog sigC 100000 ext0 40) [r1_108] = true := by kernel_rfl
theorem ok_r1_110 : okRows (pureKD Tryz.prog sigC 100000 ext0 40) [r1_110] = true := by kernel_rfl
theorem ok_r1_112 : okRows (pureKD Tryz.prog sigC 100000 ext0 40) [r1_112] = true := by kernel_rfl
theorem ok_r1_115 : okRows (pureKD Tryz.prog sigC 100000 ext0 40) [r1_115] = true := by kernel_rfl
theorem ok_r1_116 : okRows (pureKD Tryz.prog sigC 100000 ext0 40) [r1_116] = true := by kernel_rfl
theorem ok_r1_117 : okRows (pureKD Tryz.prog sigC 100000 ext0 40) [r1_117] = true := by kernel_rfl
theorem ok_r1_118 : okRows (pureKD Tryz.prog sigC 100000 ext0 40) [r1_118] = true := by kernel_rfl
theorem ok_r1_119 : okRows (pureKD Tryz.prog sigC 100000 ext0 40) [r1_119] = true := by kernel_rfl
theorem ok_r1_123 : okRows (pureKD Tryz.prog sigC 100000 ext0 40) [r1_123] = true := by kernel_rfl
theorem ok_r1_125 : okRows (pureKD Tryz.prog sigC 100000 ext0 40) [r1_125] = true := by kernel_rfl
theorem ok_r1_182 : okRows (pureKD Tryz.prog sigC 100000 ext0 40) [r1_182] = true := by kernel_rfl
theorem ok_r1_183 : okRows (pureKD Tryz.prog sigC 100000 ext0 40) [r1_183] = true := by kernel_rfl
theorem ok_r1_185 : okRows (pureKD Tryz.prog sigC 100000 ext0 40) [r1_185] = true := by kernel_rfl
theorem ok_r1_235 : okRows (pureKD Tryz.prog sigC 100000 ext0 40) [r1_235] = true := by kernel_rfl
theorem ok_r1_237 : okRows (pureKD Tryz.prog sigC 100000 ext0 40) [r1_237] = true := by kernel_rfl
theorem ok_r1_268 : okRows (pureKD Tryz.prog sigC 100000 ext0 40) [r1_268] = true := by kernel_rfl
theorem ok_r1_275 : okRows (pureKD Tryz.prog sigC 100000 ext0 40) [r1_275] = true := by kernel_rfl
theorem ok_r1_283 : okRows (pureKD Tryz.prog sigC 100000 ext0 40) [r1_283] = true := by kernel_rfl
theorem ok_r1_294 : okRows (pureKD Tryz.prog sigC 100000 ext0 40) [r1_294] = true := by kernel_rfl
theorem okRows_cons' {pf : PureT} {r : Row} {rs : List Row} (h1 : okRows pf [r] = true) (h2 : okRows pf rs = true) : okRows pf (r :: rs) = true := by
  simp only [okRows] at h1 ⊢
  split at h1
  · exact h2
  · cases h1
def ext1 : PureT := firstR (extTab rows1) ext0
theorem ext1_ok : PureOk Tryz.prog (Gt Tryz.prog) ext1 := layer_ok gmono mixed enterSig ext0_ok 100000 40 (okRows_cons' ok_r1_6 (okRows_cons' ok_r1_12 (okRows_cons' ok_r1_62 (okRows_cons' ok_r1_77 (okRows_cons' ok_r1_78 (okRows_cons' ok_r1_80 (okRows_cons' ok_r1_81 (okRows_cons' ok_r1_108 (okRows_cons' ok_r1_110 (okRows_cons' ok_r1_112 (okRows_cons' ok_r1_115 (okRows_cons' ok_r1_116 (okRows_cons' ok_r1_117 (okRows_cons' ok_r1_118 (okRows_cons' ok_r1_119 (okRows_cons' ok_r1_123 (okRows_cons' ok_r1_125 (okRows_cons' ok_r1_182 (okRows_cons' ok_r1_183 (okRows_cons' ok_r1_185 (okRows_cons' ok_r1_235 (okRows_cons' ok_r1_237 (okRows_cons' ok_r1_268 (okRows_cons' ok_r1_275 (okRows_cons' ok_r1_283 (okRows_cons' ok_r1_294 (rfl)))))))))))))))))))))))))))
end Go.Vg
