/- Calls that have been run: layer 1. -/
import Derived.Test.YtppdgoopcklgcaaGreatDoorExt
namespace Go.Vg
open Go Go.Proofs
set_option maxRecDepth 1000000
set_option maxHeartbeats 0
def r1_28 : Row := ⟨28, (.pair (.pair (.int .i64) (.pair (.sl (.int .i64)) (.pair (.sl (.pair (.int .i64) (.pair (.int .i64) (.pair (.int .i64) (.pair (.int .i64) (.pair (.int .i64) (.pair (.int .i64) .unit))))))) .unit))) .unit), (.pair (.int .i64) .unit), ([((((.ofNat 3), ([], ([((.ofNat 1000000), ((.ofNat 1000000), ((.ofNat 0), ((.ofNat 1), ((.ofNat 2), ((.ofNat 0), ()))))))], ()))), ()), ((.ofNat 0), ())),
  ((((.ofNat 2), ([(.ofNat 0), (.ofNat 65535), (.ofNat 0)], ([], ()))), ()), ((.ofNat 0), ())),
  ((((.ofNat 3), ([], ([((.ofNat 500000), ((.ofNat 1000000), ((.ofNat 0), ((.ofNat 1), ((.ofNat 1), ((.ofNat 0), ())))))), ((.ofNat 1000000), ((.ofNat 2000000), ((.negSucc 999999), ((.ofNat 2), ((.ofNat 1), ((.ofNat 500000), ()))))))], ()))), ()), ((.ofNat 0), ())),
  ((((.ofNat 3), ([], ([((.ofNat 999999), ((.ofNat 0), ((.ofNat 0), ((.ofNat 1), ((.ofNat 1), ((.ofNat 0), ()))))))], ()))), ()), ((.ofNat 90), ())),
  ((((.ofNat 3), ([], ([((.ofNat 1000000), ((.ofNat 100000001), ((.ofNat 0), ((.ofNat 1), ((.ofNat 1), ((.ofNat 0), ()))))))], ()))), ()), ((.ofNat 90), ())),
  ((((.ofNat 3), ([], ([((.ofNat 1000000), ((.ofNat 0), ((.negSucc 100000000), ((.ofNat 1), ((.ofNat 1), ((.ofNat 0), ()))))))], ()))), ()), ((.ofNat 90), ())),
  ((((.ofNat 3), ([], ([((.ofNat 1000000), ((.ofNat 0), ((.ofNat 0), ((.ofNat 1), ((.ofNat 1), ((.ofNat 100000001), ()))))))], ()))), ()), ((.ofNat 90), ())),
  ((((.ofNat 3), ([], ([((.ofNat 1000000), ((.ofNat 0), ((.ofNat 0), ((.ofNat 0), ((.ofNat 1), ((.ofNat 0), ()))))))], ()))), ()), ((.ofNat 90), ())),
  ((((.ofNat 3), ([], ([((.ofNat 1000000), ((.ofNat 0), ((.ofNat 0), ((.ofNat 37), ((.ofNat 1), ((.ofNat 0), ()))))))], ()))), ()), ((.ofNat 90), ())),
  ((((.ofNat 3), ([], ([((.ofNat 1000000), ((.ofNat 0), ((.ofNat 0), ((.ofNat 1), ((.ofNat 0), ((.ofNat 0), ()))))))], ()))), ()), ((.ofNat 90), ())),
  ((((.ofNat 3), ([], ([((.ofNat 1000000), ((.ofNat 0), ((.ofNat 0), ((.ofNat 1), ((.ofNat 13), ((.ofNat 0), ()))))))], ()))), ()), ((.ofNat 90), ())),
  ((((.ofNat 3), ([], ([((.ofNat 1000000), ((.ofNat 0), ((.ofNat 0), ((.ofNat 2), ((.ofNat 4), ((.ofNat 0), ()))))))], ()))), ()), ((.ofNat 90), ())),
  ((((.ofNat 3), ([], ([((.ofNat 1000000), ((.ofNat 0), ((.ofNat 0), ((.ofNat 1), ((.ofNat 1), ((.ofNat 0), ())))))), ((.ofNat 1000000), ((.ofNat 0), ((.ofNat 0), ((.ofNat 1), ((.ofNat 1), ((.ofNat 0), ()))))))], ()))), ()), ((.ofNat 90), ())),
  ((((.ofNat 3), ([], ([], ()))), ()), ((.ofNat 90), ())),
  ((((.ofNat 2), ([(.ofNat 0), (.ofNat 65536)], ([], ()))), ()), ((.ofNat 90), ())),
  ((((.ofNat 2), ([(.ofNat 0), (.negSucc 0)], ([], ()))), ()), ((.ofNat 90), ())),
  ((((.ofNat 3), ([], ([((.ofNat 500000), ((.ofNat 0), ((.ofNat 0), ((.ofNat 1), ((.ofNat 1), ((.ofNat 0), ())))))), ((.ofNat 1000000), ((.ofNat 0), ((.ofNat 0), ((.ofNat 1), ((.ofNat 1), ((.ofNat 1000000), ()))))))], ()))), ()), ((.ofNat 0), ())),
  ((((.ofNat 3), ([], ([((.ofNat 1000000), ((.ofNat 2000000), ((.negSucc 999999), ((.ofNat 1), ((.ofNat 1), ((.ofNat 0), ()))))))], ()))), ()), ((.ofNat 0), ()))] : List (((Int × (List Int × (List (Int × (Int × (Int × (Int × (Int × (Int × Unit)))))) × Unit))) × Unit) × (Int × Unit)))⟩
def r1_41 : Row := ⟨41, (.pair (.int .i64) .unit), (.pair (.pair .bool (.pair (.sl (.int .i64)) .unit)) .unit), ([(((.ofNat 1), ()), ((false, ([(.ofNat 1)], ())), ())),
  (((.ofNat 4), ()), ((false, ([(.ofNat 4)], ())), ())),
  (((.ofNat 2), ()), ((false, ([(.ofNat 2)], ())), ()))] : List ((Int × Unit) × ((Bool × (List Int × Unit)) × Unit)))⟩
def r1_56 : Row := ⟨56, (.pair (.pair (.int .i64) (.pair (.int .i64) .unit)) (.pair (.int .i64) (.pair (.int .i64) .unit))), (.pair (.pair (.int .i64) (.pair (.int .i64) .unit)) (.pair (.int .i64) .unit)), ([((((.ofNat 0), ((.ofNat 0), ())), ((.ofNat 0), ((.ofNat 1000000000000), ()))), (((.ofNat 0), ((.ofNat 0), ())), ((.ofNat 0), ())))] : List (((Int × (Int × Unit)) × (Int × (Int × Unit))) × ((Int × (Int × Unit)) × (Int × Unit))))⟩
def r1_85 : Row := ⟨85, (.pair (.pair .bool (.pair (.sl (.int .i64)) .unit)) .unit), (.pair .str (.pair (.int .i64) .unit)), ([(((false, ([(.ofNat 1)], ())), ()), ([49], ((.ofNat 0), ()))),
  (((false, ([(.ofNat 4)], ())), ()), ([52], ((.ofNat 0), ()))),
  (((false, ([(.ofNat 2)], ())), ()), ([50], ((.ofNat 0), ())))] : List (((Bool × (List Int × Unit)) × Unit) × (List UInt8 × (Int × Unit))))⟩
def r1_136 : Row := ⟨136, (.pair (.sl (.int .i64)) (.pair (.sl (.int .i64)) .unit)), (.pair (.sl (.int .i64)) (.pair (.sl (.int .i64)) .unit)), ([(([(.ofNat 4)], ([(.ofNat 1)], ())), ([(.ofNat 4)], ([], ()))),
  (([(.ofNat 1)], ([(.ofNat 1)], ())), ([(.ofNat 1)], ([], ()))),
  (([(.ofNat 2)], ([(.ofNat 1)], ())), ([(.ofNat 2)], ([], ()))),
  (([], ([(.ofNat 1)], ())), ([], ([], ()))),
  (([(.ofNat 3)], ([(.ofNat 1)], ())), ([(.ofNat 3)], ([], ())))] : List ((List Int × (List Int × Unit)) × (List Int × (List Int × Unit))))⟩
def r1_141 : Row := ⟨141, (.pair (.sl (.int .u32)) (.pair (.sl (.int .u32)) .unit)), (.pair (.sl (.int .u32)) .unit), ([(([], ([(.ofNat 1)], ())), ([(.ofNat 1)], ())),
  (([(.ofNat 1)], ([(.ofNat 1)], ())), ([(.ofNat 1)], ())),
  (([(.ofNat 1000000)], ([(.ofNat 1000000)], ())), ([(.ofNat 1000000)], ())),
  (([(.ofNat 1000000)], ([(.ofNat 1)], ())), ([(.ofNat 1)], ())),
  (([(.ofNat 250000)], ([(.ofNat 1)], ())), ([(.ofNat 1)], ())),
  (([], ([(.ofNat 1000000)], ())), ([(.ofNat 1000000)], ())),
  (([(.ofNat 2)], ([(.ofNat 1)], ())), ([(.ofNat 1)], ())),
  (([(.ofNat 2)], ([(.ofNat 4)], ())), ([(.ofNat 2)], ())),
  (([(.ofNat 1)], ([(.ofNat 2)], ())), ([(.ofNat 1)], ())),
  (([(.ofNat 65535)], ([(.ofNat 1)], ())), ([(.ofNat 1)], ())),
  (([(.ofNat 65535)], ([(.ofNat 2)], ())), ([(.ofNat 1)], ())),
  (([(.ofNat 65535)], ([(.ofNat 65535)], ())), ([(.ofNat 65535)], ())),
  (([(.ofNat 3)], ([(.ofNat 1)], ())), ([(.ofNat 1)], ())),
  (([(.ofNat 3)], ([(.ofNat 2)], ())), ([(.ofNat 1)], ())),
  (([(.ofNat 500000)], ([(.ofNat 1000000)], ())), ([(.ofNat 500000)], ())),
  (([(.ofNat 2000000)], ([(.ofNat 1)], ())), ([(.ofNat 1)], ())),
  (([(.ofNat 2000000)], ([(.ofNat 4)], ())), ([(.ofNat 4)], ())),
  (([(.ofNat 500000)], ([(.ofNat 1)], ())), ([(.ofNat 1)], ()))] : List ((List Int × (List Int × Unit)) × (List Int × Unit)))⟩
def r1_142 : Row := ⟨142, (.pair (.sl (.int .u32)) (.pair (.sl (.int .u32)) .unit)), (.pair (.int .i64) .unit), ([(([], ([(.ofNat 1)], ())), ((.negSucc 0), ())),
  (([(.ofNat 1)], ([(.ofNat 2)], ())), ((.negSucc 0), ())),
  (([(.ofNat 2)], ([(.ofNat 1)], ())), ((.ofNat 1), ())),
  (([(.ofNat 3)], ([(.ofNat 2)], ())), ((.ofNat 1), ()))] : List ((List Int × (List Int × Unit)) × (Int × Unit)))⟩
def r1_147 : Row := ⟨147, (.pair (.pair (.sl (.int .u32)) (.pair .bool .unit)) .unit), (.pair .str .unit), ([((([(.ofNat 3)], (false, ())), ()), ([51], ()))] : List (((List Int × (Bool × Unit)) × Unit) × (List UInt8 × Unit)))⟩
def r1_163 : Row := ⟨163, (.pair (.pair (.int .i64) (.pair (.int .i64) .unit)) (.pair (.pair (.int .i64) (.pair (.int .i64) .unit)) .unit)), (.pair (.pair (.int .i64) (.pair (.int .i64) .unit)) (.pair (.int .i64) .unit)), ([((((.ofNat 0), ((.ofNat 0), ())), (((.ofNat 0), ((.ofNat 0), ())), ())), (((.ofNat 0), ((.ofNat 0), ())), ((.ofNat 0), ())))] : List (((Int × (Int × Unit)) × ((Int × (Int × Unit)) × Unit)) × ((Int × (Int × Unit)) × (Int × Unit))))⟩
def r1_174 : Row := ⟨174, (.pair .str (.pair .str .unit)), (.pair .str (.pair .bool .unit)), ([(([49], ([45], ())), ([49], (false, ()))),
  (([52], ([45], ())), ([52], (false, ()))),
  (([48], ([45], ())), ([48], (false, ()))),
  (([49,48,48,48,48,48,48], ([45], ())), ([49,48,48,48,48,48,48], (false, ()))),
  (([50,53,48,48,48,48,48,48,48,48,48,48], ([45], ())), ([50,53,48,48,48,48,48,48,48,48,48,48], (false, ()))),
  (([49,48,48,48,48,48,48,48,48,48,48,48,48], ([45], ())), ([49,48,48,48,48,48,48,48,48,48,48,48,48], (false, ()))),
  (([50,53,48,48,48,48], ([45], ())), ([50,53,48,48,48,48], (false, ()))),
  (([53,48,48,48,48,48,48,48,48,48,48,48], ([45], ())), ([53,48,48,48,48,48,48,48,48,48,48,48], (false, ()))),
  (([50], ([45], ())), ([50], (false, ()))),
  (([54,53,53,51,53], ([45], ())), ([54,53,53,51,53], (false, ()))),
  (([55,53,48,48,48,48,48,48,48,48,48,48], ([45], ())), ([55,53,48,48,48,48,48,48,48,48,48,48], (false, ()))),
  (([51], ([45], ())), ([51], (false, ()))),
  (([45,54,53,53,51,53], ([45], ())), ([54,53,53,51,53], (true, ()))),
  (([53,48,48,48,48,48], ([45], ())), ([53,48,48,48,48,48], (false, ()))),
  (([50,48,48,48,48,48,48], ([45], ())), ([50,48,48,48,48,48,48], (false, ()))),
  (([45,49,48,48,48,48,48,48], ([45], ())), ([49,48,48,48,48,48,48], (true, ()))),
  (([49,53,48,48,48,48,48], ([45], ())), ([49,53,48,48,48,48,48], (false, ()))),
  (([53,48,48,48,48,48,48,48,48,48,48,49], ([45], ())), ([53,48,48,48,48,48,48,48,48,48,48,49], (false, ()))),
  (([53,48,48,48,48,49], ([45], ())), ([53,48,48,48,48,49], (false, ()))),
  (([45,53,48,48,48,48,48], ([45], ())), ([53,48,48,48,48,48], (true, ()))),
  (([45,49], ([45], ())), ([49], (true, ())))] : List ((List UInt8 × (List UInt8 × Unit)) × (List UInt8 × (Bool × Unit))))⟩
def r1_175 : Row := ⟨175, (.pair .str .unit), (.pair (.sl (.int .u32)) .unit), ([(([49], ()), ([(.ofNat 1)], ())),
  (([49,48,48,48,48,48,48], ()), ([(.ofNat 1000000)], ())),
  (([54,53,53,51,53], ()), ([(.ofNat 65535)], ())),
  (([53,48,48,48,48,48], ()), ([(.ofNat 500000)], ()))] : List ((List UInt8 × Unit) × (List Int × Unit)))⟩
def r1_176 : Row := ⟨176, (.pair (.sl (.int .u32)) .unit), (.pair (.int .u64) .unit), ([(([(.ofNat 0), (.ofNat 1000)], ()), ((.ofNat 1000000000000), ())),
  (([(.ofNat 1), (.ofNat 500)], ()), ((.ofNat 500000000001), ()))] : List ((List Int × Unit) × (Int × Unit)))⟩
def r1_177 : Row := ⟨177, (.pair (.int .u64) .unit), (.pair (.sl (.int .u32)) .unit), ([(((.ofNat 250000000000), ()), ([(.ofNat 0), (.ofNat 250)], ())),
  (((.ofNat 1000000000000), ()), ([(.ofNat 0), (.ofNat 1000)], ()))] : List ((Int × Unit) × (List Int × Unit)))⟩
def r1_178 : Row := ⟨178, (.pair (.sl (.int .u32)) (.pair (.sl (.int .u32)) .unit)), (.pair (.sl (.int .u32)) (.pair (.sl (.int .u32)) .unit)), ([(([(.ofNat 1)], ([(.ofNat 1)], ())), ([(.ofNat 1)], ([], ()))),
  (([(.ofNat 1000000)], ([(.ofNat 1000000)], ())), ([(.ofNat 1)], ([], ()))),
  (([(.ofNat 1000000)], ([(.ofNat 1)], ())), ([(.ofNat 1000000)], ([], ()))),
  (([(.ofNat 4)], ([(.ofNat 4)], ())), ([(.ofNat 1)], ([], ()))),
  (([], ([(.ofNat 1000000)], ())), ([], ([], ()))),
  (([], ([(.ofNat 0), (.ofNat 1000)], ())), ([], ([], ()))),
  (([(.ofNat 4)], ([(.ofNat 2)], ())), ([(.ofNat 2)], ([], ()))),
  (([(.ofNat 2)], ([(.ofNat 2)], ())), ([(.ofNat 1)], ([], ()))),
  (([(.ofNat 65535)], ([(.ofNat 1)], ())), ([(.ofNat 65535)], ([], ()))),
  (([(.ofNat 65535)], ([(.ofNat 65535)], ())), ([(.ofNat 1)], ([], ()))),
  (([(.ofNat 3)], ([(.ofNat 1)], ())), ([(.ofNat 3)], ([], ()))),
  (([(.ofNat 500000)], ([(.ofNat 500000)], ())), ([(.ofNat 1)], ([], ()))),
  (([(.ofNat 1000000)], ([(.ofNat 500000)], ())), ([(.ofNat 2)], ([], ()))),
  (([(.ofNat 2000000)], ([(.ofNat 1)], ())), ([(.ofNat 2000000)], ([], ()))),
  (([(.ofNat 2000000)], ([(.ofNat 4)], ())), ([(.ofNat 500000)], ([], ()))),
  (([(.ofNat 500000)], ([(.ofNat 1)], ())), ([(.ofNat 500000)], ([], ()))),
  (([(.ofNat 1), (.ofNat 500)], ([(.ofNat 1)], ())), ([(.ofNat 1), (.ofNat 500)], ([], ())))] : List ((List Int × (List Int × Unit)) × (List Int × (List Int × Unit))))⟩
def r1_181 : Row := ⟨181, (.pair (.sl (.int .u32)) (.pair (.sl (.int .u32)) .unit)), (.pair (.sl (.int .u32)) .unit), ([(([(.ofNat 1)], ([(.ofNat 1)], ())), ([(.ofNat 1)], ())),
  (([(.ofNat 0), (.ofNat 250)], ([(.ofNat 3984063)], ())), ([(.ofNat 0), (.ofNat 996015750)], ())),
  (([(.ofNat 250000)], ([(.ofNat 1)], ())), ([(.ofNat 250000)], ())),
  (([], ([(.ofNat 1)], ())), ([], ())),
  (([(.ofNat 0), (.ofNat 1000)], ([(.ofNat 999000)], ())), ([(.ofNat 0), (.ofNat 999000000)], ())),
  (([(.ofNat 65535)], ([(.ofNat 1)], ())), ([(.ofNat 65535)], ())),
  (([(.ofNat 3)], ([(.ofNat 1)], ())), ([(.ofNat 3)], ())),
  (([(.ofNat 0), (.ofNat 500)], ([(.ofNat 1996007)], ())), ([(.ofNat 0), (.ofNat 998003500)], ())),
  (([(.ofNat 500000)], ([(.ofNat 1)], ())), ([(.ofNat 500000)], ())),
  (([(.ofNat 2000000)], ([(.ofNat 1)], ())), ([(.ofNat 2000000)], ()))] : List ((List Int × (List Int × Unit)) × (List Int × Unit)))⟩
def r1_183 : Row := ⟨183, (.pair (.sl (.int .u32)) .unit), (.pair .str .unit), ([(([(.ofNat 1)], ()), ([49], ())),
  (([(.ofNat 4)], ()), ([52], ())),
  (([(.ofNat 1000000)], ()), ([49,48,48,48,48,48,48], ())),
  (([(.ofNat 2)], ()), ([50], ())),
  (([(.ofNat 65535)], ()), ([54,53,53,51,53], ())),
  (([(.ofNat 0), (.ofNat 1000)], ()), ([49,48,48,48,48,48,48,48,48,48,48,48,48], ())),
  (([(.ofNat 500000)], ()), ([53,48,48,48,48,48], ()))] : List ((List Int × Unit) × (List UInt8 × Unit)))⟩
def r1_189 : Row := ⟨189, (.pair (.pair (.pair (.sl (.int .u32)) (.pair .bool .unit)) (.pair (.sl (.int .u32)) .unit)) .unit), (.pair (.pair (.pair (.sl (.int .u32)) (.pair .bool .unit)) (.pair (.sl (.int .u32)) .unit)) .unit), ([(((([(.ofNat 1)], (false, ())), ([(.ofNat 1)], ())), ()), ((([(.ofNat 1)], (true, ())), ([(.ofNat 1)], ())), ()))] : List ((((List Int × (Bool × Unit)) × (List Int × Unit)) × Unit) × (((List Int × (Bool × Unit)) × (List Int × Unit)) × Unit)))⟩
def r1_190 : Row := ⟨190, (.pair (.pair (.sl (.int .u32)) (.pair .bool .unit)) (.pair (.sl (.int .u32)) .unit)), (.pair (.pair (.sl (.int .u32)) (.pair .bool .unit)) .unit), ([((([], (false, ())), ([(.ofNat 4)], ())), (([], (false, ())), ())),
  ((([], (false, ())), ([(.ofNat 2)], ())), (([], (false, ())), ())),
  ((([(.ofNat 500001)], (false, ())), ([(.ofNat 1)], ())), (([(.ofNat 500001)], (false, ())), ()))] : List (((List Int × (Bool × Unit)) × (List Int × Unit)) × ((List Int × (Bool × Unit)) × Unit)))⟩
def r1_191 : Row := ⟨191, (.pair (.pair (.sl (.int .u32)) (.pair .bool .unit)) (.pair (.pair (.sl (.int .u32)) (.pair .bool .unit)) .unit)), (.pair (.pair (.sl (.int .u32)) (.pair .bool .unit)) .unit), ([((([(.ofNat 1)], (false, ())), (([], (false, ())), ())), (([(.ofNat 1)], (false, ())), ())),
  ((([], (false, ())), (([(.ofNat 1)], (false, ())), ())), (([(.ofNat 1)], (false, ())), ())),
  ((([], (false, ())), (([], (false, ())), ())), (([], (false, ())), ())),
  ((([(.ofNat 3)], (false, ())), (([], (false, ())), ())), (([(.ofNat 3)], (false, ())), ()))] : List (((List Int × (Bool × Unit)) × ((List Int × (Bool × Unit)) × Unit)) × ((List Int × (Bool × Unit)) × Unit)))⟩
def r1_206 : Row := ⟨206, (.pair .str .unit), (.pair (.sl (.int .u32)) .unit), ([(([49], ()), ([(.ofNat 1)], ())),
  (([49,48,48,48,48,48,48], ()), ([(.ofNat 1000000)], ())),
  (([54,53,53,51,53], ()), ([(.ofNat 65535)], ())),
  (([53,48,48,48,48,48], ()), ([(.ofNat 500000)], ()))] : List ((List UInt8 × Unit) × (List Int × Unit)))⟩
def r1_208 : Row := ⟨208, (.pair (.sl (.int .u32)) .unit), (.pair (.sl (.int .u32)) .unit), ([(([(.ofNat 4), (.ofNat 0)], ()), ([(.ofNat 4)], ())),
  (([(.ofNat 0), (.ofNat 0)], ()), ([], ())),
  (([(.ofNat 0), (.ofNat 2000), (.ofNat 0)], ()), ([(.ofNat 0), (.ofNat 2000)], ())),
  (([(.ofNat 2), (.ofNat 0)], ()), ([(.ofNat 2)], ())),
  (([(.ofNat 1500000), (.ofNat 0)], ()), ([(.ofNat 1500000)], ())),
  (([(.ofNat 1000000), (.ofNat 0)], ()), ([(.ofNat 1000000)], ()))] : List ((List Int × Unit) × (List Int × Unit)))⟩
def r1_220 : Row := ⟨220, (.pair (.sl (.int .u32)) (.pair (.sl (.int .u32)) .unit)), (.pair (.sl (.int .u32)) .unit), ([(([(.ofNat 2)], ([(.ofNat 1)], ())), ([(.ofNat 1)], ()))] : List ((List Int × (List Int × Unit)) × (List Int × Unit)))⟩
def r1_234 : Row := ⟨234, (.pair (.sl (.int .u32)) .unit), (.pair (.sl (.int .u32)) .unit), ([(([(.ofNat 0), (.ofNat 0), (.ofNat 250000), (.ofNat 0)], ()), ([(.ofNat 0), (.ofNat 0), (.ofNat 250000)], ())),
  (([(.ofNat 0), (.ofNat 0)], ()), ([], ()))] : List ((List Int × Unit) × (List Int × Unit)))⟩
def r1_241 : Row := ⟨241, (.pair (.pair (.sl (.int .u32)) (.pair .bool .unit)) .unit), (.pair .str (.pair (.int .i64) .unit)), ([((([(.ofNat 0), (.ofNat 0), (.ofNat 250000)], (false, ())), ()), ([50,53,48,48,48,48,48,48,48,48,48,48,48,48,48,48,48,48,48,48,48,48,48,48], ((.ofNat 0), ()))),
  ((([], (false, ())), ()), ([48], ((.ofNat 0), ())))] : List (((List Int × (Bool × Unit)) × Unit) × (List UInt8 × (Int × Unit))))⟩
def r1_258 : Row := ⟨258, (.pair (.sl (.int .u32)) (.pair (.sl (.int .u32)) .unit)), (.pair (.sl (.int .u32)) .unit), ([(([(.ofNat 0), (.ofNat 10000)], ([(.ofNat 1)], ())), ([(.ofNat 0), (.ofNat 10000)], ())),
  (([(.ofNat 500000000), (.ofNat 5012)], ([(.ofNat 1)], ())), ([(.ofNat 500000000), (.ofNat 5012)], ())),
  (([(.ofNat 187655860), (.ofNat 2531)], ([(.ofNat 1)], ())), ([(.ofNat 187655860), (.ofNat 2531)], ())),
  (([(.ofNat 977760294), (.ofNat 1314)], ([(.ofNat 1)], ())), ([(.ofNat 977760294), (.ofNat 1314)], ())),
  (([(.ofNat 547522030), (.ofNat 752)], ([(.ofNat 1)], ())), ([(.ofNat 547522030), (.ofNat 752)], ())),
  (([(.ofNat 376228089), (.ofNat 542)], ([(.ofNat 1)], ())), ([(.ofNat 376228089), (.ofNat 542)], ())),
  (([(.ofNat 655441936), (.ofNat 501)], ([(.ofNat 1)], ())), ([(.ofNat 655441936), (.ofNat 501)], ())),
  (([(.ofNat 2731444), (.ofNat 500)], ([(.ofNat 1)], ())), ([(.ofNat 2731444), (.ofNat 500)], ())),
  (([(.ofNat 0), (.ofNat 0), (.ofNat 250000)], ([(.ofNat 1996007)], ())), ([(.ofNat 0), (.ofNat 0), (.ofNat 1750000), (.ofNat 499)], ())),
  (([(.ofNat 7), (.ofNat 500)], ([(.ofNat 1)], ())), ([(.ofNat 7), (.ofNat 500)], ())),
  (([(.ofNat 0), (.ofNat 500)], ([(.ofNat 1)], ())), ([(.ofNat 0), (.ofNat 500)], ())),
  (([], ([(.ofNat 1)], ())), ([], ()))] : List ((List Int × (List Int × Unit)) × (List Int × Unit)))⟩
def r1_268 : Row := ⟨268, (.pair (.sl (.int .u32)) (.pair (.int .u32) .unit)), (.pair (.sl (.int .u32)) (.pair (.int .u32) .unit)), ([(([(.ofNat 0), (.ofNat 1000)], ((.ofNat 2), ())), ([(.ofNat 0), (.ofNat 500)], ((.ofNat 0), ())))] : List ((List Int × (Int × Unit)) × (List Int × (Int × Unit))))⟩
def rows1 : List Row := [r1_28, r1_41, r1_56, r1_85, r1_136, r1_141, r1_142, r1_147, r1_163, r1_174, r1_175, r1_176, r1_177, r1_178, r1_181, r1_183, r1_189, r1_190, r1_191, r1_206, r1_208, r1_220, r1_234, r1_241, r1_258, r1_268]
theorem ok_r1_28 : okRows (pureKD Tryz.prog sigC 100000 ext0 40) [r1_28] = true := by kernel_rfl
theorem ok_r1_41 : okRows (pureKD Tryz.prog sigC 100000 ext0 40) [r1_41] = true := by kernel_rfl
theorem ok_r1_56 : okRows (pureKD Tryz.prog sigC 100000 ext0 40) [r1_56] = true := by kernel_rfl
theorem ok_r1_85 : okRows (pureKD Tryz.prog sigC 100000 ext0 40) [r1_85] = true := by kernel_rfl
theorem ok_r1_136 : okRows (pureKD Tryz.prog sigC 100000 ext0 40) [r1_136] = true := by kernel_rfl
theorem ok_r1_141 : okRows (pureKD Tryz.prog sigC 100000 ext0 40) [r1_141] = true := by kernel_rfl
theorem ok_r1_142 : okRows (pureKD Tryz.prog sigC 100000 ext0 40) [r1_142] = true := by kernel_rfl
theorem ok_r1_147 : okRows (pureKD Tryz.prog sigC 100000 ext0 40) [r1_147] = true := by kernel_rfl
theorem ok_r1_163 : okRows (pureKD Tryz.prog sigC 100000 ext0 40) [r1_163] = true := by kernel_rfl
theorem ok_r1_174 : okRows (pureKD Tryz.prog sigC 100000 ext0 40) [r1_174] = true := by kernel_rfl
theorem ok_r1_175 : okRows (pureKD Tryz.prog sigC 100000 ext0 40) [r1_175] = true := by kernel_rfl
theorem ok_r1_176 : okRows (pureKD Tryz.prog sigC 100000 ext0 40) [r1_176] = true := by kernel_rfl
theorem ok_r1_177 : okRows (pureKD Tryz.prog sigC 100000 ext0 40) [r1_177] = true := by kernel_rfl
theorem ok_r1_178 : okRows (pureKD Tryz.prog sigC 100000 ext0 40) [r1_178] = true := by kernel_rfl
theorem ok_r1_181 : okRows (pureKD Tryz.prog sigC 100000 ext0 40) [r1_181] = true := by kernel_rfl
theorem ok_r1_183 : okRows (pureKD Tryz.prog sigC 100000 ext0 40) [r1_183] = true := by kernel_rfl
theorem ok_r1_189 : okRows (pureKD Tryz.prog sigC 100000 ext0 40) [r1_189] = true := by kernel_rfl
theorem ok_r1_190 : okRows (pureKD Tryz.prog sigC 100000 ext0 40) [r1_190] = true := by kernel_rfl
theorem ok_r1_191 : okRows (pureKD Tryz.prog sigC 100000 ext0 40) [r1_191] = true := by kernel_rfl
theorem ok_r1_206 : okRows (pureKD Tryz.prog sigC 100000 ext0 40) [r1_206] = true := by kernel_rfl
theorem ok_r1_208 : okRows (pureKD Tryz.prog sigC 100000 ext0 40) [r1_208] = true := by kernel_rfl
theorem ok_r1_220 : okRows (pureKD Tryz.prog sigC 100000 ext0 40) [r1_220] = true := by kernel_rfl
theorem ok_r1_234 : okRows (pureKD Tryz.prog sigC 100000 ext0 40) [r1_234] = true := by kernel_rfl
theorem ok_r1_241 : okRows (pureKD Tryz.prog sigC 100000 ext0 40) [r1_241] = true := by kernel_rfl
theorem ok_r1_258 : okRows (pureKD Tryz.prog sigC 100000 ext0 40) [r1_258] = true := by kernel_rfl
theorem ok_r1_268 : okRows (pureKD Tryz.prog sigC 100000 ext0 40) [r1_268] = true := by kernel_rfl
theorem okRows_cons' {pf : PureT} {r : Row} {rs : List Row} (h1 : okRows pf [r] = true) (h2 : okRows pf rs = true) : okRows pf (r :: rs) = true := by
  simp only [okRows] at h1 ⊢
  split at h1
  · exact h2
  · cases h1
def ext1 : PureT := firstR (extTab rows1) ext0
theorem ext1_ok : PureOk Tryz.prog (Gt Tryz.prog) ext1 := layer_ok gmono mixed enterSig ext0_ok 100000 40 (okRows_cons' ok_r1_28 (okRows_cons' ok_r1_41 (okRows_cons' ok_r1_56 (okRows_cons' ok_r1_85 (okRows_cons' ok_r1_136 (okRows_cons' ok_r1_141 (okRows_cons' ok_r1_142 (okRows_cons' ok_r1_147 (okRows_cons' ok_r1_163 (okRows_cons' ok_r1_174 (okRows_cons' ok_r1_175 (okRows_cons' ok_r1_176 (okRows_cons' ok_r1_177 (okRows_cons' ok_r1_178 (okRows_cons' ok_r1_181 (okRows_cons' ok_r1_183 (okRows_cons' ok_r1_189 (okRows_cons' ok_r1_190 (okRows_cons' ok_r1_191 (okRows_cons' ok_r1_206 (okRows_cons' ok_r1_208 (okRows_cons' ok_r1_220 (okRows_cons' ok_r1_234 (okRows_cons' ok_r1_241 (okRows_cons' ok_r1_258 (okRows_cons' ok_r1_268 (rfl)))))))))))))))))))))))))))
end Go.Vg
