/- Calls that have been run: layer 1. -/
import Derived.Test.YtmpaaojkimhidaaGreatDoorExt
namespace Go.Vg
open Go Go.Proofs
set_option maxRecDepth 1000000
set_option maxHeartbeats 0
def r1_7 : Row := ⟨7, (.pair (.pair (.int .i64) (.pair (.sl (.pair (.int .i64) (.pair (.sl (.int .i64)) (.pair (.sl (.pair (.int .i64) (.pair (.int .i64) (.pair (.int .i64) (.pair (.int .i64) (.pair (.int .i64) (.pair (.int .i64) .unit))))))) .unit)))) (.pair (.sl (.sl (.int .i64))) (.pair (.sl (.int .i64)) (.pair (.pair (.sl (.int .i64)) (.pair (.int .i64) (.pair (.sl (.int .i64)) .unit))) (.pair (.sl (.pair (.int .i64) (.pair (.int .i64) .unit))) (.pair (.int .i64) (.pair (.int .i64) .unit)))))))) .unit), (.pair (.int .i64) .unit), ([((((.ofNat 2), ([], ([[(.ofNat 500000), (.ofNat 500000)], [(.ofNat 1000000), (.negSucc 999999)]], ([(.ofNat 0), (.ofNat 250000)], (([], ((.ofNat 0), ([], ()))), ([], ((.ofNat 0), ((.ofNat 0), ())))))))), ()), ((.ofNat 0), ())),
  ((((.ofNat 3), ([], ([], ([], (([(.ofNat 2)], ((.ofNat 2), ([(.ofNat 0), (.ofNat 1), (.ofNat 2), (.ofNat 3)], ()))), ([], ((.ofNat 0), ((.ofNat 0), ())))))))), ()), ((.ofNat 0), ())),
  ((((.ofNat 4), ([], ([], ([], (([], ((.ofNat 0), ([], ()))), ([((.ofNat 1), ((.ofNat 0), ()))], ((.ofNat 3), ((.ofNat 1), ())))))))), ()), ((.ofNat 0), ())),
  ((((.ofNat 2), ([((.ofNat 0), ([], ([], ())))], ([[(.ofNat 500000), (.ofNat 500000)], [(.ofNat 1000000), (.negSucc 999999)]], ([(.ofNat 0), (.ofNat 250000)], (([], ((.ofNat 0), ([], ()))), ([], ((.ofNat 0), ((.ofNat 0), ())))))))), ()), ((.ofNat 130), ())),
  ((((.ofNat 2), ([], ([[(.ofNat 1), (.ofNat 2), (.ofNat 3)], [(.ofNat 500000), (.ofNat 500000)], [(.ofNat 1000000), (.negSucc 999999)]], ([(.ofNat 0), (.ofNat 250000)], (([], ((.ofNat 0), ([], ()))), ([], ((.ofNat 0), ((.ofNat 0), ())))))))), ()), ((.ofNat 130), ())),
  ((((.ofNat 2), ([], ([[(.ofNat 500000), (.ofNat 500000)], [(.ofNat 1000000), (.negSucc 999999)]], ([(.ofNat 1), (.ofNat 0), (.ofNat 250000)], (([], ((.ofNat 0), ([], ()))), ([], ((.ofNat 0), ((.ofNat 0), ())))))))), ()), ((.ofNat 130), ())),
  ((((.ofNat 2), ([], ([[(.ofNat 500000), (.ofNat 500000)], [(.ofNat 1000000), (.negSucc 999999)]], ([(.ofNat 0), (.ofNat 250000)], (([], ((.ofNat 1), ([], ()))), ([], ((.ofNat 0), ((.ofNat 0), ())))))))), ()), ((.ofNat 130), ())),
  ((((.ofNat 2), ([], ([[(.ofNat 500000), (.ofNat 500000)], [(.ofNat 1000000), (.negSucc 999999)]], ([(.ofNat 0), (.ofNat 250000)], (([], ((.ofNat 0), ([], ()))), ([((.ofNat 3), ((.ofNat 0), ()))], ((.ofNat 0), ((.ofNat 0), ())))))))), ()), ((.ofNat 130), ())),
  ((((.ofNat 2), ([], ([[(.ofNat 500000), (.ofNat 500000)], [(.ofNat 1000000), (.negSucc 999999)]], ([(.ofNat 0), (.ofNat 250000)], (([], ((.ofNat 0), ([], ()))), ([], ((.ofNat 0), ((.ofNat 4), ())))))))), ()), ((.ofNat 130), ())),
  ((((.ofNat 1), ([((.ofNat 0), ([], ([], ()))), ((.ofNat 1), ([], ([], ()))), ((.ofNat 2), ([(.ofNat 65535), (.ofNat 0)], ([], ())))], ([], ([], (([], ((.ofNat 0), ([], ()))), ([], ((.ofNat 0), ((.ofNat 0), ())))))))), ()), ((.ofNat 130), ())),
  ((((.ofNat 1), ([((.ofNat 1), ([], ([], ()))), ((.ofNat 2), ([(.ofNat 65535), (.ofNat 0)], ([], ())))], ([[(.ofNat 1), (.ofNat 2), (.ofNat 3)]], ([], (([], ((.ofNat 0), ([], ()))), ([], ((.ofNat 0), ((.ofNat 0), ())))))))), ()), ((.ofNat 130), ())),
  ((((.ofNat 1), ([((.ofNat 1), ([], ([], ()))), ((.ofNat 2), ([(.ofNat 65535), (.ofNat 0)], ([], ())))], ([], ([(.ofNat 1)], (([], ((.ofNat 0), ([], ()))), ([], ((.ofNat 0), ((.ofNat 0), ())))))))), ()), ((.ofNat 130), ())),
  ((((.ofNat 1), ([((.ofNat 1), ([], ([], ()))), ((.ofNat 2), ([(.ofNat 65535), (.ofNat 0)], ([], ())))], ([], ([], (([], ((.ofNat 1), ([], ()))), ([], ((.ofNat 0), ((.ofNat 0), ())))))))), ()), ((.ofNat 130), ())),
  ((((.ofNat 1), ([((.ofNat 1), ([], ([], ()))), ((.ofNat 2), ([(.ofNat 65535), (.ofNat 0)], ([], ())))], ([], ([], (([], ((.ofNat 0), ([], ()))), ([((.ofNat 3), ((.ofNat 0), ()))], ((.ofNat 0), ((.ofNat 0), ())))))))), ()), ((.ofNat 130), ())),
  ((((.ofNat 1), ([((.ofNat 1), ([], ([], ()))), ((.ofNat 2), ([(.ofNat 65535), (.ofNat 0)], ([], ())))], ([], ([], (([], ((.ofNat 0), ([], ()))), ([], ((.ofNat 0), ((.ofNat 4), ())))))))), ()), ((.ofNat 130), ())),
  ((((.ofNat 3), ([((.ofNat 0), ([], ([], ())))], ([], ([], (([(.ofNat 2)], ((.ofNat 2), ([(.ofNat 0), (.ofNat 1), (.ofNat 2), (.ofNat 3)], ()))), ([], ((.ofNat 0), ((.ofNat 0), ())))))))), ()), ((.ofNat 130), ())),
  ((((.ofNat 3), ([], ([[(.ofNat 1), (.ofNat 2), (.ofNat 3)]], ([], (([(.ofNat 2)], ((.ofNat 2), ([(.ofNat 0), (.ofNat 1), (.ofNat 2), (.ofNat 3)], ()))), ([], ((.ofNat 0), ((.ofNat 0), ())))))))), ()), ((.ofNat 130), ())),
  ((((.ofNat 3), ([], ([], ([(.ofNat 1)], (([(.ofNat 2)], ((.ofNat 2), ([(.ofNat 0), (.ofNat 1), (.ofNat 2), (.ofNat 3)], ()))), ([], ((.ofNat 0), ((.ofNat 0), ())))))))), ()), ((.ofNat 130), ())),
  ((((.ofNat 3), ([], ([], ([], (([(.ofNat 2)], ((.ofNat 3), ([(.ofNat 0), (.ofNat 1), (.ofNat 2), (.ofNat 3)], ()))), ([], ((.ofNat 0), ((.ofNat 0), ())))))))), ()), ((.ofNat 130), ())),
  ((((.ofNat 3), ([], ([], ([], (([(.ofNat 2)], ((.ofNat 2), ([(.ofNat 0), (.ofNat 1), (.ofNat 2), (.ofNat 3)], ()))), ([((.ofNat 3), ((.ofNat 0), ()))], ((.ofNat 0), ((.ofNat 0), ())))))))), ()), ((.ofNat 130), ())),
  ((((.ofNat 3), ([], ([], ([], (([(.ofNat 2)], ((.ofNat 2), ([(.ofNat 0), (.ofNat 1), (.ofNat 2), (.ofNat 3)], ()))), ([], ((.ofNat 0), ((.ofNat 4), ())))))))), ()), ((.ofNat 130), ())),
  ((((.ofNat 4), ([((.ofNat 0), ([], ([], ())))], ([], ([], (([], ((.ofNat 0), ([], ()))), ([((.ofNat 1), ((.ofNat 0), ()))], ((.ofNat 3), ((.ofNat 1), ())))))))), ()), ((.ofNat 130), ())),
  ((((.ofNat 4), ([], ([[(.ofNat 1), (.ofNat 2), (.ofNat 3)]], ([], (([], ((.ofNat 0), ([], ()))), ([((.ofNat 1), ((.ofNat 0), ()))], ((.ofNat 3), ((.ofNat 1), ())))))))), ()), ((.ofNat 130), ())),
  ((((.ofNat 4), ([], ([], ([(.ofNat 1)], (([], ((.ofNat 0), ([], ()))), ([((.ofNat 1), ((.ofNat 0), ()))], ((.ofNat 3), ((.ofNat 1), ())))))))), ()), ((.ofNat 130), ())),
  ((((.ofNat 4), ([], ([], ([], (([], ((.ofNat 1), ([], ()))), ([((.ofNat 1), ((.ofNat 0), ()))], ((.ofNat 3), ((.ofNat 1), ())))))))), ()), ((.ofNat 130), ())),
  ((((.ofNat 4), ([], ([], ([], (([], ((.ofNat 0), ([], ()))), ([((.ofNat 3), ((.ofNat 0), ())), ((.ofNat 1), ((.ofNat 0), ()))], ((.ofNat 3), ((.ofNat 1), ())))))))), ()), ((.ofNat 130), ())),
  ((((.ofNat 4), ([], ([], ([], (([], ((.ofNat 0), ([], ()))), ([((.ofNat 1), ((.ofNat 0), ()))], ((.ofNat 3), ((.ofNat 5), ())))))))), ()), ((.ofNat 130), ())),
  ((((.ofNat 0), ([], ([], ([], (([], ((.ofNat 0), ([], ()))), ([], ((.ofNat 0), ((.ofNat 0), ())))))))), ()), ((.ofNat 130), ())),
  ((((.ofNat 5), ([], ([], ([], (([], ((.ofNat 0), ([], ()))), ([], ((.ofNat 0), ((.ofNat 0), ())))))))), ()), ((.ofNat 130), ())),
  ((((.ofNat 2), ([], ([[(.ofNat 1000000001), (.ofNat 0)], [(.ofNat 0), (.ofNat 0)]], ([(.ofNat 0), (.ofNat 250000)], (([], ((.ofNat 0), ([], ()))), ([], ((.ofNat 0), ((.ofNat 0), ())))))))), ()), ((.ofNat 130), ())),
  ((((.ofNat 2), ([], ([[], []], ([(.ofNat 0), (.ofNat 250000)], (([], ((.ofNat 0), ([], ()))), ([], ((.ofNat 0), ((.ofNat 0), ())))))))), ()), ((.ofNat 130), ())),
  ((((.ofNat 1), ([((.ofNat 1), ([], ([], ()))), ((.ofNat 2), ([(.ofNat 65535), (.ofNat 0)], ([], ()))), ((.ofNat 1), ([], ([], ()))), ((.ofNat 2), ([(.ofNat 65535), (.ofNat 0)], ([], ()))), ((.ofNat 1), ([], ([], ())))], ([], ([], (([], ((.ofNat 0), ([], ()))), ([], ((.ofNat 0), ((.ofNat 0), ())))))))), ()), ((.ofNat 130), ())),
  ((((.ofNat 2), ([], ([], ([], (([], ((.ofNat 0), ([], ()))), ([], ((.ofNat 0), ((.ofNat 0), ())))))))), ()), ((.ofNat 130), ())),
  ((((.ofNat 1), ([], ([], ([], (([], ((.ofNat 0), ([], ()))), ([], ((.ofNat 0), ((.ofNat 0), ())))))))), ()), ((.ofNat 130), ()))] : List (((Int × (List (Int × (List Int × (List (Int × (Int × (Int × (Int × (Int × (Int × Unit)))))) × Unit))) × (List (List Int) × (List Int × ((List Int × (Int × (List Int × Unit))) × (List (Int × (Int × Unit)) × (Int × (Int × Unit)))))))) × Unit) × (Int × Unit)))⟩
def r1_21 : Row := ⟨21, (.pair (.pair .str (.pair .str .unit)) .unit), (.pair (.int .i64) .unit), ([((([], ([], ())), ()), ((.ofNat 20), ()))] : List (((List UInt8 × (List UInt8 × Unit)) × Unit) × (Int × Unit)))⟩
def r1_38 : Row := ⟨38, (.pair (.pair (.int .i64) (.pair (.sl (.int .i64)) (.pair (.sl (.pair (.int .i64) (.pair (.int .i64) (.pair (.int .i64) (.pair (.int .i64) (.pair (.int .i64) (.pair (.int .i64) .unit))))))) .unit))) .unit), (.pair (.int .i64) .unit), ([((((.ofNat 2), ([(.ofNat 65535), (.ofNat 0)], ([], ()))), ()), ((.ofNat 0), ())),
  ((((.ofNat 3), ([], ([((.ofNat 1000000), ((.ofNat 1000000), ((.ofNat 0), ((.ofNat 1), ((.ofNat 2), ((.ofNat 0), ()))))))], ()))), ()), ((.ofNat 0), ()))] : List (((Int × (List Int × (List (Int × (Int × (Int × (Int × (Int × (Int × Unit)))))) × Unit))) × Unit) × (Int × Unit)))⟩
def r1_78 : Row := ⟨78, (.pair (.sl (.int .u32)) (.pair (.sl (.int .u32)) .unit)), (.pair (.sl (.int .u32)) .unit), ([(([], ([(.ofNat 1)], ())), ([(.ofNat 1)], ())),
  (([(.ofNat 1)], ([(.ofNat 2)], ())), ([(.ofNat 1)], ())),
  (([(.ofNat 1)], ([(.ofNat 4)], ())), ([(.ofNat 1)], ())),
  (([(.ofNat 1000000)], ([(.ofNat 1000000)], ())), ([(.ofNat 1000000)], ())),
  (([(.ofNat 1)], ([(.ofNat 1)], ())), ([(.ofNat 1)], ())),
  (([(.ofNat 3)], ([(.ofNat 4)], ())), ([(.ofNat 1)], ())),
  (([(.ofNat 1)], ([(.ofNat 3)], ())), ([(.ofNat 1)], ())),
  (([(.ofNat 65535)], ([(.ofNat 1)], ())), ([(.ofNat 1)], ())),
  (([(.ofNat 43690)], ([(.ofNat 1)], ())), ([(.ofNat 1)], ()))] : List ((List Int × (List Int × Unit)) × (List Int × Unit)))⟩
def r1_79 : Row := ⟨79, (.pair (.sl (.int .u32)) (.pair (.sl (.int .u32)) .unit)), (.pair (.int .i64) .unit), ([(([(.ofNat 1)], ([(.ofNat 2)], ())), ((.negSucc 0), ())),
  (([(.ofNat 3)], ([(.ofNat 1)], ())), ((.ofNat 1), ())),
  (([(.ofNat 1)], ([(.ofNat 3)], ())), ((.negSucc 0), ())),
  (([(.ofNat 65535)], ([(.ofNat 21845)], ())), ((.ofNat 1), ()))] : List ((List Int × (List Int × Unit)) × (Int × Unit)))⟩
def r1_124 : Row := ⟨124, (.pair (.pair .bool (.pair (.sl (.int .i64)) .unit)) .unit), (.pair .str (.pair (.int .i64) .unit)), ([(((false, ([(.ofNat 1)], ())), ()), ([49], ((.ofNat 0), ()))),
  (((false, ([(.ofNat 2)], ())), ()), ([50], ((.ofNat 0), ()))),
  (((false, ([(.ofNat 3)], ())), ()), ([51], ((.ofNat 0), ())))] : List (((Bool × (List Int × Unit)) × Unit) × (List UInt8 × (Int × Unit))))⟩
def r1_126 : Row := ⟨126, (.pair (.int .i64) .unit), (.pair (.pair .bool (.pair (.sl (.int .i64)) .unit)) .unit), ([(((.ofNat 1), ()), ((false, ([(.ofNat 1)], ())), ())),
  (((.ofNat 2), ()), ((false, ([(.ofNat 2)], ())), ())),
  (((.ofNat 3), ()), ((false, ([(.ofNat 3)], ())), ()))] : List ((Int × Unit) × ((Bool × (List Int × Unit)) × Unit)))⟩
def r1_130 : Row := ⟨130, (.pair .str (.pair .str .unit)), (.pair .str (.pair .bool .unit)), ([(([48], ([45], ())), ([48], (false, ()))),
  (([49,48,48,48,48,48,48], ([45], ())), ([49,48,48,48,48,48,48], (false, ()))),
  (([49], ([45], ())), ([49], (false, ()))),
  (([49,48,48,48,48,48,48,48,48,48,48,48,48], ([45], ())), ([49,48,48,48,48,48,48,48,48,48,48,48,48], (false, ()))),
  (([53,48,48,48,48,48], ([45], ())), ([53,48,48,48,48,48], (false, ()))),
  (([50], ([45], ())), ([50], (false, ()))),
  (([53,48,48,48,48,48,48,48,48,48,48,48], ([45], ())), ([53,48,48,48,48,48,48,48,48,48,48,48], (false, ()))),
  (([50,53,48,48,48,48], ([45], ())), ([50,53,48,48,48,48], (false, ()))),
  (([52], ([45], ())), ([52], (false, ()))),
  (([50,53,48,48,48,48,48,48,48,48,48,48], ([45], ())), ([50,53,48,48,48,48,48,48,48,48,48,48], (false, ()))),
  (([45,49,48,48,48,48,48,48], ([45], ())), ([49,48,48,48,48,48,48], (true, ()))),
  (([45,49], ([45], ())), ([49], (true, ()))),
  (([45,49,48,48,48,48,48,48,48,48,48,48,48,48], ([45], ())), ([49,48,48,48,48,48,48,48,48,48,48,48,48], (true, ()))),
  (([56], ([45], ())), ([56], (false, ()))),
  (([51], ([45], ())), ([51], (false, ()))),
  (([45,54,53,53,51,53], ([45], ())), ([54,53,53,51,53], (true, ()))),
  (([54,53,53,51,53], ([45], ())), ([54,53,53,51,53], (false, ()))),
  (([45,50,49,56,52,53], ([45], ())), ([50,49,56,52,53], (true, ()))),
  (([52,51,54,57,48], ([45], ())), ([52,51,54,57,48], (false, ())))] : List ((List UInt8 × (List UInt8 × Unit)) × (List UInt8 × (Bool × Unit))))⟩
def r1_131 : Row := ⟨131, (.pair .str .unit), (.pair (.sl (.int .u32)) .unit), ([(([49,48,48,48,48,48,48], ()), ([(.ofNat 1000000)], ())),
  (([49], ()), ([(.ofNat 1)], ())),
  (([49,48,48,48,48,48,48,48,48,48,48,48,48], ()), ([(.ofNat 0), (.ofNat 1000)], ())),
  (([54,53,53,51,53], ()), ([(.ofNat 65535)], ()))] : List ((List UInt8 × Unit) × (List Int × Unit)))⟩
def r1_133 : Row := ⟨133, (.pair (.sl (.int .u32)) .unit), (.pair (.int .u64) .unit), ([(([(.ofNat 0), (.ofNat 1000)], ()), ((.ofNat 1000000000000), ()))] : List ((List Int × Unit) × (Int × Unit)))⟩
def r1_134 : Row := ⟨134, (.pair (.int .u64) .unit), (.pair (.sl (.int .u32)) .unit), ([(((.ofNat 1000000000000), ()), ([(.ofNat 0), (.ofNat 1000)], ()))] : List ((Int × Unit) × (List Int × Unit)))⟩
def r1_135 : Row := ⟨135, (.pair (.sl (.int .u32)) (.pair (.sl (.int .u32)) .unit)), (.pair (.sl (.int .u32)) (.pair (.sl (.int .u32)) .unit)), ([(([(.ofNat 1000000)], ([(.ofNat 1000000)], ())), ([(.ofNat 1)], ([], ()))),
  (([(.ofNat 1)], ([(.ofNat 1)], ())), ([(.ofNat 1)], ([], ()))),
  (([(.ofNat 2)], ([(.ofNat 1)], ())), ([(.ofNat 2)], ([], ()))),
  (([(.ofNat 4)], ([(.ofNat 1)], ())), ([(.ofNat 4)], ([], ()))),
  (([(.ofNat 4)], ([(.ofNat 4)], ())), ([(.ofNat 1)], ([], ()))),
  (([(.ofNat 2)], ([(.ofNat 2)], ())), ([(.ofNat 1)], ([], ()))),
  (([(.ofNat 4)], ([(.ofNat 2)], ())), ([(.ofNat 2)], ([], ()))),
  (([(.ofNat 65535)], ([(.ofNat 1)], ())), ([(.ofNat 65535)], ([], ())))] : List ((List Int × (List Int × Unit)) × (List Int × (List Int × Unit))))⟩
def r1_155 : Row := ⟨155, (.pair (.sl (.int .u32)) (.pair (.sl (.int .u32)) .unit)), (.pair (.sl (.int .u32)) .unit), ([(([(.ofNat 0), (.ofNat 1000)], ([(.ofNat 999000)], ())), ([(.ofNat 0), (.ofNat 999000000)], ())),
  (([(.ofNat 0), (.ofNat 500)], ([(.ofNat 1996007)], ())), ([(.ofNat 0), (.ofNat 998003500)], ())),
  (([(.ofNat 0), (.ofNat 250)], ([(.ofNat 3984063)], ())), ([(.ofNat 0), (.ofNat 996015750)], ())),
  (([(.ofNat 1)], ([(.ofNat 1)], ())), ([(.ofNat 1)], ())),
  (([(.ofNat 21845)], ([(.ofNat 1)], ())), ([(.ofNat 21845)], ()))] : List ((List Int × (List Int × Unit)) × (List Int × Unit)))⟩
def r1_156 : Row := ⟨156, (.pair (.pair (.sl (.int .u32)) (.pair .bool .unit)) (.pair (.sl (.int .u32)) .unit)), (.pair (.pair (.sl (.int .u32)) (.pair .bool .unit)) .unit), ([((([], (false, ())), ([(.ofNat 1)], ())), (([], (false, ())), ())),
  ((([], (false, ())), ([(.ofNat 3)], ())), (([], (false, ())), ()))] : List (((List Int × (Bool × Unit)) × (List Int × Unit)) × ((List Int × (Bool × Unit)) × Unit)))⟩
def r1_157 : Row := ⟨157, (.pair (.pair (.sl (.int .u32)) (.pair .bool .unit)) (.pair (.pair (.sl (.int .u32)) (.pair .bool .unit)) .unit)), (.pair (.pair (.sl (.int .u32)) (.pair .bool .unit)) .unit), ([((([], (false, ())), (([(.ofNat 1)], (false, ())), ())), (([(.ofNat 1)], (false, ())), ())),
  ((([(.ofNat 1)], (false, ())), (([], (false, ())), ())), (([(.ofNat 1)], (false, ())), ()))] : List (((List Int × (Bool × Unit)) × ((List Int × (Bool × Unit)) × Unit)) × ((List Int × (Bool × Unit)) × Unit)))⟩
def r1_188 : Row := ⟨188, (.pair (.int .u64) (.pair (.int .u64) .unit)), (.pair (.int .u64) (.pair (.int .u64) .unit)), ([(((.ofNat 500000000000), ((.ofNat 0), ())), ((.ofNat 0), ((.ofNat 0), ()))),
  (((.ofNat 500000000000), ((.ofNat 1000000000000), ())), ((.ofNat 27105), ((.ofNat 1001882102603448320), ()))),
  (((.ofNat 1000000000000), ((.ofNat 0), ())), ((.ofNat 0), ((.ofNat 0), ()))),
  (((.ofNat 1000000000000), ((.ofNat 1000000000000), ())), ((.ofNat 54210), ((.ofNat 2003764205206896640), ())))] : List ((Int × (Int × Unit)) × (Int × (Int × Unit))))⟩
def r1_190 : Row := ⟨190, (.pair (.int .u64) (.pair (.int .u64) (.pair (.int .u64) .unit))), (.pair (.int .u64) (.pair (.int .u64) .unit)), ([(((.ofNat 27105), ((.ofNat 1001882102603448320), ((.ofNat 1000000000000), ()))), ((.ofNat 500000000000), ((.ofNat 0), ()))),
  (((.ofNat 54210), ((.ofNat 2003764205206896640), ((.ofNat 1000000000000), ()))), ((.ofNat 1000000000000), ((.ofNat 0), ())))] : List ((Int × (Int × (Int × Unit))) × (Int × (Int × Unit))))⟩
def r1_217 : Row := ⟨217, (.pair (.pair .bool (.pair (.sl (.int .i64)) .unit)) (.pair (.pair .bool (.pair (.sl (.int .i64)) .unit)) .unit)), (.pair (.pair .bool (.pair (.sl (.int .i64)) .unit)) (.pair (.pair .bool (.pair (.sl (.int .i64)) .unit)) .unit)), ([(((false, ([(.ofNat 1)], ())), ((false, ([(.ofNat 1)], ())), ())), ((false, ([(.ofNat 1)], ())), ((false, ([], ())), ())))] : List (((Bool × (List Int × Unit)) × ((Bool × (List Int × Unit)) × Unit)) × ((Bool × (List Int × Unit)) × ((Bool × (List Int × Unit)) × Unit))))⟩
def r1_219 : Row := ⟨219, (.pair .str .unit), (.pair (.sl (.int .u32)) .unit), ([(([49,48,48,48,48,48,48], ()), ([(.ofNat 1000000)], ())),
  (([49], ()), ([(.ofNat 1)], ())),
  (([49,48,48,48,48,48,48,48,48,48,48,48,48], ()), ([(.ofNat 0), (.ofNat 1000)], ())),
  (([54,53,53,51,53], ()), ([(.ofNat 65535)], ()))] : List ((List UInt8 × Unit) × (List Int × Unit)))⟩
def r1_221 : Row := ⟨221, (.pair (.sl (.int .u32)) .unit), (.pair (.sl (.int .u32)) .unit), ([(([(.ofNat 0), (.ofNat 2000), (.ofNat 0)], ()), ([(.ofNat 0), (.ofNat 2000)], ())),
  (([(.ofNat 0), (.ofNat 0)], ()), ([], ())),
  (([(.ofNat 2), (.ofNat 0)], ()), ([(.ofNat 2)], ())),
  (([(.ofNat 4), (.ofNat 0)], ()), ([(.ofNat 4)], ())),
  (([(.ofNat 8), (.ofNat 0)], ()), ([(.ofNat 8)], ())),
  (([(.ofNat 3), (.ofNat 0)], ()), ([(.ofNat 3)], ()))] : List ((List Int × Unit) × (List Int × Unit)))⟩
def r1_237 : Row := ⟨237, (.pair (.sl (.int .u32)) .unit), (.pair .str .unit), ([(([(.ofNat 1)], ()), ([49], ())),
  (([(.ofNat 2)], ()), ([50], ())),
  (([(.ofNat 4)], ()), ([52], ())),
  (([(.ofNat 0), (.ofNat 1000)], ()), ([49,48,48,48,48,48,48,48,48,48,48,48,48], ())),
  (([(.ofNat 8)], ()), ([56], ())),
  (([(.ofNat 3)], ()), ([51], ())),
  (([(.ofNat 65535)], ()), ([54,53,53,51,53], ()))] : List ((List Int × Unit) × (List UInt8 × Unit)))⟩
def r1_239 : Row := ⟨239, (.pair (.sl (.int .u32)) (.pair (.sl (.int .u32)) .unit)), (.pair (.sl (.int .u32)) .unit), ([(([(.ofNat 1)], ([(.ofNat 1)], ())), ([], ())),
  (([(.ofNat 3)], ([(.ofNat 1)], ())), ([(.ofNat 2)], ()))] : List ((List Int × (List Int × Unit)) × (List Int × Unit)))⟩
def r1_272 : Row := ⟨272, (.pair (.sl (.int .i64)) (.pair (.sl (.int .i64)) .unit)), (.pair (.sl (.int .i64)) (.pair (.sl (.int .i64)) .unit)), ([(([(.ofNat 2)], ([(.ofNat 1)], ())), ([(.ofNat 2)], ([], ()))),
  (([(.ofNat 4)], ([(.ofNat 1)], ())), ([(.ofNat 4)], ([], ()))),
  (([(.ofNat 3)], ([(.ofNat 2)], ())), ([(.ofNat 1)], ([(.ofNat 1)], ()))),
  (([(.ofNat 3)], ([(.ofNat 1)], ())), ([(.ofNat 3)], ([], ())))] : List ((List Int × (List Int × Unit)) × (List Int × (List Int × Unit))))⟩
def rows1 : List Row := [r1_7, r1_21, r1_38, r1_78, r1_79, r1_124, r1_126, r1_130, r1_131, r1_133, r1_134, r1_135, r1_155, r1_156, r1_157, r1_188, r1_190, r1_217, r1_219, r1_221, r1_237, r1_239, r1_272]
theorem ok_r1_7 : okRows (pureKD Tryz.prog sigC 100000 ext0 40) [r1_7] = true := by kernel_rfl
theorem ok_r1_21 : okRows (pureKD Tryz.prog sigC 100000 ext0 40) [r1_21] = true := by kernel_rfl
theorem ok_r1_38 : okRows (pureKD Tryz.prog sigC 100000 ext0 40) [r1_38] = true := by kernel_rfl
theorem ok_r1_78 : okRows (pureKD Tryz.prog sigC 100000 ext0 40) [r1_78] = true := by kernel_rfl
theorem ok_r1_79 : okRows (pureKD Tryz.prog sigC 100000 ext0 40) [r1_79] = true := by kernel_rfl
theorem ok_r1_124 : okRows (pureKD Tryz.prog sigC 100000 ext0 40) [r1_124] = true := by kernel_rfl
theorem ok_r1_126 : okRows (pureKD Tryz.prog sigC 100000 ext0 40) [r1_126] = true := by kernel_rfl
theorem ok_r1_130 : okRows (pureKD Tryz.prog sigC 100000 ext0 40) [r1_130] = true := by kernel_rfl
theorem ok_r1_131 : okRows (pureKD Tryz.prog sigC 100000 ext0 40) [r1_131] = true := by kernel_rfl
theorem ok_r1_133 : okRows (pureKD Tryz.prog sigC 100000 ext0 40) [r1_133] = true := by kernel_rfl
theorem ok_r1_134 : okRows (pureKD Tryz.prog sigC 100000 ext0 40) [r1_134] = true := by kernel_rfl
theorem ok_r1_135 : okRows (pureKD Tryz.prog sigC 100000 ext0 40) [r1_135] = true := by kernel_rfl
theorem ok_r1_155 : okRows (pureKD Tryz.prog sigC 100000 ext0 40) [r1_155] = true := by kernel_rfl
theorem ok_r1_156 : okRows (pureKD Tryz.prog sigC 100000 ext0 40) [r1_156] = true := by kernel_rfl
theorem ok_r1_157 : okRows (pureKD Tryz.prog sigC 100000 ext0 40) [r1_157] = true := by kernel_rfl
theorem ok_r1_188 : okRows (pureKD Tryz.prog sigC 100000 ext0 40) [r1_188] = true := by kernel_rfl
theorem ok_r1_190 : okRows (pureKD Tryz.prog sigC 100000 ext0 40) [r1_190] = true := by kernel_rfl
theorem ok_r1_217 : okRows (pureKD Tryz.prog sigC 100000 ext0 40) [r1_217] = true := by kernel_rfl
theorem ok_r1_219 : okRows (pureKD Tryz.prog sigC 100000 ext0 40) [r1_219] = true := by kernel_rfl
theorem ok_r1_221 : okRows (pureKD Tryz.prog sigC 100000 ext0 40) [r1_221] = true := by kernel_rfl
theorem ok_r1_237 : okRows (pureKD Tryz.prog sigC 100000 ext0 40) [r1_237] = true := by kernel_rfl
theorem ok_r1_239 : okRows (pureKD Tryz.prog sigC 100000 ext0 40) [r1_239] = true := by kernel_rfl
theorem ok_r1_272 : okRows (pureKD Tryz.prog sigC 100000 ext0 40) [r1_272] = true := by kernel_rfl
theorem okRows_cons' {pf : PureT} {r : Row} {rs : List Row} (h1 : okRows pf [r] = true) (h2 : okRows pf rs = true) : okRows pf (r :: rs) = true := by
  simp only [okRows] at h1 ⊢
  split at h1
  · exact h2
  · cases h1
def ext1 : PureT := firstR (extTab rows1) ext0
theorem ext1_ok : PureOk Tryz.prog (Gt Tryz.prog) ext1 := layer_ok gmono mixed enterSig ext0_ok 100000 40 (okRows_cons' ok_r1_7 (okRows_cons' ok_r1_21 (okRows_cons' ok_r1_38 (okRows_cons' ok_r1_78 (okRows_cons' ok_r1_79 (okRows_cons' ok_r1_124 (okRows_cons' ok_r1_126 (okRows_cons' ok_r1_130 (okRows_cons' ok_r1_131 (okRows_cons' ok_r1_133 (okRows_cons' ok_r1_134 (okRows_cons' ok_r1_135 (okRows_cons' ok_r1_155 (okRows_cons' ok_r1_156 (okRows_cons' ok_r1_157 (okRows_cons' ok_r1_188 (okRows_cons' ok_r1_190 (okRows_cons' ok_r1_217 (okRows_cons' ok_r1_219 (okRows_cons' ok_r1_221 (okRows_cons' ok_r1_237 (okRows_cons' ok_r1_239 (okRows_cons' ok_r1_272 (rfl))))))))))))))))))))))))
end Go.Vg
