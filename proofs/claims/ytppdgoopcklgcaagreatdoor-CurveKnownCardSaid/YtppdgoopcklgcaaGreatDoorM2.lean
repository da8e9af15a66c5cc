/- Calls that have been run: layer 2. -/
import Derived.Test.YtppdgoopcklgcaaGreatDoorM1
namespace Go.Vg
open Go Go.Proofs
set_option maxRecDepth 1000000
set_option maxHeartbeats 0
def r2_88 : Row := ⟨88, (.pair (.pair .bool (.pair (.sl (.int .i64)) .unit)) (.pair (.pair .bool (.pair (.sl (.int .i64)) .unit)) .unit)), (.pair (.pair .bool (.pair (.sl (.int .i64)) .unit)) (.pair (.pair .bool (.pair (.sl (.int .i64)) .unit)) .unit)), ([(((false, ([(.ofNat 1)], ())), ((false, ([(.ofNat 1)], ())), ())), ((false, ([(.ofNat 1)], ())), ((false, ([], ())), ()))),
  (((false, ([(.ofNat 4)], ())), ((false, ([(.ofNat 1)], ())), ())), ((false, ([(.ofNat 4)], ())), ((false, ([], ())), ()))),
  (((false, ([(.ofNat 2)], ())), ((false, ([(.ofNat 1)], ())), ())), ((false, ([(.ofNat 2)], ())), ((false, ([], ())), ())))] : List (((Bool × (List Int × Unit)) × ((Bool × (List Int × Unit)) × Unit)) × ((Bool × (List Int × Unit)) × ((Bool × (List Int × Unit)) × Unit))))⟩
def r2_138 : Row := ⟨138, (.pair .str .unit), (.pair (.int .i64) .unit), ([(([52], ()), ((.ofNat 0), ())),
  (([49,48,48,48,48,48,48], ()), ((.ofNat 0), ())),
  (([50], ()), ((.ofNat 0), ())),
  (([54,53,53,51,53], ()), ((.ofNat 0), ())),
  (([51], ()), ((.ofNat 0), ())),
  (([45,54,53,53,51,53], ()), ((.ofNat 0), ())),
  (([53,48,48,48,48,48], ()), ((.ofNat 0), ())),
  (([50,48,48,48,48,48,48], ()), ((.ofNat 0), ())),
  (([45,49,48,48,48,48,48,48], ()), ((.ofNat 0), ())),
  (([53,48,48,48,48,48,48,48,48,48,48,49], ()), ((.ofNat 0), ()))] : List ((List UInt8 × Unit) × (Int × Unit)))⟩
def r2_139 : Row := ⟨139, (.pair .str .unit), (.pair (.pair (.sl (.int .u32)) (.pair .bool .unit)) .unit), ([(([52], ()), (([(.ofNat 4)], (false, ())), ())),
  (([48], ()), (([], (false, ())), ())),
  (([49,48,48,48,48,48,48,48,48,48,48,48,48], ()), (([(.ofNat 0), (.ofNat 1000)], (false, ())), ())),
  (([50], ()), (([(.ofNat 2)], (false, ())), ())),
  (([51], ()), (([(.ofNat 3)], (false, ())), ())),
  (([50,48,48,48,48,48,48], ()), (([(.ofNat 2000000)], (false, ())), ())),
  (([53,48,48,48,48,48,48,48,48,48,48,49], ()), (([(.ofNat 1), (.ofNat 500)], (false, ())), ()))] : List ((List UInt8 × Unit) × ((List Int × (Bool × Unit)) × Unit)))⟩
def r2_141 : Row := ⟨141, (.pair (.sl (.int .u32)) (.pair (.sl (.int .u32)) .unit)), (.pair (.sl (.int .u32)) .unit), ([(([], ([(.ofNat 0), (.ofNat 1000)], ())), ([(.ofNat 0), (.ofNat 1000)], ())),
  (([(.ofNat 1), (.ofNat 500)], ([(.ofNat 0), (.ofNat 1000)], ())), ([(.ofNat 1)], ()))] : List ((List Int × (List Int × Unit)) × (List Int × Unit)))⟩
def r2_143 : Row := ⟨143, (.pair (.pair (.pair (.sl (.int .u32)) (.pair .bool .unit)) (.pair (.sl (.int .u32)) .unit)) (.pair (.int .i64) .unit)), (.pair (.pair .str (.pair .str .unit)) (.pair (.int .i64) .unit)), ([(((([(.ofNat 250000)], (false, ())), ([(.ofNat 1)], ())), ((.ofNat 0), ())), (([50,53,48,48,48,48], ([49], ())), ((.ofNat 0), ()))),
  (((([(.ofNat 65535)], (false, ())), ([(.ofNat 2)], ())), ((.ofNat 0), ())), (([54,53,53,51,53], ([50], ())), ((.ofNat 0), ()))),
  (((([(.ofNat 3)], (false, ())), ([(.ofNat 2)], ())), ((.ofNat 0), ())), (([51], ([50], ())), ((.ofNat 0), ()))),
  (((([(.ofNat 500000)], (false, ())), ([(.ofNat 1)], ())), ((.ofNat 0), ())), (([53,48,48,48,48,48], ([49], ())), ((.ofNat 0), ())))] : List ((((List Int × (Bool × Unit)) × (List Int × Unit)) × (Int × Unit)) × ((List UInt8 × (List UInt8 × Unit)) × (Int × Unit))))⟩
def r2_146 : Row := ⟨146, (.pair (.pair (.sl (.int .u32)) (.pair .bool .unit)) (.pair (.sl (.int .u32)) .unit)), (.pair (.pair (.sl (.int .u32)) (.pair .bool .unit)) .unit), ([((([(.ofNat 1)], (false, ())), ([(.ofNat 2)], ())), (([], (false, ())), ()))] : List (((List Int × (Bool × Unit)) × (List Int × Unit)) × ((List Int × (Bool × Unit)) × Unit)))⟩
def r2_155 : Row := ⟨155, (.pair (.pair (.pair (.sl (.int .u32)) (.pair .bool .unit)) (.pair (.sl (.int .u32)) .unit)) .unit), (.pair (.pair .str (.pair .str .unit)) (.pair (.int .i64) .unit)), ([(((([], (false, ())), ([(.ofNat 1)], ())), ()), (([48], ([49], ())), ((.ofNat 0), ()))),
  (((([(.ofNat 1)], (false, ())), ([(.ofNat 1)], ())), ()), (([49], ([49], ())), ((.ofNat 0), ()))),
  (((([(.ofNat 1)], (false, ())), ([(.ofNat 4)], ())), ()), (([49], ([52], ())), ((.ofNat 0), ()))),
  (((([(.ofNat 1000000)], (false, ())), ([(.ofNat 1)], ())), ()), (([49,48,48,48,48,48,48], ([49], ())), ((.ofNat 0), ()))),
  (((([(.ofNat 2)], (false, ())), ([(.ofNat 1)], ())), ()), (([50], ([49], ())), ((.ofNat 0), ()))),
  (((([(.ofNat 1)], (false, ())), ([(.ofNat 2)], ())), ()), (([49], ([50], ())), ((.ofNat 0), ()))),
  (((([(.ofNat 3)], (false, ())), ([(.ofNat 4)], ())), ()), (([51], ([52], ())), ((.ofNat 0), ()))),
  (((([(.ofNat 65535)], (true, ())), ([(.ofNat 1)], ())), ()), (([45,54,53,53,51,53], ([49], ())), ((.ofNat 0), ()))),
  (((([(.ofNat 2000000)], (false, ())), ([(.ofNat 1)], ())), ()), (([50,48,48,48,48,48,48], ([49], ())), ((.ofNat 0), ())))] : List ((((List Int × (Bool × Unit)) × (List Int × Unit)) × Unit) × ((List UInt8 × (List UInt8 × Unit)) × (Int × Unit))))⟩
def r2_173 : Row := ⟨173, (.pair .str .unit), (.pair (.pair (.sl (.int .u32)) (.pair .bool .unit)) (.pair .bool .unit)), ([(([49], ()), (([(.ofNat 1)], (false, ())), (true, ()))),
  (([48], ()), (([], (false, ())), (true, ()))),
  (([50,53,48,48,48,48,48,48,48,48,48,48], ()), (([(.ofNat 0), (.ofNat 250)], (false, ())), (true, ()))),
  (([49,48,48,48,48,48,48,48,48,48,48,48,48], ()), (([(.ofNat 0), (.ofNat 1000)], (false, ())), (true, ()))),
  (([53,48,48,48,48,48,48,48,48,48,48,48], ()), (([(.ofNat 0), (.ofNat 500)], (false, ())), (true, ())))] : List ((List UInt8 × Unit) × ((List Int × (Bool × Unit)) × (Bool × Unit))))⟩
def r2_178 : Row := ⟨178, (.pair (.sl (.int .u32)) (.pair (.sl (.int .u32)) .unit)), (.pair (.sl (.int .u32)) (.pair (.sl (.int .u32)) .unit)), ([(([(.ofNat 0), (.ofNat 1000)], ([(.ofNat 0), (.ofNat 250)], ())), ([(.ofNat 4)], ([], ()))),
  (([(.ofNat 0), (.ofNat 1000)], ([(.ofNat 0), (.ofNat 1000)], ())), ([(.ofNat 1)], ([], ()))),
  (([(.ofNat 2)], ([(.ofNat 1)], ())), ([(.ofNat 2)], ([], ())))] : List ((List Int × (List Int × Unit)) × (List Int × (List Int × Unit))))⟩
def r2_181 : Row := ⟨181, (.pair (.sl (.int .u32)) (.pair (.sl (.int .u32)) .unit)), (.pair (.sl (.int .u32)) .unit), ([(([(.ofNat 1)], ([(.ofNat 4)], ())), ([(.ofNat 4)], ())),
  (([(.ofNat 0), (.ofNat 1000)], ([(.ofNat 2)], ())), ([(.ofNat 0), (.ofNat 2000)], ())),
  (([(.ofNat 1)], ([(.ofNat 2)], ())), ([(.ofNat 2)], ())),
  (([(.ofNat 2)], ([(.ofNat 1)], ())), ([(.ofNat 2)], ())),
  (([(.ofNat 2)], ([(.ofNat 2)], ())), ([(.ofNat 4)], ()))] : List ((List Int × (List Int × Unit)) × (List Int × Unit)))⟩
def r2_190 : Row := ⟨190, (.pair (.pair (.sl (.int .u32)) (.pair .bool .unit)) (.pair (.sl (.int .u32)) .unit)), (.pair (.pair (.sl (.int .u32)) (.pair .bool .unit)) .unit), ([((([(.ofNat 1)], (false, ())), ([(.ofNat 0), (.ofNat 2000)], ())), (([(.ofNat 0), (.ofNat 2000)], (false, ())), ())),
  ((([(.ofNat 65535)], (true, ())), ([(.ofNat 1)], ())), (([(.ofNat 65535)], (true, ())), ())),
  ((([(.ofNat 1000000)], (true, ())), ([(.ofNat 1)], ())), (([(.ofNat 1000000)], (true, ())), ())),
  ((([(.ofNat 1)], (false, ())), ([(.ofNat 1000000)], ())), (([(.ofNat 1000000)], (false, ())), ()))] : List (((List Int × (Bool × Unit)) × (List Int × Unit)) × ((List Int × (Bool × Unit)) × Unit)))⟩
def r2_191 : Row := ⟨191, (.pair (.pair (.sl (.int .u32)) (.pair .bool .unit)) (.pair (.pair (.sl (.int .u32)) (.pair .bool .unit)) .unit)), (.pair (.pair (.sl (.int .u32)) (.pair .bool .unit)) .unit), ([((([(.ofNat 3)], (false, ())), (([(.ofNat 2)], (true, ())), ())), (([(.ofNat 1)], (false, ())), ())),
  ((([(.ofNat 2)], (false, ())), (([(.ofNat 1)], (true, ())), ())), (([(.ofNat 1)], (false, ())), ()))] : List (((List Int × (Bool × Unit)) × ((List Int × (Bool × Unit)) × Unit)) × ((List Int × (Bool × Unit)) × Unit)))⟩
def r2_271 : Row := ⟨271, (.pair (.sl (.int .u32)) (.pair (.int .i64) .unit)), (.pair (.sl (.int .u32)) .unit), ([(([(.ofNat 0), (.ofNat 0), (.ofNat 250000)], ((.ofNat 2), ())), ([(.ofNat 0), (.ofNat 500)], ()))] : List ((List Int × (Int × Unit)) × (List Int × Unit)))⟩
def rows2 : List Row := [r2_88, r2_138, r2_139, r2_141, r2_143, r2_146, r2_155, r2_173, r2_178, r2_181, r2_190, r2_191, r2_271]
theorem ok_r2_88 : okRows (pureKD Tryz.prog sigC 100000 ext1 40) [r2_88] = true := by kernel_rfl
theorem ok_r2_138 : okRows (pureKD Tryz.prog sigC 100000 ext1 40) [r2_138] = true := by kernel_rfl
theorem ok_r2_139 : okRows (pureKD Tryz.prog sigC 100000 ext1 40) [r2_139] = true := by kernel_rfl
theorem ok_r2_141 : okRows (pureKD Tryz.prog sigC 100000 ext1 40) [r2_141] = true := by kernel_rfl
theorem ok_r2_143 : okRows (pureKD Tryz.prog sigC 100000 ext1 40) [r2_143] = true := by kernel_rfl
theorem ok_r2_146 : okRows (pureKD Tryz.prog sigC 100000 ext1 40) [r2_146] = true := by kernel_rfl
theorem ok_r2_155 : okRows (pureKD Tryz.prog sigC 100000 ext1 40) [r2_155] = true := by kernel_rfl
theorem ok_r2_173 : okRows (pureKD Tryz.prog sigC 100000 ext1 40) [r2_173] = true := by kernel_rfl
theorem ok_r2_178 : okRows (pureKD Tryz.prog sigC 100000 ext1 40) [r2_178] = true := by kernel_rfl
theorem ok_r2_181 : okRows (pureKD Tryz.prog sigC 100000 ext1 40) [r2_181] = true := by kernel_rfl
theorem ok_r2_190 : okRows (pureKD Tryz.prog sigC 100000 ext1 40) [r2_190] = true := by kernel_rfl
theorem ok_r2_191 : okRows (pureKD Tryz.prog sigC 100000 ext1 40) [r2_191] = true := by kernel_rfl
theorem ok_r2_271 : okRows (pureKD Tryz.prog sigC 100000 ext1 40) [r2_271] = true := by kernel_rfl
def ext2 : PureT := firstR (extTab rows2) ext1
theorem ext2_ok : PureOk Tryz.prog (Gt Tryz.prog) ext2 := layer_ok gmono mixed enterSig ext1_ok 100000 40 (okRows_cons' ok_r2_88 (okRows_cons' ok_r2_138 (okRows_cons' ok_r2_139 (okRows_cons' ok_r2_141 (okRows_cons' ok_r2_143 (okRows_cons' ok_r2_146 (okRows_cons' ok_r2_155 (okRows_cons' ok_r2_173 (okRows_cons' ok_r2_178 (okRows_cons' ok_r2_181 (okRows_cons' ok_r2_190 (okRows_cons' ok_r2_191 (okRows_cons' ok_r2_271 (rfl))))))))))))))
end Go.Vg
