/- Calls that have been run: layer 1. -/
import Derived.Test.YtjfhagjpcdjjkabGreatDoorExt
namespace Go.Vg
open Go Go.Proofs
set_option maxRecDepth 1000000
set_option maxHeartbeats 0
def r1_7 : Row := ⟨7, (.pair (.pair (.int .i64) (.pair (.sl (.pair (.int .i64) (.pair (.sl (.int .i64)) (.pair (.sl (.pair (.int .i64) (.pair (.int .i64) (.pair (.int .i64) (.pair (.int .i64) (.pair (.int .i64) (.pair (.int .i64) .unit))))))) .unit)))) (.pair (.sl (.sl (.int .i64))) (.pair (.sl (.int .i64)) (.pair (.pair (.sl (.int .i64)) (.pair (.int .i64) (.pair (.sl (.int .i64)) .unit))) (.pair (.sl (.pair (.int .i64) (.pair (.int .i64) .unit))) (.pair (.int .i64) (.pair (.int .i64) .unit)))))))) .unit), (.pair (.int .i64) .unit), ([((((.ofNat 2), ([], ([[(.ofNat 500000), (.ofNat 500000)], [(.ofNat 1000000), (.negSucc 999999)]], ([(.ofNat 0), (.ofNat 250000)], (([], ((.ofNat 0), ([], ()))), ([], ((.ofNat 0), ((.ofNat 0), ())))))))), ()), ((.ofNat 0), ()))] : List (((Int × (List (Int × (List Int × (List (Int × (Int × (Int × (Int × (Int × (Int × Unit)))))) × Unit))) × (List (List Int) × (List Int × ((List Int × (Int × (List Int × Unit))) × (List (Int × (Int × Unit)) × (Int × (Int × Unit)))))))) × Unit) × (Int × Unit)))⟩
def r1_130 : Row := ⟨130, (.pair .str (.pair .str .unit)), (.pair .str (.pair .bool .unit)), ([(([48], ([45], ())), ([48], (false, ()))),
  (([49,48,48,48,48,48,48], ([45], ())), ([49,48,48,48,48,48,48], (false, ()))),
  (([49], ([45], ())), ([49], (false, ()))),
  (([49,48,48,48,48,48,48,48,48,48,48,48,48], ([45], ())), ([49,48,48,48,48,48,48,48,48,48,48,48,48], (false, ())))] : List ((List UInt8 × (List UInt8 × Unit)) × (List UInt8 × (Bool × Unit))))⟩
def r1_134 : Row := ⟨134, (.pair (.int .u64) .unit), (.pair (.sl (.int .u32)) .unit), ([(((.ofNat 1000000000000), ()), ([(.ofNat 0), (.ofNat 1000)], ()))] : List ((Int × Unit) × (List Int × Unit)))⟩
def r1_153 : Row := ⟨153, (.pair (.pair (.pair (.sl (.int .u32)) (.pair .bool .unit)) (.pair (.sl (.int .u32)) .unit)) .unit), (.pair (.pair .str (.pair .str .unit)) (.pair (.int .i64) .unit)), ([(((([], (false, ())), ([(.ofNat 1)], ())), ()), (([48], ([49], ())), ((.ofNat 0), ())))] : List ((((List Int × (Bool × Unit)) × (List Int × Unit)) × Unit) × ((List UInt8 × (List UInt8 × Unit)) × (Int × Unit))))⟩
def r1_155 : Row := ⟨155, (.pair (.sl (.int .u32)) (.pair (.sl (.int .u32)) .unit)), (.pair (.sl (.int .u32)) .unit), ([(([(.ofNat 0), (.ofNat 1000)], ([(.ofNat 999000)], ())), ([(.ofNat 0), (.ofNat 999000000)], ()))] : List ((List Int × (List Int × Unit)) × (List Int × Unit)))⟩
def r1_156 : Row := ⟨156, (.pair (.pair (.sl (.int .u32)) (.pair .bool .unit)) (.pair (.sl (.int .u32)) .unit)), (.pair (.pair (.sl (.int .u32)) (.pair .bool .unit)) .unit), ([((([], (false, ())), ([(.ofNat 1)], ())), (([], (false, ())), ()))] : List (((List Int × (Bool × Unit)) × (List Int × Unit)) × ((List Int × (Bool × Unit)) × Unit)))⟩
def r1_221 : Row := ⟨221, (.pair (.sl (.int .u32)) .unit), (.pair (.sl (.int .u32)) .unit), ([(([(.ofNat 0), (.ofNat 0)], ()), ([], ()))] : List ((List Int × Unit) × (List Int × Unit)))⟩
def rows1 : List Row := [r1_7, r1_130, r1_134, r1_153, r1_155, r1_156, r1_221]
theorem ok_r1_7 : okRows (pureKD Tryz.prog sigC 100000 ext0 40) [r1_7] = true := by kernel_rfl
theorem ok_r1_130 : okRows (pureKD Tryz.prog sigC 100000 ext0 40) [r1_130] = true := by kernel_rfl
theorem ok_r1_134 : okRows (pureKD Tryz.prog sigC 100000 ext0 40) [r1_134] = true := by kernel_rfl
theorem ok_r1_153 : okRows (pureKD Tryz.prog sigC 100000 ext0 40) [r1_153] = true := by kernel_rfl
theorem ok_r1_155 : okRows (pureKD Tryz.prog sigC 100000 ext0 40) [r1_155] = true := by kernel_rfl
theorem ok_r1_156 : okRows (pureKD Tryz.prog sigC 100000 ext0 40) [r1_156] = true := by kernel_rfl
theorem ok_r1_221 : okRows (pureKD Tryz.prog sigC 100000 ext0 40) [r1_221] = true := by kernel_rfl
theorem okRows_cons' {pf : PureT} {r : Row} {rs : List Row} (h1 : okRows pf [r] = true) (h2 : okRows pf rs = true) : okRows pf (r :: rs) = true := by
  simp only [okRows] at h1 ⊢
  split at h1
  · exact h2
  · cases h1
def ext1 : PureT := firstR (extTab rows1) ext0
theorem ext1_ok : PureOk Tryz.prog (Gt Tryz.prog) ext1 := layer_ok gmono mixed enterSig ext0_ok 100000 40 (okRows_cons' ok_r1_7 (okRows_cons' ok_r1_130 (okRows_cons' ok_r1_134 (okRows_cons' ok_r1_153 (okRows_cons' ok_r1_155 (okRows_cons' ok_r1_156 (okRows_cons' ok_r1_221 (rfl))))))))
end Go.Vg
