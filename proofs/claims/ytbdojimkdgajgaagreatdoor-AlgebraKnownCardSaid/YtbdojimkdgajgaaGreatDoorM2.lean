/- Calls that have been run: layer 2. -/
import Derived.Test.YtbdojimkdgajgaaGreatDoorM1
namespace Go.Vg
open Go Go.Proofs
set_option maxRecDepth 1000000
set_option maxHeartbeats 0
def r2_78 : Row := ⟨78, (.pair (.pair (.int .i64) (.pair (.sl (.pair (.int .i64) (.pair (.sl (.int .i64)) (.pair (.sl (.pair (.int .i64) (.pair (.int .i64) (.pair (.int .i64) (.pair (.int .i64) (.pair (.int .i64) (.pair (.int .i64) .unit))))))) .unit)))) (.pair (.sl (.sl (.int .i64))) (.pair (.sl (.int .i64)) (.pair (.pair (.sl (.int .i64)) (.pair (.int .i64) (.pair (.sl (.int .i64)) .unit))) (.pair (.sl (.pair (.int .i64) (.pair (.int .i64) .unit))) (.pair (.int .i64) (.pair (.int .i64) .unit)))))))) .unit), (.pair (.int .i64) .unit), ([((((.ofNat 1), ([((.ofNat 2), ([(.ofNat 1), (.ofNat 0)], ([], ()))), ((.ofNat 1), ([], ([], ())))], ([], ([], (([], ((.ofNat 0), ([], ()))), ([], ((.ofNat 0), ((.ofNat 0), ())))))))), ()), ((.ofNat 0), ())),
  ((((.ofNat 2), ([], ([[(.ofNat 500000), (.ofNat 500000)], [(.ofNat 1000000), (.ofNat 0)]], ([(.ofNat 0), (.ofNat 0)], (([], ((.ofNat 0), ([], ()))), ([], ((.ofNat 0), ((.ofNat 0), ())))))))), ()), ((.ofNat 0), ())),
  ((((.ofNat 2), ([], ([[(.ofNat 1000000), (.ofNat 0)]], ([(.ofNat 0)], (([], ((.ofNat 0), ([], ()))), ([], ((.ofNat 0), ((.ofNat 0), ())))))))), ()), ((.ofNat 0), ()))] : List (((Int × (List (Int × (List Int × (List (Int × (Int × (Int × (Int × (Int × (Int × Unit)))))) × Unit))) × (List (List Int) × (List Int × ((List Int × (Int × (List Int × Unit))) × (List (Int × (Int × Unit)) × (Int × (Int × Unit)))))))) × Unit) × (Int × Unit)))⟩
def rows2 : List Row := [r2_78]
theorem ok_r2_78 : okRows (pureKD Tryz.prog sigC 100000 ext1 40) [r2_78] = true := by kernel_rfl
def ext2 : PureT := firstR (extTab rows2) ext1
theorem ext2_ok : PureOk Tryz.prog (Gt Tryz.prog) ext2 := layer_ok gmono mixed enterSig ext1_ok 100000 40 (okRows_cons' ok_r2_78 (rfl))
end Go.Vg
