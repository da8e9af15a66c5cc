/- Calls that have been run: layer 5. -/
import Derived.Test.YtmpaaojkimhidaaGreatDoorM4
namespace Go.Vg
open Go Go.Proofs
set_option maxRecDepth 1000000
set_option maxHeartbeats 0
def r5_29 : Row := ⟨29, (.pair (.pair (.pair (.int .i64) (.pair (.sl (.pair (.int .i64) (.pair (.sl (.int .i64)) (.pair (.sl (.pair (.int .i64) (.pair (.int .i64) (.pair (.int .i64) (.pair (.int .i64) (.pair (.int .i64) (.pair (.int .i64) .unit))))))) .unit)))) (.pair (.sl (.sl (.int .i64))) (.pair (.sl (.int .i64)) (.pair (.pair (.sl (.int .i64)) (.pair (.int .i64) (.pair (.sl (.int .i64)) .unit))) (.pair (.sl (.pair (.int .i64) (.pair (.int .i64) .unit))) (.pair (.int .i64) (.pair (.int .i64) .unit)))))))) .unit) (.pair (.sl (.pair (.int .i64) (.pair (.int .i64) .unit))) .unit)), (.pair (.sl (.pair (.int .i64) (.pair (.int .i64) .unit))) (.pair (.int .i64) .unit)), ([(((((.ofNat 2), ([], ([[(.ofNat 500000), (.ofNat 500000)], [(.ofNat 1000000), (.negSucc 999999)]], ([(.ofNat 0), (.ofNat 250000)], (([], ((.ofNat 0), ([], ()))), ([], ((.ofNat 0), ((.ofNat 0), ())))))))), ()), ([((.ofNat 0), ((.ofNat 1000000000000), ())), ((.ofNat 1000000000000), ((.ofNat 1000000000000), ()))], ())), ([((.ofNat 500000000000), ((.ofNat 1000000000000), ())), ((.negSucc 749999999999), ((.ofNat 250000000000), ()))], ((.ofNat 0), ())))] : List ((((Int × (List (Int × (List Int × (List (Int × (Int × (Int × (Int × (Int × (Int × Unit)))))) × Unit))) × (List (List Int) × (List Int × ((List Int × (Int × (List Int × Unit))) × (List (Int × (Int × Unit)) × (Int × (Int × Unit)))))))) × Unit) × (List (Int × (Int × Unit)) × Unit)) × (List (Int × (Int × Unit)) × (Int × Unit))))⟩
def rows5 : List Row := [r5_29]
theorem ok_r5_29 : okRows (pureKD Tryz.prog sigC 100000 ext4 40) [r5_29] = true := by kernel_rfl
def ext5 : PureT := firstR (extTab rows5) ext4
theorem ext5_ok : PureOk Tryz.prog (Gt Tryz.prog) ext5 := layer_ok gmono mixed enterSig ext4_ok 100000 40 (okRows_cons' ok_r5_29 (rfl))
end Go.Vg
