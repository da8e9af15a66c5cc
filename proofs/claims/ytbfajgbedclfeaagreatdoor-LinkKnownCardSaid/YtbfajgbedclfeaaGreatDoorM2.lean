/- Calls that have been run: part 2. -/
import Derived.Test.YtbfajgbedclfeaaGreatDoorPiZ
namespace Go.Vg
open Go Go.Proofs
set_option maxRecDepth 1000000
set_option maxHeartbeats 0
def t1_29_0 : HTr (v43 × v10) := .leaf [(zO, yO)]
theorem q1_29_0 : okH (pureKD Tryz.prog sigC 100000 ext0 40) 29 z43 z10 (t1_29_0 : HTr ((Ty.T z43) × (Ty.T z10))) = true := okH_one (d := 39) (by kernel_rfl) runO
end Go.Vg
