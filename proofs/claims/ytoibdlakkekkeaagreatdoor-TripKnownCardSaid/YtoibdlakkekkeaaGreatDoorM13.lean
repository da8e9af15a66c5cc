/- Calls that have been run: part 13. -/
import Derived.Test.YtoibdlakkekkeaaGreatDoorPiZ
namespace Go.Vg
open Go Go.Proofs
set_option maxRecDepth 1000000
set_option maxHeartbeats 0
def t7_6 : HTr (v28 × v37) := .leaf [((((.ofNat 4), ([], ())), (((.ofNat 4), ([], ())), ((.ofNat 5), ()))), (((.ofNat 625), ((.ofNat 0), (([48], ([49], ())), (([48], ([49], ())), ([([48], ([49], ())), ([48], ([49], ())), ([48], ([49], ())), ([48], ([49], ()))], ()))))), ((.ofNat 0), ())))]
theorem q7_6 : okH (pureKD Tryz.prog sigC 100000 ext6 40) 6 z28 z37 (t7_6 : HTr ((Ty.T z28) × (Ty.T z37))) = true := okH_tab (d := 39) runO (by kernel_rfl)
end Go.Vg
