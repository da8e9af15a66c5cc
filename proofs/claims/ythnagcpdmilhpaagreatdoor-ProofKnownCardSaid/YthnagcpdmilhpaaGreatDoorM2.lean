/- Calls that have been run: part 2. -/
import Derived.Test.YthnagcpdmilhpaaGreatDoorM1
namespace Go.Vg
open Go Go.Proofs
set_option maxRecDepth 1000000
set_option maxHeartbeats 0
theorem p2 : PureOk Tryz.prog (Gt Tryz.prog) (pureKD Tryz.prog sigC 100000 ext2 40) := pure_at gmono mixed enterSig ext2_ok 100000 40
def t3_8 : HTr (v3 × v53) := .node 4041 (.node 2023 (.leaf [(((.ofNat 0), ((.ofNat 1), ())), (([48], ([49], ())), ())),
 (((.ofNat 1), ((.ofNat 1), ())), (([49], ([49], ())), ()))]) (.leaf [(((.ofNat 2), ((.ofNat 1), ())), (([50], ([49], ())), ())),
 (((.ofNat 1), ((.ofNat 2), ())), (([49], ([50], ())), ())),
 (((.ofNat 1), ((.ofNat 3), ())), (([49], ([51], ())), ()))])) (.leaf [(((.ofNat 3), ((.ofNat 2), ())), (([51], ([50], ())), ())),
 (((.ofNat 5), ((.ofNat 1), ())), (([53], ([49], ())), ())),
 (((.ofNat 5), ((.ofNat 2), ())), (([53], ([50], ())), ())),
 (((.negSucc 0), ((.ofNat 2), ())), (([45,49], ([50], ())), ()))])
theorem q3_8 : okH (pureKD Tryz.prog sigC 100000 ext2 40) 8 z3 z53 (t3_8 : HTr ((Ty.T z3) × (Ty.T z53))) = true := by kernel_rfl
def t3_10 : HTr (v58 × v59) := .leaf [((([[(.ofNat 0), (.ofNat 0), (.ofNat 0)], [(.ofNat 1000), (.ofNat 0), (.ofNat 0)], [(.ofNat 0), (.ofNat 1000), (.ofNat 0)], [(.ofNat 0), (.ofNat 0), (.ofNat 1000)]], ([[(.ofNat 0), (.ofNat 2), (.ofNat 1)], [(.ofNat 0), (.ofNat 1), (.ofNat 3)], [(.ofNat 0), (.ofNat 3), (.ofNat 2)], [(.ofNat 1), (.ofNat 2), (.ofNat 3)]], ())), ([[(.ofNat 0), (.ofNat 0), (.ofNat 200001)]], ())), ([], ((.ofNat 2), ()))),
 ((([[(.ofNat 0), (.ofNat 0), (.ofNat 0)], [(.ofNat 1000), (.ofNat 0), (.ofNat 0)], [(.ofNat 0), (.ofNat 1000), (.ofNat 0)], [(.ofNat 0), (.ofNat 0), (.ofNat 1000)]], ([[(.ofNat 0), (.ofNat 2), (.ofNat 1)], [(.ofNat 0), (.ofNat 1), (.ofNat 3)], [(.ofNat 0), (.ofNat 3), (.ofNat 2)], [(.ofNat 1), (.ofNat 2), (.ofNat 3)]], ())), ([[(.ofNat 0), (.ofNat 0), (.ofNat 0)], [(.ofNat 0), (.ofNat 0), (.ofNat 0)], [(.ofNat 0), (.ofNat 0), (.ofNat 0)], [(.ofNat 0), (.ofNat 0), (.ofNat 0)], [(.ofNat 0), (.ofNat 0), (.ofNat 0)], [(.ofNat 0), (.ofNat 0), (.ofNat 0)], [(.ofNat 0), (.ofNat 0), (.ofNat 0)], [(.ofNat 0), (.ofNat 0), (.ofNat 0)], [(.ofNat 0), (.ofNat 0), (.ofNat 0)], [(.ofNat 0), (.ofNat 0), (.ofNat 0)], [(.ofNat 0), (.ofNat 0), (.ofNat 0)], [(.ofNat 0), (.ofNat 0), (.ofNat 0)], [(.ofNat 0), (.ofNat 0), (.ofNat 0)], [(.ofNat 0), (.ofNat 0), (.ofNat 0)], [(.ofNat 0), (.ofNat 0), (.ofNat 0)], [(.ofNat 0), (.ofNat 0), (.ofNat 0)], [(.ofNat 0), (.ofNat 0), (.ofNat 0)], [(.ofNat 0), (.ofNat 0), (.ofNat 0)], [(.ofNat 0), (.ofNat 0), (.ofNat 0)], [(.ofNat 0), (.ofNat 0), (.ofNat 0)], [(.ofNat 0), (.ofNat 0), (.ofNat 0)], [(.ofNat 0), (.ofNat 0), (.ofNat 0)], [(.ofNat 0), (.ofNat 0), (.ofNat 0)], [(.ofNat 0), (.ofNat 0), (.ofNat 0)], [(.ofNat 0), (.ofNat 0), (.ofNat 0)], [(.ofNat 0), (.ofNat 0), (.ofNat 0)], [(.ofNat 0), (.ofNat 0), (.ofNat 0)], [(.ofNat 0), (.ofNat 0), (.ofNat 0)], [(.ofNat 0), (.ofNat 0), (.ofNat 0)], [(.ofNat 0), (.ofNat 0), (.ofNat 0)], [(.ofNat 0), (.ofNat 0), (.ofNat 0)], [(.ofNat 0), (.ofNat 0), (.ofNat 0)], [(.ofNat 0), (.ofNat 0), (.ofNat 0)], [(.ofNat 0), (.ofNat 0), (.ofNat 0)], [(.ofNat 0), (.ofNat 0), (.ofNat 0)], [(.ofNat 0), (.ofNat 0), (.ofNat 0)], [(.ofNat 0), (.ofNat 0), (.ofNat 0)], [(.ofNat 0), (.ofNat 0), (.ofNat 0)], [(.ofNat 0), (.ofNat 0), (.ofNat 0)], [(.ofNat 0), (.ofNat 0), (.ofNat 0)], [(.ofNat 0), (.ofNat 0), (.ofNat 0)], [(.ofNat 0), (.ofNat 0), (.ofNat 0)], [(.ofNat 0), (.ofNat 0), (.ofNat 0)], [(.ofNat 0), (.ofNat 0), (.ofNat 0)], [(.ofNat 0), (.ofNat 0), (.ofNat 0)], [(.ofNat 0), (.ofNat 0), (.ofNat 0)], [(.ofNat 0), (.ofNat 0), (.ofNat 0)], [(.ofNat 0), (.ofNat 0), (.ofNat 0)], [(.ofNat 0), (.ofNat 0), (.ofNat 0)], [(.ofNat 0), (.ofNat 0), (.ofNat 0)], [(.ofNat 0), (.ofNat 0), (.ofNat 0)], [(.ofNat 0), (.ofNat 0), (.ofNat 0)], [(.ofNat 0), (.ofNat 0), (.ofNat 0)], [(.ofNat 0), (.ofNat 0), (.ofNat 0)], [(.ofNat 0), (.ofNat 0), (.ofNat 0)], [(.ofNat 0), (.ofNat 0), (.ofNat 0)], [(.ofNat 0), (.ofNat 0), (.ofNat 0)], [(.ofNat 0), (.ofNat 0), (.ofNat 0)], [(.ofNat 0), (.ofNat 0), (.ofNat 0)], [(.ofNat 0), (.ofNat 0), (.ofNat 0)], [(.ofNat 0), (.ofNat 0), (.ofNat 0)], [(.ofNat 0), (.ofNat 0), (.ofNat 0)], [(.ofNat 0), (.ofNat 0), (.ofNat 0)], [(.ofNat 0), (.ofNat 0), (.ofNat 0)], [(.ofNat 0), (.ofNat 0), (.ofNat 0)], [(.ofNat 0), (.ofNat 0), (.ofNat 0)], [(.ofNat 0), (.ofNat 0), (.ofNat 0)], [(.ofNat 0), (.ofNat 0), (.ofNat 0)], [(.ofNat 0), (.ofNat 0), (.ofNat 0)], [(.ofNat 0), (.ofNat 0), (.ofNat 0)], [(.ofNat 0), (.ofNat 0), (.ofNat 0)], [(.ofNat 0), (.ofNat 0), (.ofNat 0)], [(.ofNat 0), (.ofNat 0), (.ofNat 0)], [(.ofNat 0), (.ofNat 0), (.ofNat 0)], [(.ofNat 0), (.ofNat 0), (.ofNat 0)], [(.ofNat 0), (.ofNat 0), (.ofNat 0)], [(.ofNat 0), (.ofNat 0), (.ofNat 0)], [(.ofNat 0), (.ofNat 0), (.ofNat 0)], [(.ofNat 0), (.ofNat 0), (.ofNat 0)], [(.ofNat 0), (.ofNat 0), (.ofNat 0)], [(.ofNat 0), (.ofNat 0), (.ofNat 0)], [(.ofNat 0), (.ofNat 0), (.ofNat 0)], [(.ofNat 0), (.ofNat 0), (.ofNat 0)], [(.ofNat 0), (.ofNat 0), (.ofNat 0)], [(.ofNat 0), (.ofNat 0), (.ofNat 0)], [(.ofNat 0), (.ofNat 0), (.ofNat 0)], [(.ofNat 0), (.ofNat 0), (.ofNat 0)], [(.ofNat 0), (.ofNat 0), (.ofNat 0)], [(.ofNat 0), (.ofNat 0), (.ofNat 0)], [(.ofNat 0), (.ofNat 0), (.ofNat 0)], [(.ofNat 0), (.ofNat 0), (.ofNat 0)], [(.ofNat 0), (.ofNat 0), (.ofNat 0)], [(.ofNat 0), (.ofNat 0), (.ofNat 0)], [(.ofNat 0), (.ofNat 0), (.ofNat 0)], [(.ofNat 0), (.ofNat 0), (.ofNat 0)], [(.ofNat 0), (.ofNat 0), (.ofNat 0)], [(.ofNat 0), (.ofNat 0), (.ofNat 0)], [(.ofNat 0), (.ofNat 0), (.ofNat 0)], [(.ofNat 0), (.ofNat 0), (.ofNat 0)], [(.ofNat 0), (.ofNat 0), (.ofNat 0)], [(.ofNat 4611686018427387904), (.ofNat 0), (.ofNat 0)]], ())), ([], ((.ofNat 3), ()))),
 ((([[(.ofNat 0), (.ofNat 0), (.ofNat 0)], [(.ofNat 1000), (.ofNat 0), (.ofNat 0)], [(.ofNat 0), (.ofNat 1000), (.ofNat 0)], [(.ofNat 0), (.ofNat 0), (.ofNat 1000)]], ([[(.ofNat 0), (.ofNat 2), (.ofNat 1)], [(.ofNat 0), (.ofNat 1), (.ofNat 3)], [(.ofNat 0), (.ofNat 3), (.ofNat 2)], [(.ofNat 1), (.ofNat 2), (.ofNat 3)]], ())), ([], ())), ([], ((.ofNat 0), ())))]
theorem q3_10 : okH (pureKD Tryz.prog sigC 100000 ext2 40) 10 z58 z59 (t3_10 : HTr ((Ty.T z58) × (Ty.T z59))) = true := by kernel_rfl
def t3_20 : HTr (v82 × v2) := .leaf [((((.ofNat 4), ((.ofNat 4), ((.ofNat 1), ((.ofNat 5), ((.ofNat 0), ([65], ([(.ofNat 1), (.ofNat 1), (.ofNat 1)], ([([100,101,115,99], ((.ofNat 1), ([120], ([], (((.ofNat 0), ([], ())), ()))))), ([108,105,110,107], ((.ofNat 3), ([], ([], (((.ofNat 1), ([((.ofNat 2), ([], ([[(.ofNat 1000000)], [(.ofNat 0)], [(.ofNat 0)]], ([(.ofNat 0), (.ofNat 500000), (.ofNat 500000)], (([], ((.ofNat 0), ([], ()))), ([], ((.ofNat 0), ((.ofNat 0), ()))))))))], ())), ())))))], ())))))))), ()), ((.ofNat 0), ()))]
theorem q3_20 : okH (pureKD Tryz.prog sigC 100000 ext2 40) 20 z82 z2 (t3_20 : HTr ((Ty.T z82) × (Ty.T z2))) = true := by kernel_rfl
def t3_25 : HTr (v53 × v3) := .leaf [((([45,49], ([50], ())), ()), ((.negSucc 0), ((.ofNat 0), ())))]
theorem q3_25 : okH (pureKD Tryz.prog sigC 100000 ext2 40) 25 z53 z3 (t3_25 : HTr ((Ty.T z53) × (Ty.T z3))) = true := by kernel_rfl
def t3_37 : HTr (v85 × v72) := .leaf [((((.ofNat 5000000000000), ((.ofNat 5000000000000), ())), ((.ofNat 1), ((.ofNat 2), ()))), (((.ofNat 2500000000000), ((.ofNat 2500000000000), ())), ((.ofNat 0), ()))),
 ((((.ofNat 3000000000000), ((.ofNat 3000000000000), ())), ((.ofNat 1), ((.ofNat 2), ()))), (((.ofNat 1500000000000), ((.ofNat 1500000000000), ())), ((.ofNat 0), ())))]
theorem q3_37 : okH (pureKD Tryz.prog sigC 100000 ext2 40) 37 z85 z72 (t3_37 : HTr ((Ty.T z85) × (Ty.T z72))) = true := by kernel_rfl
def t3_42 : HTr (v3 × v89) := .node 136893 (.leaf [(((.ofNat 0), ((.ofNat 1000000000000), ())), (([48], ([49], ())), ((.ofNat 0), ()))),
 (((.ofNat 0), ((.ofNat 100), ())), (([48], ([49], ())), ((.ofNat 0), ()))),
 (((.ofNat 4000), ((.ofNat 100), ())), (([52,48], ([49], ())), ((.ofNat 0), ())))]) (.leaf [(((.ofNat 0), ((.ofNat 200), ())), (([48], ([49], ())), ((.ofNat 0), ()))),
 (((.ofNat 300), ((.ofNat 100), ())), (([51], ([49], ())), ((.ofNat 0), ()))),
 (((.ofNat 400), ((.ofNat 100), ())), (([52], ([49], ())), ((.ofNat 0), ())))])
theorem q3_42 : okH (pureKD Tryz.prog sigC 100000 ext2 40) 42 z3 z89 (t3_42 : HTr ((Ty.T z3) × (Ty.T z89))) = true := by kernel_rfl
def t3_56 : HTr (v53 × v94) := .node 640597 (.node 379282 (.leaf [((([45,50], ([49], ())), ()), ((([(.ofNat 2)], (true, ())), ([(.ofNat 1)], ())), (true, ()))),
 ((([52,48], ([49], ())), ()), ((([(.ofNat 40)], (false, ())), ([(.ofNat 1)], ())), (true, ()))),
 ((([53,48], ([49], ())), ()), ((([(.ofNat 50)], (false, ())), ([(.ofNat 1)], ())), (true, ()))),
 ((([45,52], ([49], ())), ()), ((([(.ofNat 4)], (true, ())), ([(.ofNat 1)], ())), (true, ())))]) (.node 604441 (.leaf [((([53,50], ([49], ())), ()), ((([(.ofNat 52)], (false, ())), ([(.ofNat 1)], ())), (true, ()))),
 ((([48], ([49], ())), ()), ((([], (false, ())), ([(.ofNat 1)], ())), (true, ())))]) (.leaf [((([49], ([49], ())), ()), ((([(.ofNat 1)], (false, ())), ([(.ofNat 1)], ())), (true, ()))),
 ((([50], ([49], ())), ()), ((([(.ofNat 2)], (false, ())), ([(.ofNat 1)], ())), (true, ()))),
 ((([49], ([50], ())), ()), ((([(.ofNat 1)], (false, ())), ([(.ofNat 2)], ())), (true, ())))]))) (.node 698034 (.node 676753 (.leaf [((([51], ([49], ())), ()), ((([(.ofNat 3)], (false, ())), ([(.ofNat 1)], ())), (true, ()))),
 ((([49], ([51], ())), ()), ((([(.ofNat 1)], (false, ())), ([(.ofNat 3)], ())), (true, ()))),
 ((([51], ([50], ())), ()), ((([(.ofNat 3)], (false, ())), ([(.ofNat 2)], ())), (true, ()))),
 ((([52], ([49], ())), ()), ((([(.ofNat 4)], (false, ())), ([(.ofNat 1)], ())), (true, ())))]) (.leaf [((([53], ([49], ())), ()), ((([(.ofNat 5)], (false, ())), ([(.ofNat 1)], ())), (true, ()))),
 ((([45,49], ([49], ())), ()), ((([(.ofNat 1)], (true, ())), ([(.ofNat 1)], ())), (true, ())))])) (.node 749065 (.leaf [((([53], ([50], ())), ()), ((([(.ofNat 5)], (false, ())), ([(.ofNat 2)], ())), (true, ()))),
 ((([54], ([49], ())), ()), ((([(.ofNat 6)], (false, ())), ([(.ofNat 1)], ())), (true, ()))),
 ((([56], ([49], ())), ()), ((([(.ofNat 8)], (false, ())), ([(.ofNat 1)], ())), (true, ())))]) (.leaf [((([45,51], ([49], ())), ()), ((([(.ofNat 3)], (true, ())), ([(.ofNat 1)], ())), (true, ()))),
 ((([52,49], ([49], ())), ()), ((([(.ofNat 41)], (false, ())), ([(.ofNat 1)], ())), (true, ()))),
 ((([50,52,57], ([49,48,48], ())), ()), ((([(.ofNat 249)], (false, ())), ([(.ofNat 100)], ())), (true, ())))])))
theorem q3_56 : okH (pureKD Tryz.prog sigC 100000 ext2 40) 56 z53 z94 (t3_56 : HTr ((Ty.T z53) × (Ty.T z94))) = true := by kernel_rfl
def t3_78 : HTr (v77 × v2) := .leaf [(([([97], ([(.ofNat 0)], ([(.ofNat 5000), (.ofNat 0), (.ofNat 0)], ()))), ([98], ([(.ofNat 0)], ([(.ofNat 4000), (.ofNat 300), (.ofNat 400)], ())))], ()), ((.ofNat 0), ()))]
theorem q3_78 : okH (pureKD Tryz.prog sigC 100000 ext2 40) 78 z77 z2 (t3_78 : HTr ((Ty.T z77) × (Ty.T z2))) = true := by kernel_rfl
def t3_96 : HTr (v33 × v2) := .leaf [((([98,119,100,48], ((.ofNat 3), ([], ([], (((.ofNat 3), ([((.ofNat 2), ([], ([[(.ofNat 1000000), (.ofNat 0), (.ofNat 0)]], ([(.ofNat 0)], (([], ((.ofNat 0), ([], ()))), ([], ((.ofNat 0), ((.ofNat 0), ()))))))))], ())), ()))))), ()), ((.ofNat 0), ())),
 ((([102,119,100,48], ((.ofNat 3), ([], ([], (((.ofNat 1), ([((.ofNat 2), ([], ([[(.ofNat 1000000)], [(.ofNat 0)], [(.ofNat 0)]], ([(.ofNat 0), (.ofNat 500000), (.ofNat 500000)], (([], ((.ofNat 0), ([], ()))), ([], ((.ofNat 0), ((.ofNat 0), ()))))))))], ())), ()))))), ()), ((.ofNat 0), ()))]
theorem q3_96 : okH (pureKD Tryz.prog sigC 100000 ext2 40) 96 z33 z2 (t3_96 : HTr ((Ty.T z33) × (Ty.T z2))) = true := by kernel_rfl
def t3_106 : HTr (v93 × v108) := .leaf [((([(.ofNat 2)], (true, ())), ([(.ofNat 1)], ())), (([(.ofNat 2)], (true, ())), ())),
 ((([(.ofNat 3)], (true, ())), ([(.ofNat 1)], ())), (([(.ofNat 3)], (true, ())), ()))]
theorem q3_106 : okH (pureKD Tryz.prog sigC 100000 ext2 40) 106 z93 z108 (t3_106 : HTr ((Ty.T z93) × (Ty.T z108))) = true := by kernel_rfl
def t3_116 : HTr (v2 × v89) := .leaf [(((.ofNat 0), ()), (([48], ([49], ())), ((.ofNat 0), ()))),
 (((.ofNat 500000), ()), (([49], ([50], ())), ((.ofNat 0), ()))),
 (((.ofNat 1000000), ()), (([49], ([49], ())), ((.ofNat 0), ())))]
theorem q3_116 : okH (pureKD Tryz.prog sigC 100000 ext2 40) 116 z2 z89 (t3_116 : HTr ((Ty.T z2) × (Ty.T z89))) = true := by kernel_rfl
def t3_151 : HTr (v2 × v89) := .node 18167 (.leaf [(((.ofNat 1000000000000), ()), (([49], ([49], ())), ((.ofNat 0), ()))),
 (((.ofNat 2000000000000), ()), (([50], ([49], ())), ((.ofNat 0), ())))]) (.leaf [(((.ofNat 5000000000000), ()), (([53], ([49], ())), ((.ofNat 0), ()))),
 (((.ofNat 1500000000000), ()), (([51], ([50], ())), ((.ofNat 0), ()))),
 (((.ofNat 2500000000000), ()), (([53], ([50], ())), ((.ofNat 0), ())))])
theorem q3_151 : okH (pureKD Tryz.prog sigC 100000 ext2 40) 151 z2 z89 (t3_151 : HTr ((Ty.T z2) × (Ty.T z89))) = true := by kernel_rfl
def t3_206 : HTr (v0 × v128) := .leaf [((false, ()), ((([48], ([49], ())), (([49], ([49], ())), (false, ()))), ()))]
theorem q3_206 : okH (pureKD Tryz.prog sigC 100000 ext2 40) 206 z0 z128 (t3_206 : HTr ((Ty.T z0) × (Ty.T z128))) = true := by kernel_rfl
def t3_298 : HTr (v113 × v113) := .leaf [(([51,54,48,48,48,48,48,48,48,48,48,48,48,48,48,48,48,48,48,48,48,48,48,48,48,48], ((.ofNat 8000000000000), ())), ([49,48,48,48,48,48,48,48,48,48,48,48,48,48,48,48,48,48,48,48,48,48,48,48,48,48,48], ((.ofNat 0), ()))),
 (([48], ((.ofNat 3000000000000), ())), ([57,48,48,48,48,48,48,48,48,48,48,48,48,48,48,48,48,48,48,48,48,48,48,48,48], ((.ofNat 0), ()))),
 (([48], ((.ofNat 6000000000000), ())), ([51,54,48,48,48,48,48,48,48,48,48,48,48,48,48,48,48,48,48,48,48,48,48,48,48,48], ((.ofNat 0), ()))),
 (([57,48,48,48,48,48,48,48,48,48,48,48,48,48,48,48,48,48,48,48,48,48,48,48,48], ((.ofNat 4000000000000), ())), ([50,53,48,48,48,48,48,48,48,48,48,48,48,48,48,48,48,48,48,48,48,48,48,48,48,48], ((.ofNat 0), ())))]
theorem q3_298 : okH (pureKD Tryz.prog sigC 100000 ext2 40) 298 z113 z113 (t3_298 : HTr ((Ty.T z113) × (Ty.T z113))) = true := by kernel_rfl
def t3_302 : HTr (v118 × v3) := .leaf [(([49,48,48,48,48,48,48,48,48,48,48,48,48], (false, ())), ((.ofNat 1000000000000), ((.ofNat 0), ()))),
 (([50,48,48,48,48,48,48,48,48,48,48,48,48], (false, ())), ((.ofNat 2000000000000), ((.ofNat 0), ()))),
 (([53,48,48,48,48,48,48,48,48,48,48,48,48], (false, ())), ((.ofNat 5000000000000), ((.ofNat 0), ())))]
theorem q3_302 : okH (pureKD Tryz.prog sigC 100000 ext2 40) 302 z118 z3 (t3_302 : HTr ((Ty.T z118) × (Ty.T z3))) = true := by kernel_rfl
def t3_369 : HTr (v113 × v113) := .leaf [(([48], ((.ofNat 2), ())), ([48], ((.ofNat 0), ()))),
 (([49,48,48,48,48,48,48,48,48,48,48,48,48], ((.ofNat 2), ())), ([49,48,48,48,48,48,48,48,48,48,48,48,48,48,48,48,48,48,48,48,48,48,48,48,48], ((.ofNat 0), ()))),
 (([50,48,48,48,48,48,48,48,48,48,48,48,48], ((.ofNat 2), ())), ([52,48,48,48,48,48,48,48,48,48,48,48,48,48,48,48,48,48,48,48,48,48,48,48,48], ((.ofNat 0), ())))]
theorem q3_369 : okH (pureKD Tryz.prog sigC 100000 ext2 40) 369 z113 z113 (t3_369 : HTr ((Ty.T z113) × (Ty.T z113))) = true := by kernel_rfl
def t3_373 : HTr (v47 × v3) := .leaf [(([48], ()), ((.ofNat 0), ((.ofNat 0), ())))]
theorem q3_373 : okH (pureKD Tryz.prog sigC 100000 ext2 40) 373 z47 z3 (t3_373 : HTr ((Ty.T z47) × (Ty.T z3))) = true := by kernel_rfl
def t3_410_0 : HTr (v140 × v92) := .leaf [(([(.ofNat 0), (.ofNat 0), (.ofNat 1000000)], ((.ofNat 2), ())), ([(.ofNat 0), (.ofNat 1000)], ()))]
theorem q3_410_0 : okH (pureKD Tryz.prog sigC 100000 ext2 40) 410 z140 z92 (t3_410_0 : HTr ((Ty.T z140) × (Ty.T z92))) = true := by kernel_rfl
def t3_410_1 : HTr (v140 × v92) := .leaf [(([(.ofNat 0), (.ofNat 0), (.ofNat 100000000)], ((.ofNat 2), ())), ([(.ofNat 0), (.ofNat 10000)], ()))]
theorem q3_410_1 : okH (pureKD Tryz.prog sigC 100000 ext2 40) 410 z140 z92 (t3_410_1 : HTr ((Ty.T z140) × (Ty.T z92))) = true := by kernel_rfl
def t3_410_2 : HTr (v140 × v92) := .leaf [(([(.ofNat 0), (.ofNat 0), (.ofNat 25000000)], ((.ofNat 2), ())), ([(.ofNat 0), (.ofNat 5000)], ()))]
theorem q3_410_2 : okH (pureKD Tryz.prog sigC 100000 ext2 40) 410 z140 z92 (t3_410_2 : HTr ((Ty.T z140) × (Ty.T z92))) = true := by kernel_rfl
def t3_410_3 : HTr (v140 × v92) := .leaf [(([(.ofNat 0), (.ofNat 0), (.ofNat 4000000)], ((.ofNat 2), ())), ([(.ofNat 0), (.ofNat 2000)], ()))]
theorem q3_410_3 : okH (pureKD Tryz.prog sigC 100000 ext2 40) 410 z140 z92 (t3_410_3 : HTr ((Ty.T z140) × (Ty.T z92))) = true := by kernel_rfl
def r3_8 : RowH := ⟨8, z3, z53, t3_8⟩
theorem a3_8 : AtRow Tryz.prog (Gt Tryz.prog) r3_8 := at_row p2 q3_8
def R3_8 : RowH := RowH.or r2_8 t3_8
theorem b3_8 : AtRow Tryz.prog (Gt Tryz.prog) R3_8 := at_or a2_8 a3_8
def r3_10 : RowH := ⟨10, z58, z59, t3_10⟩
theorem a3_10 : AtRow Tryz.prog (Gt Tryz.prog) r3_10 := at_row p2 q3_10
def R3_10 : RowH := RowH.or r1_10 t3_10
theorem b3_10 : AtRow Tryz.prog (Gt Tryz.prog) R3_10 := at_or a1_10 a3_10
def r3_20 : RowH := ⟨20, z82, z2, t3_20⟩
theorem a3_20 : AtRow Tryz.prog (Gt Tryz.prog) r3_20 := at_row p2 q3_20
def R3_20 : RowH := RowH.or r1_20 t3_20
theorem b3_20 : AtRow Tryz.prog (Gt Tryz.prog) R3_20 := at_or a1_20 a3_20
def r3_25 : RowH := ⟨25, z53, z3, t3_25⟩
theorem a3_25 : AtRow Tryz.prog (Gt Tryz.prog) r3_25 := at_row p2 q3_25
def R3_25 : RowH := RowH.or r1_25 t3_25
theorem b3_25 : AtRow Tryz.prog (Gt Tryz.prog) R3_25 := at_or a1_25 a3_25
def r3_37 : RowH := ⟨37, z85, z72, t3_37⟩
theorem a3_37 : AtRow Tryz.prog (Gt Tryz.prog) r3_37 := at_row p2 q3_37
def r3_42 : RowH := ⟨42, z3, z89, t3_42⟩
theorem a3_42 : AtRow Tryz.prog (Gt Tryz.prog) r3_42 := at_row p2 q3_42
def r3_56 : RowH := ⟨56, z53, z94, t3_56⟩
theorem a3_56 : AtRow Tryz.prog (Gt Tryz.prog) r3_56 := at_row p2 q3_56
def r3_78 : RowH := ⟨78, z77, z2, t3_78⟩
theorem a3_78 : AtRow Tryz.prog (Gt Tryz.prog) r3_78 := at_row p2 q3_78
def r3_96 : RowH := ⟨96, z33, z2, t3_96⟩
theorem a3_96 : AtRow Tryz.prog (Gt Tryz.prog) r3_96 := at_row p2 q3_96
def R3_96 : RowH := RowH.or r1_96 t3_96
theorem b3_96 : AtRow Tryz.prog (Gt Tryz.prog) R3_96 := at_or a1_96 a3_96
def r3_106 : RowH := ⟨106, z93, z108, t3_106⟩
theorem a3_106 : AtRow Tryz.prog (Gt Tryz.prog) r3_106 := at_row p2 q3_106
def R3_106 : RowH := RowH.or R2_106 t3_106
theorem b3_106 : AtRow Tryz.prog (Gt Tryz.prog) R3_106 := at_or b2_106 a3_106
def r3_116 : RowH := ⟨116, z2, z89, t3_116⟩
theorem a3_116 : AtRow Tryz.prog (Gt Tryz.prog) r3_116 := at_row p2 q3_116
def r3_151 : RowH := ⟨151, z2, z89, t3_151⟩
theorem a3_151 : AtRow Tryz.prog (Gt Tryz.prog) r3_151 := at_row p2 q3_151
def r3_206 : RowH := ⟨206, z0, z128, t3_206⟩
theorem a3_206 : AtRow Tryz.prog (Gt Tryz.prog) r3_206 := at_row p2 q3_206
def r3_298 : RowH := ⟨298, z113, z113, t3_298⟩
theorem a3_298 : AtRow Tryz.prog (Gt Tryz.prog) r3_298 := at_row p2 q3_298
def r3_302 : RowH := ⟨302, z118, z3, t3_302⟩
theorem a3_302 : AtRow Tryz.prog (Gt Tryz.prog) r3_302 := at_row p2 q3_302
def R3_302 : RowH := RowH.or r2_302 t3_302
theorem b3_302 : AtRow Tryz.prog (Gt Tryz.prog) R3_302 := at_or a2_302 a3_302
def r3_369 : RowH := ⟨369, z113, z113, t3_369⟩
theorem a3_369 : AtRow Tryz.prog (Gt Tryz.prog) r3_369 := at_row p2 q3_369
def r3_373 : RowH := ⟨373, z47, z3, t3_373⟩
theorem a3_373 : AtRow Tryz.prog (Gt Tryz.prog) r3_373 := at_row p2 q3_373
def t3_410 : HTr (v140 × v92) := (.node 521399 (.node 506288 t3_410_0 t3_410_1) (.node 691770 t3_410_2 t3_410_3))
theorem q3_410 : okH (pureKD Tryz.prog sigC 100000 ext2 40) 410 z140 z92 (t3_410 : HTr ((Ty.T z140) × (Ty.T z92))) = true := (okH_node (okH_node q3_410_0 q3_410_1) (okH_node q3_410_2 q3_410_3))
def r3_410 : RowH := ⟨410, z140, z92, t3_410⟩
theorem a3_410 : AtRow Tryz.prog (Gt Tryz.prog) r3_410 := at_row p2 q3_410
def rows3 : List RowH := [r3_56, R2_170, R2_167, r1_363, R2_162, r2_204, R2_103, r1_163, r3_42, R3_106, R2_107, r1_406, r2_155, r3_151, r3_369, R3_96, R3_8, r2_53, r1_232, r2_31, r2_101, r2_102, r1_164, r1_172, r3_410, r1_104, R2_135, r1_166, r1_209, r2_183, r3_78, r1_99, R2_449, r3_206, r1_161, r1_237, r3_373, r1_5, r1_9, R3_10, r1_11, r1_13, r1_15, R3_20, R3_25, r1_82, r1_121, r1_123, r1_146, r1_165, r1_173, r1_196, r1_201, r1_231, r1_235, r1_284, r1_325, r1_368, r1_455, r1_459, r2_6, r2_87, r2_195, R3_302, r3_37, r3_116, r3_298]
noncomputable def ext3 : PureT := firstR (extTabH rows3) ext0
theorem ext3_ok : PureOk Tryz.prog (Gt Tryz.prog) ext3 := layer_at (rows := rows3) ⟨a3_56, ⟨b2_170, ⟨b2_167, ⟨a1_363, ⟨b2_162, ⟨a2_204, ⟨b2_103, ⟨a1_163, ⟨a3_42, ⟨b3_106, ⟨b2_107, ⟨a1_406, ⟨a2_155, ⟨a3_151, ⟨a3_369, ⟨b3_96, ⟨b3_8, ⟨a2_53, ⟨a1_232, ⟨a2_31, ⟨a2_101, ⟨a2_102, ⟨a1_164, ⟨a1_172, ⟨a3_410, ⟨a1_104, ⟨b2_135, ⟨a1_166, ⟨a1_209, ⟨a2_183, ⟨a3_78, ⟨a1_99, ⟨b2_449, ⟨a3_206, ⟨a1_161, ⟨a1_237, ⟨a3_373, ⟨a1_5, ⟨a1_9, ⟨b3_10, ⟨a1_11, ⟨a1_13, ⟨a1_15, ⟨b3_20, ⟨b3_25, ⟨a1_82, ⟨a1_121, ⟨a1_123, ⟨a1_146, ⟨a1_165, ⟨a1_173, ⟨a1_196, ⟨a1_201, ⟨a1_231, ⟨a1_235, ⟨a1_284, ⟨a1_325, ⟨a1_368, ⟨a1_455, ⟨a1_459, ⟨a2_6, ⟨a2_87, ⟨a2_195, ⟨b3_302, ⟨a3_37, ⟨a3_116, ⟨a3_298, trivial⟩⟩⟩⟩⟩⟩⟩⟩⟩⟩⟩⟩⟩⟩⟩⟩⟩⟩⟩⟩⟩⟩⟩⟩⟩⟩⟩⟩⟩⟩⟩⟩⟩⟩⟩⟩⟩⟩⟩⟩⟩⟩⟩⟩⟩⟩⟩⟩⟩⟩⟩⟩⟩⟩⟩⟩⟩⟩⟩⟩⟩⟩⟩⟩⟩⟩⟩ ext0_ok
end Go.Vg
