/- Calls that have been run: part 1. -/
import Derived.Test.YthnagcpdmilhpaaGreatDoorExt
namespace Go.Vg
open Go Go.Proofs
set_option maxRecDepth 1000000
set_option maxHeartbeats 0
theorem p0 : PureOk Tryz.prog (Gt Tryz.prog) (pureKD Tryz.prog sigC 100000 ext0 40) := pure_at gmono mixed enterSig ext0_ok 100000 40
def t1_5 : HTr (v27 × v33) := .leaf [(([98,119,100,48], ((.ofNat 3), ([((.ofNat 2), ([], ([[(.ofNat 1000000), (.ofNat 0), (.ofNat 0)]], ([(.ofNat 0)], (([], ((.ofNat 0), ([], ()))), ([], ((.ofNat 0), ((.ofNat 0), ()))))))))], ()))), (([98,119,100,48], ((.ofNat 3), ([], ([], (((.ofNat 3), ([((.ofNat 2), ([], ([[(.ofNat 1000000), (.ofNat 0), (.ofNat 0)]], ([(.ofNat 0)], (([], ((.ofNat 0), ([], ()))), ([], ((.ofNat 0), ((.ofNat 0), ()))))))))], ())), ()))))), ())),
 (([108,105,110,107], ((.ofNat 1), ([((.ofNat 2), ([], ([[(.ofNat 1000000)], [(.ofNat 0)], [(.ofNat 0)]], ([(.ofNat 0), (.ofNat 500000), (.ofNat 500000)], (([], ((.ofNat 0), ([], ()))), ([], ((.ofNat 0), ((.ofNat 0), ()))))))))], ()))), (([108,105,110,107], ((.ofNat 3), ([], ([], (((.ofNat 1), ([((.ofNat 2), ([], ([[(.ofNat 1000000)], [(.ofNat 0)], [(.ofNat 0)]], ([(.ofNat 0), (.ofNat 500000), (.ofNat 500000)], (([], ((.ofNat 0), ([], ()))), ([], ((.ofNat 0), ((.ofNat 0), ()))))))))], ())), ()))))), ())),
 (([102,119,100,48], ((.ofNat 1), ([((.ofNat 1), ([((.ofNat 1), ([], ([], ())))], ([], ([], (([], ((.ofNat 0), ([], ()))), ([], ((.ofNat 0), ((.ofNat 0), ())))))))), ((.ofNat 1), ([((.ofNat 1), ([], ([], ())))], ([], ([], (([], ((.ofNat 0), ([], ()))), ([], ((.ofNat 0), ((.ofNat 0), ())))))))), ((.ofNat 1), ([((.ofNat 1), ([], ([], ())))], ([], ([], (([], ((.ofNat 0), ([], ()))), ([], ((.ofNat 0), ((.ofNat 0), ())))))))), ((.ofNat 2), ([], ([[(.ofNat 1000000)], [(.ofNat 0)], [(.ofNat 0)]], ([(.ofNat 0), (.ofNat 500000), (.ofNat 500000)], (([], ((.ofNat 0), ([], ()))), ([], ((.ofNat 0), ((.ofNat 0), ()))))))))], ()))), (([102,119,100,48], ((.ofNat 3), ([], ([], (((.ofNat 1), ([((.ofNat 1), ([((.ofNat 1), ([], ([], ())))], ([], ([], (([], ((.ofNat 0), ([], ()))), ([], ((.ofNat 0), ((.ofNat 0), ())))))))), ((.ofNat 1), ([((.ofNat 1), ([], ([], ())))], ([], ([], (([], ((.ofNat 0), ([], ()))), ([], ((.ofNat 0), ((.ofNat 0), ())))))))), ((.ofNat 1), ([((.ofNat 1), ([], ([], ())))], ([], ([], (([], ((.ofNat 0), ([], ()))), ([], ((.ofNat 0), ((.ofNat 0), ())))))))), ((.ofNat 2), ([], ([[(.ofNat 1000000)], [(.ofNat 0)], [(.ofNat 0)]], ([(.ofNat 0), (.ofNat 500000), (.ofNat 500000)], (([], ((.ofNat 0), ([], ()))), ([], ((.ofNat 0), ((.ofNat 0), ()))))))))], ())), ()))))), ())),
 (([102,119,100,48], ((.ofNat 1), ([((.ofNat 2), ([], ([[(.ofNat 1000000)], [(.ofNat 0)], [(.ofNat 0)]], ([(.ofNat 0), (.ofNat 500000), (.ofNat 500000)], (([], ((.ofNat 0), ([], ()))), ([], ((.ofNat 0), ((.ofNat 0), ()))))))))], ()))), (([102,119,100,48], ((.ofNat 3), ([], ([], (((.ofNat 1), ([((.ofNat 2), ([], ([[(.ofNat 1000000)], [(.ofNat 0)], [(.ofNat 0)]], ([(.ofNat 0), (.ofNat 500000), (.ofNat 500000)], (([], ((.ofNat 0), ([], ()))), ([], ((.ofNat 0), ((.ofNat 0), ()))))))))], ())), ()))))), ()))]
theorem q1_5 : okH (pureKD Tryz.prog sigC 100000 ext0 40) 5 z27 z33 (t1_5 : HTr ((Ty.T z27) × (Ty.T z33))) = true := by kernel_rfl
def t1_9 : HTr (v54 × v0) := .leaf [(([([49], ([51], ())), ([49], ([50], ())), ([49], ([50], ()))], ([([49], ([51], ())), ([49], ([50], ())), ([49], ([50], ()))], ())), (true, ()))]
theorem q1_9 : okH (pureKD Tryz.prog sigC 100000 ext0 40) 9 z54 z0 (t1_9 : HTr ((Ty.T z54) × (Ty.T z0))) = true := by kernel_rfl
def t1_10 : HTr (v58 × v59) := .leaf [((([], ([], ())), ([[(.ofNat 0), (.ofNat 0), (.ofNat 0)], [(.ofNat 0), (.ofNat 0), (.ofNat 0)], [(.ofNat 0), (.ofNat 0), (.ofNat 0)], [(.ofNat 0), (.ofNat 0), (.ofNat 0)], [(.ofNat 0), (.ofNat 0), (.ofNat 0)], [(.ofNat 0), (.ofNat 0), (.ofNat 0)], [(.ofNat 0), (.ofNat 0), (.ofNat 0)], [(.ofNat 0), (.ofNat 0), (.ofNat 0)], [(.ofNat 0), (.ofNat 0), (.ofNat 0)], [(.ofNat 0), (.ofNat 0), (.ofNat 0)], [(.ofNat 0), (.ofNat 0), (.ofNat 0)], [(.ofNat 0), (.ofNat 0), (.ofNat 0)], [(.ofNat 0), (.ofNat 0), (.ofNat 0)], [(.ofNat 0), (.ofNat 0), (.ofNat 0)], [(.ofNat 0), (.ofNat 0), (.ofNat 0)], [(.ofNat 0), (.ofNat 0), (.ofNat 0)], [(.ofNat 0), (.ofNat 0), (.ofNat 0)], [(.ofNat 0), (.ofNat 0), (.ofNat 0)], [(.ofNat 0), (.ofNat 0), (.ofNat 0)], [(.ofNat 0), (.ofNat 0), (.ofNat 0)], [(.ofNat 0), (.ofNat 0), (.ofNat 0)], [(.ofNat 0), (.ofNat 0), (.ofNat 0)], [(.ofNat 0), (.ofNat 0), (.ofNat 0)], [(.ofNat 0), (.ofNat 0), (.ofNat 0)], [(.ofNat 0), (.ofNat 0), (.ofNat 0)], [(.ofNat 0), (.ofNat 0), (.ofNat 0)], [(.ofNat 0), (.ofNat 0), (.ofNat 0)], [(.ofNat 0), (.ofNat 0), (.ofNat 0)], [(.ofNat 0), (.ofNat 0), (.ofNat 0)], [(.ofNat 0), (.ofNat 0), (.ofNat 0)], [(.ofNat 0), (.ofNat 0), (.ofNat 0)], [(.ofNat 0), (.ofNat 0), (.ofNat 0)], [(.ofNat 0), (.ofNat 0), (.ofNat 0)], [(.ofNat 0), (.ofNat 0), (.ofNat 0)], [(.ofNat 0), (.ofNat 0), (.ofNat 0)], [(.ofNat 0), (.ofNat 0), (.ofNat 0)], [(.ofNat 0), (.ofNat 0), (.ofNat 0)], [(.ofNat 0), (.ofNat 0), (.ofNat 0)], [(.ofNat 0), (.ofNat 0), (.ofNat 0)], [(.ofNat 0), (.ofNat 0), (.ofNat 0)], [(.ofNat 0), (.ofNat 0), (.ofNat 0)], [(.ofNat 0), (.ofNat 0), (.ofNat 0)], [(.ofNat 0), (.ofNat 0), (.ofNat 0)], [(.ofNat 0), (.ofNat 0), (.ofNat 0)], [(.ofNat 0), (.ofNat 0), (.ofNat 0)], [(.ofNat 0), (.ofNat 0), (.ofNat 0)], [(.ofNat 0), (.ofNat 0), (.ofNat 0)], [(.ofNat 0), (.ofNat 0), (.ofNat 0)], [(.ofNat 0), (.ofNat 0), (.ofNat 0)], [(.ofNat 0), (.ofNat 0), (.ofNat 0)], [(.ofNat 0), (.ofNat 0), (.ofNat 0)], [(.ofNat 0), (.ofNat 0), (.ofNat 0)], [(.ofNat 0), (.ofNat 0), (.ofNat 0)], [(.ofNat 0), (.ofNat 0), (.ofNat 0)], [(.ofNat 0), (.ofNat 0), (.ofNat 0)], [(.ofNat 0), (.ofNat 0), (.ofNat 0)], [(.ofNat 0), (.ofNat 0), (.ofNat 0)], [(.ofNat 0), (.ofNat 0), (.ofNat 0)], [(.ofNat 0), (.ofNat 0), (.ofNat 0)], [(.ofNat 0), (.ofNat 0), (.ofNat 0)], [(.ofNat 0), (.ofNat 0), (.ofNat 0)], [(.ofNat 0), (.ofNat 0), (.ofNat 0)], [(.ofNat 0), (.ofNat 0), (.ofNat 0)], [(.ofNat 0), (.ofNat 0), (.ofNat 0)], [(.ofNat 0), (.ofNat 0), (.ofNat 0)], [(.ofNat 0), (.ofNat 0), (.ofNat 0)], [(.ofNat 0), (.ofNat 0), (.ofNat 0)], [(.ofNat 0), (.ofNat 0), (.ofNat 0)], [(.ofNat 0), (.ofNat 0), (.ofNat 0)], [(.ofNat 0), (.ofNat 0), (.ofNat 0)], [(.ofNat 0), (.ofNat 0), (.ofNat 0)], [(.ofNat 0), (.ofNat 0), (.ofNat 0)], [(.ofNat 0), (.ofNat 0), (.ofNat 0)], [(.ofNat 0), (.ofNat 0), (.ofNat 0)], [(.ofNat 0), (.ofNat 0), (.ofNat 0)], [(.ofNat 0), (.ofNat 0), (.ofNat 0)], [(.ofNat 0), (.ofNat 0), (.ofNat 0)], [(.ofNat 0), (.ofNat 0), (.ofNat 0)], [(.ofNat 0), (.ofNat 0), (.ofNat 0)], [(.ofNat 0), (.ofNat 0), (.ofNat 0)], [(.ofNat 0), (.ofNat 0), (.ofNat 0)], [(.ofNat 0), (.ofNat 0), (.ofNat 0)], [(.ofNat 0), (.ofNat 0), (.ofNat 0)], [(.ofNat 0), (.ofNat 0), (.ofNat 0)], [(.ofNat 0), (.ofNat 0), (.ofNat 0)], [(.ofNat 0), (.ofNat 0), (.ofNat 0)], [(.ofNat 0), (.ofNat 0), (.ofNat 0)], [(.ofNat 0), (.ofNat 0), (.ofNat 0)], [(.ofNat 0), (.ofNat 0), (.ofNat 0)], [(.ofNat 0), (.ofNat 0), (.ofNat 0)], [(.ofNat 0), (.ofNat 0), (.ofNat 0)], [(.ofNat 0), (.ofNat 0), (.ofNat 0)], [(.ofNat 0), (.ofNat 0), (.ofNat 0)], [(.ofNat 0), (.ofNat 0), (.ofNat 0)], [(.ofNat 0), (.ofNat 0), (.ofNat 0)], [(.ofNat 0), (.ofNat 0), (.ofNat 0)], [(.ofNat 0), (.ofNat 0), (.ofNat 0)], [(.ofNat 0), (.ofNat 0), (.ofNat 0)], [(.ofNat 0), (.ofNat 0), (.ofNat 0)], [(.ofNat 0), (.ofNat 0), (.ofNat 0)], [(.ofNat 0), (.ofNat 0), (.ofNat 0)]], ())), ([], ((.ofNat 350), ())))]
theorem q1_10 : okH (pureKD Tryz.prog sigC 100000 ext0 40) 10 z58 z59 (t1_10 : HTr ((Ty.T z58) × (Ty.T z59))) = true := by kernel_rfl
def t1_11 : HTr (Unit × v60) := .leaf [((), (([[(.ofNat 0), (.ofNat 0), (.ofNat 0)], [(.ofNat 1000), (.ofNat 0), (.ofNat 0)], [(.ofNat 0), (.ofNat 1000), (.ofNat 0)], [(.ofNat 0), (.ofNat 0), (.ofNat 1000)]], ([[(.ofNat 0), (.ofNat 2), (.ofNat 1)], [(.ofNat 0), (.ofNat 1), (.ofNat 3)], [(.ofNat 0), (.ofNat 3), (.ofNat 2)], [(.ofNat 1), (.ofNat 2), (.ofNat 3)]], ())), ()))]
theorem q1_11 : okH (pureKD Tryz.prog sigC 100000 ext0 40) 11 .unit z60 (t1_11 : HTr ((Ty.T .unit) × (Ty.T z60))) = true := by kernel_rfl
def t1_13 : HTr (v71 × v76) := .leaf [(([], ([([97], ([(.ofNat 0)], ([(.ofNat 5000), (.ofNat 0), (.ofNat 0)], ()))), ([98], ([(.ofNat 0)], ([(.ofNat 4000), (.ofNat 300), (.ofNat 400)], ())))], (((.ofNat 0), (([], ([], ())), (([], ([], ())), (([], ([], ())), (([], ([], ())), ()))))), ()))), (((.ofNat 0), ((.ofNat 0), ((.ofNat 0), (((.ofNat 0), ((.ofNat 0), ())), ((.ofNat 0), ()))))), ((.ofNat 310), ())))]
theorem q1_13 : okH (pureKD Tryz.prog sigC 100000 ext0 40) 13 z71 z76 (t1_13 : HTr ((Ty.T z71) × (Ty.T z76))) = true := by kernel_rfl
def t1_15 : HTr (Unit × v77) := .leaf [((), ([([98], ([(.ofNat 0)], ([(.ofNat 4100), (.ofNat 300), (.ofNat 400)], ()))), ([97], ([(.ofNat 0)], ([(.ofNat 5200), (.ofNat 0), (.ofNat 0)], ()))), ([99], ([(.ofNat 0)], ([(.ofNat 100), (.ofNat 100), (.ofNat 100)], ())))], ()))]
theorem q1_15 : okH (pureKD Tryz.prog sigC 100000 ext0 40) 15 .unit z77 (t1_15 : HTr ((Ty.T .unit) × (Ty.T z77))) = true := by kernel_rfl
def t1_20 : HTr (v82 × v2) := .leaf [((((.ofNat 0), ((.ofNat 0), ((.ofNat 0), ((.ofNat 0), ((.ofNat 0), ([], ([(.ofNat 0), (.ofNat 0), (.ofNat 0)], ([], ())))))))), ()), ((.ofNat 160), ()))]
theorem q1_20 : okH (pureKD Tryz.prog sigC 100000 ext0 40) 20 z82 z2 (t1_20 : HTr ((Ty.T z82) × (Ty.T z2))) = true := by kernel_rfl
def t1_25 : HTr (v53 × v3) := .leaf [((([], ([], ())), ()), ((.ofNat 0), ((.ofNat 20), ())))]
theorem q1_25 : okH (pureKD Tryz.prog sigC 100000 ext0 40) 25 z53 z3 (t1_25 : HTr ((Ty.T z53) × (Ty.T z3))) = true := by kernel_rfl
def t1_82 : HTr (v102 × v72) := .leaf [((((.ofNat 0), ((.ofNat 0), ())), (((.ofNat 5000000000000), ((.ofNat 5000000000000), ())), ())), (((.ofNat 5000000000000), ((.ofNat 5000000000000), ())), ((.ofNat 0), ()))),
 ((((.ofNat 2000000000000), ((.ofNat 2000000000000), ())), (((.ofNat 1000000000000), ((.ofNat 1000000000000), ())), ())), (((.ofNat 3000000000000), ((.ofNat 3000000000000), ())), ((.ofNat 0), ())))]
theorem q1_82 : okH (pureKD Tryz.prog sigC 100000 ext0 40) 82 z102 z72 (t1_82 : HTr ((Ty.T z102) × (Ty.T z72))) = true := by kernel_rfl
def t1_96 : HTr (v33 × v2) := .leaf [((([100,101,115,99], ((.ofNat 1), ([120], ([], (((.ofNat 0), ([], ())), ()))))), ()), ((.ofNat 0), ()))]
theorem q1_96 : okH (pureKD Tryz.prog sigC 100000 ext0 40) 96 z33 z2 (t1_96 : HTr ((Ty.T z33) × (Ty.T z2))) = true := by kernel_rfl
def t1_99 : HTr (v106 × v107) := .leaf [(((((.ofNat 4), ((.ofNat 2), ((.ofNat 1), ((.ofNat 5), ((.ofNat 0), ([65], ([(.ofNat 1), (.ofNat 1), (.ofNat 1)], ([([98,119,100,48], ((.ofNat 3), ([], ([], (((.ofNat 3), ([((.ofNat 2), ([], ([[(.ofNat 1000000), (.ofNat 0), (.ofNat 0)]], ([(.ofNat 0)], (([], ((.ofNat 0), ([], ()))), ([], ((.ofNat 0), ((.ofNat 0), ()))))))))], ())), ()))))), ([100,101,115,99], ((.ofNat 1), ([120], ([], (((.ofNat 0), ([], ())), ()))))), ([102,119,100,48], ((.ofNat 3), ([], ([], (((.ofNat 1), ([((.ofNat 1), ([((.ofNat 1), ([], ([], ())))], ([], ([], (([], ((.ofNat 0), ([], ()))), ([], ((.ofNat 0), ((.ofNat 0), ())))))))), ((.ofNat 1), ([((.ofNat 1), ([], ([], ())))], ([], ([], (([], ((.ofNat 0), ([], ()))), ([], ((.ofNat 0), ((.ofNat 0), ())))))))), ((.ofNat 1), ([((.ofNat 1), ([], ([], ())))], ([], ([], (([], ((.ofNat 0), ([], ()))), ([], ((.ofNat 0), ((.ofNat 0), ())))))))), ((.ofNat 2), ([], ([[(.ofNat 1000000)], [(.ofNat 0)], [(.ofNat 0)]], ([(.ofNat 0), (.ofNat 500000), (.ofNat 500000)], (([], ((.ofNat 0), ([], ()))), ([], ((.ofNat 0), ((.ofNat 0), ()))))))))], ())), ())))))], ())))))))), ()), ([102,119,100,48], ())), (((.ofNat 1), ([((.ofNat 1), ([((.ofNat 1), ([], ([], ())))], ([], ([], (([], ((.ofNat 0), ([], ()))), ([], ((.ofNat 0), ((.ofNat 0), ())))))))), ((.ofNat 1), ([((.ofNat 1), ([], ([], ())))], ([], ([], (([], ((.ofNat 0), ([], ()))), ([], ((.ofNat 0), ((.ofNat 0), ())))))))), ((.ofNat 1), ([((.ofNat 1), ([], ([], ())))], ([], ([], (([], ((.ofNat 0), ([], ()))), ([], ((.ofNat 0), ((.ofNat 0), ())))))))), ((.ofNat 2), ([], ([[(.ofNat 1000000)], [(.ofNat 0)], [(.ofNat 0)]], ([(.ofNat 0), (.ofNat 500000), (.ofNat 500000)], (([], ((.ofNat 0), ([], ()))), ([], ((.ofNat 0), ((.ofNat 0), ()))))))))], ())), (true, ()))),
 (((((.ofNat 4), ((.ofNat 2), ((.ofNat 1), ((.ofNat 5), ((.ofNat 0), ([65], ([(.ofNat 1), (.ofNat 1), (.ofNat 1)], ([([98,119,100,48], ((.ofNat 3), ([], ([], (((.ofNat 3), ([((.ofNat 2), ([], ([[(.ofNat 1000000), (.ofNat 0), (.ofNat 0)]], ([(.ofNat 0)], (([], ((.ofNat 0), ([], ()))), ([], ((.ofNat 0), ((.ofNat 0), ()))))))))], ())), ()))))), ([100,101,115,99], ((.ofNat 1), ([120], ([], (((.ofNat 0), ([], ())), ()))))), ([102,119,100,48], ((.ofNat 3), ([], ([], (((.ofNat 1), ([((.ofNat 2), ([], ([[(.ofNat 1000000)], [(.ofNat 0)], [(.ofNat 0)]], ([(.ofNat 0), (.ofNat 500000), (.ofNat 500000)], (([], ((.ofNat 0), ([], ()))), ([], ((.ofNat 0), ((.ofNat 0), ()))))))))], ())), ())))))], ())))))))), ()), ([102,119,100,48], ())), (((.ofNat 1), ([((.ofNat 2), ([], ([[(.ofNat 1000000)], [(.ofNat 0)], [(.ofNat 0)]], ([(.ofNat 0), (.ofNat 500000), (.ofNat 500000)], (([], ((.ofNat 0), ([], ()))), ([], ((.ofNat 0), ((.ofNat 0), ()))))))))], ())), (true, ()))),
 (((((.ofNat 4), ((.ofNat 2), ((.ofNat 1), ((.ofNat 5), ((.ofNat 0), ([65], ([(.ofNat 1), (.ofNat 1), (.ofNat 1)], ([([100,101,115,99], ((.ofNat 1), ([120], ([], (((.ofNat 0), ([], ())), ()))))), ([102,119,100,48], ((.ofNat 3), ([], ([], (((.ofNat 1), ([((.ofNat 2), ([], ([[(.ofNat 1000000)], [(.ofNat 0)], [(.ofNat 0)]], ([(.ofNat 0), (.ofNat 500000), (.ofNat 500000)], (([], ((.ofNat 0), ([], ()))), ([], ((.ofNat 0), ((.ofNat 0), ()))))))))], ())), ())))))], ())))))))), ()), ([98,119,100,48], ())), (((.ofNat 0), ([], ())), (false, ())))]
theorem q1_99 : okH (pureKD Tryz.prog sigC 100000 ext0 40) 99 z106 z107 (t1_99 : HTr ((Ty.T z106) × (Ty.T z107))) = true := by kernel_rfl
def t1_103 : HTr (v109 × v92) := .node 439929 (.leaf [(([], ([(.ofNat 1)], ())), ([(.ofNat 1)], ())),
 (([(.ofNat 1)], ([(.ofNat 1)], ())), ([(.ofNat 1)], ()))]) (.node 440938 (.leaf [(([(.ofNat 2)], ([(.ofNat 1)], ())), ([(.ofNat 1)], ())),
 (([(.ofNat 1)], ([(.ofNat 2)], ())), ([(.ofNat 1)], ()))]) (.leaf [(([(.ofNat 3)], ([(.ofNat 1)], ())), ([(.ofNat 1)], ())),
 (([(.ofNat 1)], ([(.ofNat 3)], ())), ([(.ofNat 1)], ())),
 (([(.ofNat 4)], ([(.ofNat 1)], ())), ([(.ofNat 1)], ()))]))
theorem q1_103 : okH (pureKD Tryz.prog sigC 100000 ext0 40) 103 z109 z92 (t1_103 : HTr ((Ty.T z109) × (Ty.T z92))) = true := by kernel_rfl
def t1_104 : HTr (v109 × v2) := .leaf [(([(.ofNat 2)], ([(.ofNat 1)], ())), ((.ofNat 1), ())),
 (([(.ofNat 1)], ([(.ofNat 2)], ())), ((.negSucc 0), ()))]
theorem q1_104 : okH (pureKD Tryz.prog sigC 100000 ext0 40) 104 z109 z2 (t1_104 : HTr ((Ty.T z109) × (Ty.T z2))) = true := by kernel_rfl
def t1_106 : HTr (v93 × v108) := .leaf [((([(.ofNat 5)], (false, ())), ([(.ofNat 1)], ())), (([(.ofNat 5)], (false, ())), ())),
 ((([(.ofNat 5)], (false, ())), ([(.ofNat 2)], ())), (([(.ofNat 10)], (false, ())), ())),
 ((([], (false, ())), ([(.ofNat 3)], ())), (([], (false, ())), ()))]
theorem q1_106 : okH (pureKD Tryz.prog sigC 100000 ext0 40) 106 z93 z108 (t1_106 : HTr ((Ty.T z93) × (Ty.T z108))) = true := by kernel_rfl
def t1_107 : HTr (v110 × v108) := .leaf [((([], (false, ())), (([(.ofNat 1)], (false, ())), ())), (([(.ofNat 1)], (false, ())), ())),
 ((([(.ofNat 1)], (false, ())), (([], (false, ())), ())), (([(.ofNat 1)], (false, ())), ())),
 ((([(.ofNat 6)], (false, ())), (([(.ofNat 6)], (true, ())), ())), (([], (false, ())), ())),
 ((([], (false, ())), (([], (false, ())), ())), (([], (false, ())), ()))]
theorem q1_107 : okH (pureKD Tryz.prog sigC 100000 ext0 40) 107 z110 z108 (t1_107 : HTr ((Ty.T z110) × (Ty.T z108))) = true := by kernel_rfl
def t1_121 : HTr (v112 × v113) := .leaf [(((false, ([(.ofNat 3)], ())), ()), ([51], ((.ofNat 0), ()))),
 (((false, ([(.ofNat 5)], ())), ()), ([53], ((.ofNat 0), ()))),
 (((false, ([(.ofNat 1)], ())), ()), ([49], ((.ofNat 0), ()))),
 (((false, ([(.ofNat 2)], ())), ()), ([50], ((.ofNat 0), ())))]
theorem q1_121 : okH (pureKD Tryz.prog sigC 100000 ext0 40) 121 z112 z113 (t1_121 : HTr ((Ty.T z112) × (Ty.T z113))) = true := by kernel_rfl
def t1_123 : HTr (v2 × v112) := .leaf [(((.ofNat 1), ()), ((false, ([(.ofNat 1)], ())), ())),
 (((.ofNat 2), ()), ((false, ([(.ofNat 2)], ())), ())),
 (((.ofNat 3), ()), ((false, ([(.ofNat 3)], ())), ())),
 (((.ofNat 5), ()), ((false, ([(.ofNat 5)], ())), ()))]
theorem q1_123 : okH (pureKD Tryz.prog sigC 100000 ext0 40) 123 z2 z112 (t1_123 : HTr ((Ty.T z2) × (Ty.T z112))) = true := by kernel_rfl
def t1_135 : HTr (v95 × v0) := .leaf [((([99], ([(.ofNat 0)], ([(.ofNat 100), (.ofNat 100), (.ofNat 100)], ()))), ()), (true, ()))]
theorem q1_135 : okH (pureKD Tryz.prog sigC 100000 ext0 40) 135 z95 z0 (t1_135 : HTr ((Ty.T z95) × (Ty.T z0))) = true := by kernel_rfl
def t1_146 : HTr (v115 × v115) := .leaf [(((.ofNat 3000000000000), ((.ofNat 1), ())), ((.ofNat 0), ((.ofNat 3000000000000), ()))),
 (((.ofNat 5000000000000), ((.ofNat 1), ())), ((.ofNat 0), ((.ofNat 5000000000000), ())))]
theorem q1_146 : okH (pureKD Tryz.prog sigC 100000 ext0 40) 146 z115 z115 (t1_146 : HTr ((Ty.T z115) × (Ty.T z115))) = true := by kernel_rfl
def t1_161 : HTr (v47 × v0) := .leaf [(([102,119,100,48], ()), (true, ()))]
theorem q1_161 : okH (pureKD Tryz.prog sigC 100000 ext0 40) 161 z47 z0 (t1_161 : HTr ((Ty.T z47) × (Ty.T z0))) = true := by kernel_rfl
def t1_162 : HTr (v47 × v117) := .node 526530 (.leaf [(([51,54,48,48,48,48,48,48,48,48,48,48,48,48,48,48,48,48,48,48,48,48,48,48,48,48], ()), (([(.ofNat 0), (.ofNat 0), (.ofNat 36000000)], (false, ())), (true, ()))),
 (([49,48,48,48,48,48,48,48,48,48,48,48,48,48], ()), (([(.ofNat 0), (.ofNat 10000)], (false, ())), (true, ())))]) (.leaf [(([49,48,48,48,48,48,48,48,48,48,48,48,48,48,48,48,48,48,48,48,48,48,48,48,48], ()), (([(.ofNat 0), (.ofNat 0), (.ofNat 1000000)], (false, ())), (true, ()))),
 (([52,48,48,48,48,48,48,48,48,48,48,48,48,48,48,48,48,48,48,48,48,48,48,48,48], ()), (([(.ofNat 0), (.ofNat 0), (.ofNat 4000000)], (false, ())), (true, ()))),
 (([57,48,48,48,48,48,48,48,48,48,48,48,48,48,48,48,48,48,48,48,48,48,48,48,48], ()), (([(.ofNat 0), (.ofNat 0), (.ofNat 9000000)], (false, ())), (true, ())))])
theorem q1_162 : okH (pureKD Tryz.prog sigC 100000 ext0 40) 162 z47 z117 (t1_162 : HTr ((Ty.T z47) × (Ty.T z117))) = true := by kernel_rfl
def t1_163 : HTr (v48 × v118) := .node 536793 (.node 121489 (.node 113367 (.node 4877 (.leaf [(([52,48,48,48], ([45], ())), ([52,48,48,48], (false, ()))),
 (([53,48,48,48], ([45], ())), ([53,48,48,48], (false, ())))]) (.leaf [(([52,49,48,48], ([45], ())), ([52,49,48,48], (false, ()))),
 (([53,50,48,48], ([45], ())), ([53,50,48,48], (false, ()))),
 (([49,48,48,48,48], ([45], ())), ([49,48,48,48,48], (false, ())))])) (.node 117403 (.leaf [(([50,48,48,48,48], ([45], ())), ([50,48,48,48,48], (false, ()))),
 (([52,48,48,48,48], ([45], ())), ([52,48,48,48,48], (false, ()))),
 (([53,48,48,48,48], ([45], ())), ([53,48,48,48,48], (false, ())))]) (.leaf [(([49,48,48,48,48,48,48,48,48,48,48,48,48], ([45], ())), ([49,48,48,48,48,48,48,48,48,48,48,48,48], (false, ()))),
 (([50,48,48,48,48,48,48,48,48,48,48,48,48], ([45], ())), ([50,48,48,48,48,48,48,48,48,48,48,48,48], (false, ()))),
 (([51,48,48,48,48,48,48,48,48,48,48,48,48], ([45], ())), ([51,48,48,48,48,48,48,48,48,48,48,48,48], (false, ())))]))) (.node 276875 (.node 124516 (.leaf [(([52,48,48,48,48,48,48,48,48,48,48,48,48], ([45], ())), ([52,48,48,48,48,48,48,48,48,48,48,48,48], (false, ()))),
 (([53,48,48,48,48,48,48,48,48,48,48,48,48], ([45], ())), ([53,48,48,48,48,48,48,48,48,48,48,48,48], (false, ()))),
 (([54,48,48,48,48,48,48,48,48,48,48,48,48], ([45], ())), ([54,48,48,48,48,48,48,48,48,48,48,48,48], (false, ())))]) (.leaf [(([56,48,48,48,48,48,48,48,48,48,48,48,48], ([45], ())), ([56,48,48,48,48,48,48,48,48,48,48,48,48], (false, ()))),
 (([49,53,48,48,48,48,48,48,48,48,48,48,48], ([45], ())), ([49,53,48,48,48,48,48,48,48,48,48,48,48], (false, ()))),
 (([50,53,48,48,48,48,48,48,48,48,48,48,48], ([45], ())), ([50,53,48,48,48,48,48,48,48,48,48,48,48], (false, ())))])) (.node 533766 (.leaf [(([48], ([45], ())), ([48], (false, ()))),
 (([49], ([45], ())), ([49], (false, ()))),
 (([50], ([45], ())), ([50], (false, ())))]) (.leaf [(([51], ([45], ())), ([51], (false, ()))),
 (([52], ([45], ())), ([52], (false, ()))),
 (([53], ([45], ())), ([53], (false, ())))])))) (.node 692516 (.node 606751 (.node 539820 (.leaf [(([54], ([45], ())), ([54], (false, ()))),
 (([56], ([45], ())), ([56], (false, ())))]) (.leaf [(([53,48,48,48,48,48], ([45], ())), ([53,48,48,48,48,48], (false, ()))),
 (([52,48], ([45], ())), ([52,48], (false, ()))),
 (([53,48], ([45], ())), ([53,48], (false, ())))])) (.node 637021 (.leaf [(([50,52,57], ([45], ())), ([50,52,57], (false, ()))),
 (([45,49], ([45], ())), ([49], (true, ()))),
 (([52,49], ([45], ())), ([52,49], (false, ())))]) (.leaf [(([45,50], ([45], ())), ([50], (true, ()))),
 (([53,50], ([45], ())), ([53,50], (false, ()))),
 (([45,51], ([45], ())), ([51], (true, ())))]))) (.node 774434 (.node 771407 (.leaf [(([45,52], ([45], ())), ([52], (true, ()))),
 (([49,48,48,48,48,48,48], ([45], ())), ([49,48,48,48,48,48,48], (false, ()))),
 (([49,48,48], ([45], ())), ([49,48,48], (false, ())))]) (.leaf [(([50,48,48], ([45], ())), ([50,48,48], (false, ()))),
 (([51,48,48], ([45], ())), ([51,48,48], (false, ()))),
 (([52,48,48], ([45], ())), ([52,48,48], (false, ())))])) (.node 818131 (.leaf [(([54,48,48], ([45], ())), ([54,48,48], (false, ()))),
 (([56,48,48], ([45], ())), ([56,48,48], (false, ()))),
 (([45,49,48,48,48,48,48,48,48,48,48,48,48,48], ([45], ())), ([49,48,48,48,48,48,48,48,48,48,48,48,48], (true, ())))]) (.leaf [(([45,50,48,48,48,48,48,48,48,48,48,48,48,48], ([45], ())), ([50,48,48,48,48,48,48,48,48,48,48,48,48], (true, ()))),
 (([45,51,48,48,48,48,48,48,48,48,48,48,48,48], ([45], ())), ([51,48,48,48,48,48,48,48,48,48,48,48,48], (true, ()))),
 (([45,52,48,48,48,48,48,48,48,48,48,48,48,48], ([45], ())), ([52,48,48,48,48,48,48,48,48,48,48,48,48], (true, ())))]))))
theorem q1_163 : okH (pureKD Tryz.prog sigC 100000 ext0 40) 163 z48 z118 (t1_163 : HTr ((Ty.T z48) × (Ty.T z118))) = true := by kernel_rfl
def t1_164 : HTr (v47 × v92) := .node 271426 (.leaf [(([49], ()), ([(.ofNat 1)], ())),
 (([50], ()), ([(.ofNat 2)], ())),
 (([51], ()), ([(.ofNat 3)], ())),
 (([52], ()), ([(.ofNat 4)], ()))]) (.leaf [(([49,48,48,48,48,48,48,48,48,48,48,48,48], ()), ([(.ofNat 0), (.ofNat 1000)], ())),
 (([50,48,48,48,48,48,48,48,48,48,48,48,48], ()), ([(.ofNat 0), (.ofNat 2000)], ())),
 (([51,48,48,48,48,48,48,48,48,48,48,48,48], ()), ([(.ofNat 0), (.ofNat 3000)], ())),
 (([52,48,48,48,48,48,48,48,48,48,48,48,48], ()), ([(.ofNat 0), (.ofNat 4000)], ()))])
theorem q1_164 : okH (pureKD Tryz.prog sigC 100000 ext0 40) 164 z47 z92 (t1_164 : HTr ((Ty.T z47) × (Ty.T z92))) = true := by kernel_rfl
def t1_165 : HTr (v92 × v114) := .leaf [(([(.ofNat 0), (.ofNat 1000)], ()), ((.ofNat 1000000000000), ()))]
theorem q1_165 : okH (pureKD Tryz.prog sigC 100000 ext0 40) 165 z92 z114 (t1_165 : HTr ((Ty.T z92) × (Ty.T z114))) = true := by kernel_rfl
def t1_166 : HTr (v114 × v92) := .leaf [(((.ofNat 1000000000000), ()), ([(.ofNat 0), (.ofNat 1000)], ())),
 (((.ofNat 500000000000), ()), ([(.ofNat 0), (.ofNat 500)], ()))]
theorem q1_166 : okH (pureKD Tryz.prog sigC 100000 ext0 40) 166 z114 z92 (t1_166 : HTr ((Ty.T z114) × (Ty.T z92))) = true := by kernel_rfl
def t1_167 : HTr (v109 × v109) := .node 439929 (.leaf [(([], ([(.ofNat 1)], ())), ([], ([], ()))),
 (([(.ofNat 1000000)], ([(.ofNat 1000000)], ())), ([(.ofNat 1)], ([], ()))),
 (([(.ofNat 1)], ([(.ofNat 1)], ())), ([(.ofNat 1)], ([], ())))]) (.leaf [(([(.ofNat 3)], ([(.ofNat 1)], ())), ([(.ofNat 3)], ([], ()))),
 (([(.ofNat 100)], ([(.ofNat 100)], ())), ([(.ofNat 1)], ([], ()))),
 (([(.ofNat 300)], ([(.ofNat 100)], ())), ([(.ofNat 3)], ([], ())))])
theorem q1_167 : okH (pureKD Tryz.prog sigC 100000 ext0 40) 167 z109 z109 (t1_167 : HTr ((Ty.T z109) × (Ty.T z109))) = true := by kernel_rfl
def t1_170 : HTr (v109 × v92) := .node 446992 (.node 273363 (.leaf [(([], ([(.ofNat 1)], ())), ([], ())),
 (([(.ofNat 0), (.ofNat 1000)], ([(.ofNat 999000)], ())), ([(.ofNat 0), (.ofNat 999000000)], ()))]) (.leaf [(([(.ofNat 1)], ([(.ofNat 1)], ())), ([(.ofNat 1)], ())),
 (([(.ofNat 4)], ([(.ofNat 1)], ())), ([(.ofNat 4)], ())),
 (([(.ofNat 8)], ([(.ofNat 1)], ())), ([(.ofNat 8)], ()))])) (.node 489370 (.leaf [(([(.ofNat 40)], ([(.ofNat 1)], ())), ([(.ofNat 40)], ())),
 (([(.ofNat 50)], ([(.ofNat 1)], ())), ([(.ofNat 50)], ()))]) (.leaf [(([(.ofNat 3)], ([(.ofNat 0), (.ofNat 2000)], ())), ([(.ofNat 0), (.ofNat 6000)], ())),
 (([(.ofNat 4)], ([(.ofNat 0), (.ofNat 2000)], ())), ([(.ofNat 0), (.ofNat 8000)], ())),
 (([(.ofNat 0), (.ofNat 500)], ([(.ofNat 1996007)], ())), ([(.ofNat 0), (.ofNat 998003500)], ()))]))
theorem q1_170 : okH (pureKD Tryz.prog sigC 100000 ext0 40) 170 z109 z92 (t1_170 : HTr ((Ty.T z109) × (Ty.T z92))) = true := by kernel_rfl
def t1_172 : HTr (v109 × v92) := .node 440938 (.leaf [(([(.ofNat 1)], ([(.ofNat 1)], ())), ([], ())),
 (([(.ofNat 2)], ([(.ofNat 1)], ())), ([(.ofNat 1)], ()))]) (.leaf [(([(.ofNat 2)], ([(.ofNat 2)], ())), ([], ())),
 (([(.ofNat 3)], ([(.ofNat 3)], ())), ([], ())),
 (([(.ofNat 4)], ([(.ofNat 4)], ())), ([], ()))])
theorem q1_172 : okH (pureKD Tryz.prog sigC 100000 ext0 40) 172 z109 z92 (t1_172 : HTr ((Ty.T z109) × (Ty.T z92))) = true := by kernel_rfl
def t1_173 : HTr (v119 × v2) := .leaf [((((.ofNat 2), ([], ([[(.ofNat 1000000)], [(.ofNat 0)], [(.ofNat 0)]], ([(.ofNat 0), (.ofNat 500000), (.ofNat 500000)], (([], ((.ofNat 0), ([], ()))), ([], ((.ofNat 0), ((.ofNat 0), ())))))))), ()), ((.ofNat 0), ())),
 ((((.ofNat 2), ([], ([[(.ofNat 1000000), (.ofNat 0), (.ofNat 0)]], ([(.ofNat 0)], (([], ((.ofNat 0), ([], ()))), ([], ((.ofNat 0), ((.ofNat 0), ())))))))), ()), ((.ofNat 0), ())),
 ((((.ofNat 1), ([((.ofNat 1), ([], ([], ())))], ([], ([], (([], ((.ofNat 0), ([], ()))), ([], ((.ofNat 0), ((.ofNat 0), ())))))))), ()), ((.ofNat 0), ()))]
theorem q1_173 : okH (pureKD Tryz.prog sigC 100000 ext0 40) 173 z119 z2 (t1_173 : HTr ((Ty.T z119) × (Ty.T z2))) = true := by kernel_rfl
def t1_196 : HTr (v111 × v112) := .leaf [((true, ([(.ofNat 1)], ())), ((true, ([(.ofNat 1)], ())), ()))]
theorem q1_196 : okH (pureKD Tryz.prog sigC 100000 ext0 40) 196 z111 z112 (t1_196 : HTr ((Ty.T z111) × (Ty.T z112))) = true := by kernel_rfl
def t1_201 : HTr (v123 × v2) := .leaf [(([true, true, true, true], (false, ())), ((.negSucc 0), ()))]
theorem q1_201 : okH (pureKD Tryz.prog sigC 100000 ext0 40) 201 z123 z2 (t1_201 : HTr ((Ty.T z123) × (Ty.T z2))) = true := by kernel_rfl
def t1_209 : HTr (v47 × v0) := .leaf [(([97], ()), (true, ())),
 (([98], ()), (true, ()))]
theorem q1_209 : okH (pureKD Tryz.prog sigC 100000 ext0 40) 209 z47 z0 (t1_209 : HTr ((Ty.T z47) × (Ty.T z0))) = true := by kernel_rfl
def t1_231 : HTr (v108 × v47) := .leaf [((([(.ofNat 5)], (false, ())), ()), ([53], ()))]
theorem q1_231 : okH (pureKD Tryz.prog sigC 100000 ext0 40) 231 z108 z47 (t1_231 : HTr ((Ty.T z108) × (Ty.T z47))) = true := by kernel_rfl
def t1_232 : HTr (v92 × v47) := .node 221985 (.leaf [(([(.ofNat 1)], ()), ([49], ())),
 (([(.ofNat 2)], ()), ([50], ())),
 (([(.ofNat 3)], ()), ([51], ()))]) (.leaf [(([(.ofNat 4)], ()), ([52], ())),
 (([(.ofNat 0), (.ofNat 3000)], ()), ([51,48,48,48,48,48,48,48,48,48,48,48,48], ())),
 (([(.ofNat 0), (.ofNat 4000)], ()), ([52,48,48,48,48,48,48,48,48,48,48,48,48], ()))])
theorem q1_232 : okH (pureKD Tryz.prog sigC 100000 ext0 40) 232 z92 z47 (t1_232 : HTr ((Ty.T z92) × (Ty.T z47))) = true := by kernel_rfl
def t1_235 : HTr (v47 × v92) := .node 271426 (.leaf [(([49], ()), ([(.ofNat 1)], ())),
 (([50], ()), ([(.ofNat 2)], ())),
 (([51], ()), ([(.ofNat 3)], ())),
 (([52], ()), ([(.ofNat 4)], ()))]) (.leaf [(([49,48,48,48,48,48,48,48,48,48,48,48,48], ()), ([(.ofNat 0), (.ofNat 1000)], ())),
 (([50,48,48,48,48,48,48,48,48,48,48,48,48], ()), ([(.ofNat 0), (.ofNat 2000)], ())),
 (([51,48,48,48,48,48,48,48,48,48,48,48,48], ()), ([(.ofNat 0), (.ofNat 3000)], ())),
 (([52,48,48,48,48,48,48,48,48,48,48,48,48], ()), ([(.ofNat 0), (.ofNat 4000)], ()))])
theorem q1_235 : okH (pureKD Tryz.prog sigC 100000 ext0 40) 235 z47 z92 (t1_235 : HTr ((Ty.T z47) × (Ty.T z92))) = true := by kernel_rfl
def t1_237 : HTr (v92 × v92) := .node 789548 (.leaf [(([(.ofNat 0), (.ofNat 0)], ()), ([], ())),
 (([(.ofNat 2), (.ofNat 0)], ()), ([(.ofNat 2)], ()))]) (.leaf [(([(.ofNat 3), (.ofNat 0)], ()), ([(.ofNat 3)], ())),
 (([(.ofNat 6), (.ofNat 0)], ()), ([(.ofNat 6)], ())),
 (([(.ofNat 0), (.ofNat 2000), (.ofNat 0)], ()), ([(.ofNat 0), (.ofNat 2000)], ()))])
theorem q1_237 : okH (pureKD Tryz.prog sigC 100000 ext0 40) 237 z92 z92 (t1_237 : HTr ((Ty.T z92) × (Ty.T z92))) = true := by kernel_rfl
def t1_284 : HTr (v137 × v137) := .node 440938 (.leaf [(([], ([(.ofNat 1)], ())), ([], ([], ()))),
 (([(.ofNat 1)], ([(.ofNat 1)], ())), ([(.ofNat 1)], ([], ()))),
 (([(.ofNat 2)], ([(.ofNat 1)], ())), ([(.ofNat 2)], ([], ()))),
 (([(.ofNat 1)], ([(.ofNat 2)], ())), ([], ([(.ofNat 1)], ())))]) (.leaf [(([(.ofNat 3)], ([(.ofNat 1)], ())), ([(.ofNat 3)], ([], ()))),
 (([(.ofNat 4)], ([(.ofNat 1)], ())), ([(.ofNat 4)], ([], ()))),
 (([(.ofNat 5)], ([(.ofNat 1)], ())), ([(.ofNat 5)], ([], ())))])
theorem q1_284 : okH (pureKD Tryz.prog sigC 100000 ext0 40) 284 z137 z137 (t1_284 : HTr ((Ty.T z137) × (Ty.T z137))) = true := by kernel_rfl
def t1_325 : HTr (v92 × v92) := .leaf [(([(.ofNat 0), (.ofNat 999900000), (.ofNat 0)], ()), ([(.ofNat 0), (.ofNat 999900000)], ())),
 (([(.ofNat 0), (.ofNat 0)], ()), ([], ()))]
theorem q1_325 : okH (pureKD Tryz.prog sigC 100000 ext0 40) 325 z92 z92 (t1_325 : HTr ((Ty.T z92) × (Ty.T z92))) = true := by kernel_rfl
def t1_363 : HTr (v139 × v66) := .node 261459 (.node 114312 (.leaf [(([(.ofNat 1), (.ofNat 2), (.ofNat 4)], ([(.negSucc 499), (.negSucc 499), (.ofNat 999)], ())), ([(.ofNat 3998), (.negSucc 2998), (.ofNat 500)], ())),
 (([(.ofNat 0), (.ofNat 1000), (.ofNat 0)], ([(.ofNat 1000), (.ofNat 0), (.ofNat 0)], ())), ([(.ofNat 0), (.ofNat 0), (.negSucc 999999)], ()))]) (.leaf [(([(.ofNat 1), (.ofNat 2), (.ofNat 4)], ([(.negSucc 99), (.negSucc 99), (.ofNat 900)], ())), ([(.ofNat 2200), (.negSucc 1299), (.ofNat 100)], ())),
 (([(.negSucc 99), (.negSucc 99), (.ofNat 900)], ([(.negSucc 99), (.ofNat 900), (.negSucc 99)], ())), ([(.negSucc 799999), (.negSucc 99999), (.negSucc 99999)], ())),
 (([(.negSucc 99), (.ofNat 900), (.negSucc 99)], ([(.negSucc 99), (.negSucc 99), (.ofNat 900)], ())), ([(.ofNat 800000), (.ofNat 100000), (.ofNat 100000)], ())),
 (([(.ofNat 900), (.negSucc 99), (.negSucc 99)], ([(.negSucc 99), (.negSucc 99), (.ofNat 900)], ())), ([(.negSucc 99999), (.negSucc 799999), (.negSucc 99999)], ()))])) (.node 754873 (.leaf [(([(.ofNat 500), (.negSucc 499), (.negSucc 0)], ([(.negSucc 499), (.negSucc 499), (.ofNat 999)], ())), ([(.negSucc 499999), (.negSucc 498999), (.negSucc 499999)], ())),
 (([(.negSucc 499), (.ofNat 500), (.negSucc 0)], ([(.ofNat 1), (.ofNat 2), (.ofNat 4)], ())), ([(.ofNat 2002), (.ofNat 1999), (.negSucc 1499)], ())),
 (([(.negSucc 99), (.ofNat 900), (.negSucc 99)], ([(.ofNat 1), (.ofNat 2), (.ofNat 4)], ())), ([(.ofNat 3800), (.ofNat 300), (.negSucc 1099)], ()))]) (.leaf [(([(.negSucc 99), (.ofNat 900), (.negSucc 99)], ([(.ofNat 900), (.negSucc 99), (.negSucc 99)], ())), ([(.negSucc 99999), (.negSucc 99999), (.negSucc 799999)], ())),
 (([(.negSucc 499), (.ofNat 500), (.negSucc 0)], ([(.ofNat 500), (.negSucc 499), (.negSucc 0)], ())), ([(.negSucc 999), (.negSucc 999), (.ofNat 0)], ())),
 (([(.negSucc 499), (.negSucc 499), (.ofNat 999)], ([(.negSucc 499), (.ofNat 500), (.negSucc 0)], ())), ([(.negSucc 498999), (.negSucc 499999), (.negSucc 499999)], ())),
 (([(.negSucc 499), (.ofNat 500), (.negSucc 0)], ([(.negSucc 499), (.negSucc 499), (.ofNat 999)], ())), ([(.ofNat 499000), (.ofNat 500000), (.ofNat 500000)], ()))]))
theorem q1_363 : okH (pureKD Tryz.prog sigC 100000 ext0 40) 363 z139 z66 (t1_363 : HTr ((Ty.T z139) × (Ty.T z66))) = true := by kernel_rfl
def t1_368 : HTr (v101 × v72) := .leaf [((((.ofNat 0), ((.ofNat 0), ())), ()), (((.ofNat 0), ((.ofNat 0), ())), ((.ofNat 0), ())))]
theorem q1_368 : okH (pureKD Tryz.prog sigC 100000 ext0 40) 368 z101 z72 (t1_368 : HTr ((Ty.T z101) × (Ty.T z72))) = true := by kernel_rfl
def t1_406 : HTr (v108 × v113) := .node 468835 (.leaf [((([(.ofNat 0), (.ofNat 0), (.ofNat 100000000)], (false, ())), ()), ([49,48,48,48,48,48,48,48,48,48,48,48,48,48,48,48,48,48,48,48,48,48,48,48,48,48,48], ((.ofNat 0), ()))),
 ((([], (false, ())), ()), ([48], ((.ofNat 0), ()))),
 ((([(.ofNat 0), (.ofNat 0), (.ofNat 4000000)], (false, ())), ()), ([52,48,48,48,48,48,48,48,48,48,48,48,48,48,48,48,48,48,48,48,48,48,48,48,48], ((.ofNat 0), ())))]) (.leaf [((([(.ofNat 0), (.ofNat 0), (.ofNat 36000000)], (false, ())), ()), ([51,54,48,48,48,48,48,48,48,48,48,48,48,48,48,48,48,48,48,48,48,48,48,48,48,48], ((.ofNat 0), ()))),
 ((([(.ofNat 0), (.ofNat 0), (.ofNat 1000000)], (false, ())), ()), ([49,48,48,48,48,48,48,48,48,48,48,48,48,48,48,48,48,48,48,48,48,48,48,48,48], ((.ofNat 0), ()))),
 ((([(.ofNat 0), (.ofNat 0), (.ofNat 9000000)], (false, ())), ()), ([57,48,48,48,48,48,48,48,48,48,48,48,48,48,48,48,48,48,48,48,48,48,48,48,48], ((.ofNat 0), ()))),
 ((([(.ofNat 0), (.ofNat 0), (.ofNat 25000000)], (false, ())), ()), ([50,53,48,48,48,48,48,48,48,48,48,48,48,48,48,48,48,48,48,48,48,48,48,48,48,48], ((.ofNat 0), ())))])
theorem q1_406 : okH (pureKD Tryz.prog sigC 100000 ext0 40) 406 z108 z113 (t1_406 : HTr ((Ty.T z108) × (Ty.T z113))) = true := by kernel_rfl
def t1_449 : HTr (v109 × v92) := .node 545862 (.node 339215 (.node 279947 (.leaf [(([(.ofNat 9900990), (.ofNat 2624)], ([(.ofNat 1)], ())), ([(.ofNat 9900990), (.ofNat 2624)], ())),
 (([(.ofNat 475220305), (.ofNat 7525)], ([(.ofNat 1)], ())), ([(.ofNat 475220305), (.ofNat 7525)], ())),
 (([(.ofNat 0), (.ofNat 0), (.ofNat 4000000)], ([(.ofNat 499750)], ())), ([(.ofNat 0), (.ofNat 0), (.ofNat 0), (.ofNat 1999)], ())),
 (([(.ofNat 9271301), (.ofNat 2000)], ([(.ofNat 1)], ())), ([(.ofNat 9271301), (.ofNat 2000)], ()))]) (.node 289967 (.leaf [(([(.ofNat 0), (.ofNat 1000)], ([(.ofNat 1)], ())), ([(.ofNat 0), (.ofNat 1000)], ())),
 (([(.ofNat 43467302), (.ofNat 1084)], ([(.ofNat 1)], ())), ([(.ofNat 43467302), (.ofNat 1084)], ()))]) (.leaf [(([(.ofNat 13), (.ofNat 1000)], ([(.ofNat 1)], ())), ([(.ofNat 13), (.ofNat 1000)], ())),
 (([(.ofNat 777602950), (.ofNat 13149)], ([(.ofNat 1)], ())), ([(.ofNat 777602950), (.ofNat 13149)], ())),
 (([(.ofNat 52895642), (.ofNat 10000)], ([(.ofNat 1)], ())), ([(.ofNat 52895642), (.ofNat 10000)], ()))]))) (.node 420427 (.leaf [(([(.ofNat 257851096), (.ofNat 1003)], ([(.ofNat 1)], ())), ([(.ofNat 257851096), (.ofNat 1003)], ())),
 (([(.ofNat 554419368), (.ofNat 5016)], ([(.ofNat 1)], ())), ([(.ofNat 554419368), (.ofNat 5016)], ())),
 (([(.ofNat 0), (.ofNat 5000)], ([(.ofNat 1)], ())), ([(.ofNat 0), (.ofNat 5000)], ())),
 (([(.ofNat 553011998), (.ofNat 1502)], ([(.ofNat 1)], ())), ([(.ofNat 553011998), (.ofNat 1502)], ()))]) (.node 440461 (.leaf [(([(.ofNat 530119986), (.ofNat 15025)], ([(.ofNat 1)], ())), ([(.ofNat 530119986), (.ofNat 15025)], ())),
 (([(.ofNat 5289564), (.ofNat 1000)], ([(.ofNat 1)], ())), ([(.ofNat 5289564), (.ofNat 1000)], ()))]) (.leaf [(([(.ofNat 99009900), (.ofNat 26240)], ([(.ofNat 1)], ())), ([(.ofNat 99009900), (.ofNat 26240)], ())),
 (([(.ofNat 74), (.ofNat 5000)], ([(.ofNat 1)], ())), ([(.ofNat 74), (.ofNat 5000)], ())),
 (([(.ofNat 410785091), (.ofNat 2162)], ([(.ofNat 1)], ())), ([(.ofNat 410785091), (.ofNat 2162)], ()))])))) (.node 657803 (.node 592252 (.leaf [(([(.ofNat 615384615), (.ofNat 2984)], ([(.ofNat 1)], ())), ([(.ofNat 615384615), (.ofNat 2984)], ())),
 (([(.ofNat 0), (.ofNat 2000)], ([(.ofNat 1)], ())), ([(.ofNat 0), (.ofNat 2000)], ())),
 (([(.ofNat 21), (.ofNat 2000)], ([(.ofNat 1)], ())), ([(.ofNat 21), (.ofNat 2000)], ())),
 (([(.ofNat 0), (.ofNat 50500)], ([(.ofNat 1)], ())), ([(.ofNat 0), (.ofNat 50500)], ()))]) (.node 597174 (.leaf [(([(.ofNat 27314445), (.ofNat 5000)], ([(.ofNat 1)], ())), ([(.ofNat 27314445), (.ofNat 5000)], ())),
 (([(.ofNat 99040777), (.ofNat 2006)], ([(.ofNat 1)], ())), ([(.ofNat 99040777), (.ofNat 2006)], ()))]) (.leaf [(([(.ofNat 578510960), (.ofNat 10032)], ([(.ofNat 1)], ())), ([(.ofNat 578510960), (.ofNat 10032)], ())),
 (([(.ofNat 0), (.ofNat 0), (.ofNat 100000000)], ([(.ofNat 99990)], ())), ([(.ofNat 0), (.ofNat 0), (.ofNat 0), (.ofNat 9999)], ())),
 (([(.ofNat 0), (.ofNat 5200)], ([(.ofNat 1)], ())), ([(.ofNat 0), (.ofNat 5200)], ()))]))) (.node 796553 (.node 684977 (.leaf [(([(.ofNat 0), (.ofNat 0), (.ofNat 25000000)], ([(.ofNat 199960)], ())), ([(.ofNat 0), (.ofNat 0), (.ofNat 0), (.ofNat 4999)], ())),
 (([(.ofNat 876558603), (.ofNat 25311)], ([(.ofNat 1)], ())), ([(.ofNat 876558603), (.ofNat 25311)], ()))]) (.leaf [(([(.ofNat 0), (.ofNat 0), (.ofNat 1000000)], ([(.ofNat 999000)], ())), ([(.ofNat 0), (.ofNat 0), (.ofNat 0), (.ofNat 999)], ())),
 (([(.ofNat 762280896), (.ofNat 5423)], ([(.ofNat 1)], ())), ([(.ofNat 762280896), (.ofNat 5423)], ())),
 (([(.ofNat 0), (.ofNat 10000)], ([(.ofNat 1)], ())), ([(.ofNat 0), (.ofNat 10000)], ()))])) (.node 862663 (.leaf [(([(.ofNat 434673026), (.ofNat 10840)], ([(.ofNat 1)], ())), ([(.ofNat 434673026), (.ofNat 10840)], ())),
 (([(.ofNat 0), (.ofNat 50125)], ([(.ofNat 1)], ())), ([(.ofNat 0), (.ofNat 50125)], ()))]) (.leaf [(([(.ofNat 0), (.ofNat 100000)], ([(.ofNat 1)], ())), ([(.ofNat 0), (.ofNat 100000)], ())),
 (([(.ofNat 139), (.ofNat 10000)], ([(.ofNat 1)], ())), ([(.ofNat 139), (.ofNat 10000)], ())),
 (([(.ofNat 0), (.ofNat 5050)], ([(.ofNat 1)], ())), ([(.ofNat 0), (.ofNat 5050)], ()))]))))
theorem q1_449 : okH (pureKD Tryz.prog sigC 100000 ext0 40) 449 z109 z92 (t1_449 : HTr ((Ty.T z109) × (Ty.T z92))) = true := by kernel_rfl
def t1_455 : HTr (v2 × v92) := .leaf [(((.ofNat 13), ()), ([(.ofNat 0), (.ofNat 10000)], ())),
 (((.ofNat 14), ()), ([(.ofNat 0), (.ofNat 100000)], ()))]
theorem q1_455 : okH (pureKD Tryz.prog sigC 100000 ext0 40) 455 z2 z92 (t1_455 : HTr ((Ty.T z2) × (Ty.T z92))) = true := by kernel_rfl
def t1_459 : HTr (v142 × v142) := .leaf [(([(.ofNat 0), (.ofNat 2000)], ((.ofNat 2), ())), ([(.ofNat 0), (.ofNat 1000)], ((.ofNat 0), ()))),
 (([(.ofNat 0), (.ofNat 20000)], ((.ofNat 2), ())), ([(.ofNat 0), (.ofNat 10000)], ((.ofNat 0), ()))),
 (([(.ofNat 0), (.ofNat 10000)], ((.ofNat 2), ())), ([(.ofNat 0), (.ofNat 5000)], ((.ofNat 0), ()))),
 (([(.ofNat 0), (.ofNat 4000)], ((.ofNat 2), ())), ([(.ofNat 0), (.ofNat 2000)], ((.ofNat 0), ())))]
theorem q1_459 : okH (pureKD Tryz.prog sigC 100000 ext0 40) 459 z142 z142 (t1_459 : HTr ((Ty.T z142) × (Ty.T z142))) = true := by kernel_rfl
def r1_5 : RowH := ⟨5, z27, z33, t1_5⟩
theorem a1_5 : AtRow Tryz.prog (Gt Tryz.prog) r1_5 := at_row p0 q1_5
def r1_9 : RowH := ⟨9, z54, z0, t1_9⟩
theorem a1_9 : AtRow Tryz.prog (Gt Tryz.prog) r1_9 := at_row p0 q1_9
def r1_10 : RowH := ⟨10, z58, z59, t1_10⟩
theorem a1_10 : AtRow Tryz.prog (Gt Tryz.prog) r1_10 := at_row p0 q1_10
def r1_11 : RowH := ⟨11, .unit, z60, t1_11⟩
theorem a1_11 : AtRow Tryz.prog (Gt Tryz.prog) r1_11 := at_row p0 q1_11
def r1_13 : RowH := ⟨13, z71, z76, t1_13⟩
theorem a1_13 : AtRow Tryz.prog (Gt Tryz.prog) r1_13 := at_row p0 q1_13
def r1_15 : RowH := ⟨15, .unit, z77, t1_15⟩
theorem a1_15 : AtRow Tryz.prog (Gt Tryz.prog) r1_15 := at_row p0 q1_15
def r1_20 : RowH := ⟨20, z82, z2, t1_20⟩
theorem a1_20 : AtRow Tryz.prog (Gt Tryz.prog) r1_20 := at_row p0 q1_20
def r1_25 : RowH := ⟨25, z53, z3, t1_25⟩
theorem a1_25 : AtRow Tryz.prog (Gt Tryz.prog) r1_25 := at_row p0 q1_25
def r1_82 : RowH := ⟨82, z102, z72, t1_82⟩
theorem a1_82 : AtRow Tryz.prog (Gt Tryz.prog) r1_82 := at_row p0 q1_82
def r1_96 : RowH := ⟨96, z33, z2, t1_96⟩
theorem a1_96 : AtRow Tryz.prog (Gt Tryz.prog) r1_96 := at_row p0 q1_96
def r1_99 : RowH := ⟨99, z106, z107, t1_99⟩
theorem a1_99 : AtRow Tryz.prog (Gt Tryz.prog) r1_99 := at_row p0 q1_99
def r1_103 : RowH := ⟨103, z109, z92, t1_103⟩
theorem a1_103 : AtRow Tryz.prog (Gt Tryz.prog) r1_103 := at_row p0 q1_103
def r1_104 : RowH := ⟨104, z109, z2, t1_104⟩
theorem a1_104 : AtRow Tryz.prog (Gt Tryz.prog) r1_104 := at_row p0 q1_104
def r1_106 : RowH := ⟨106, z93, z108, t1_106⟩
theorem a1_106 : AtRow Tryz.prog (Gt Tryz.prog) r1_106 := at_row p0 q1_106
def r1_107 : RowH := ⟨107, z110, z108, t1_107⟩
theorem a1_107 : AtRow Tryz.prog (Gt Tryz.prog) r1_107 := at_row p0 q1_107
def r1_121 : RowH := ⟨121, z112, z113, t1_121⟩
theorem a1_121 : AtRow Tryz.prog (Gt Tryz.prog) r1_121 := at_row p0 q1_121
def r1_123 : RowH := ⟨123, z2, z112, t1_123⟩
theorem a1_123 : AtRow Tryz.prog (Gt Tryz.prog) r1_123 := at_row p0 q1_123
def r1_135 : RowH := ⟨135, z95, z0, t1_135⟩
theorem a1_135 : AtRow Tryz.prog (Gt Tryz.prog) r1_135 := at_row p0 q1_135
def r1_146 : RowH := ⟨146, z115, z115, t1_146⟩
theorem a1_146 : AtRow Tryz.prog (Gt Tryz.prog) r1_146 := at_row p0 q1_146
def r1_161 : RowH := ⟨161, z47, z0, t1_161⟩
theorem a1_161 : AtRow Tryz.prog (Gt Tryz.prog) r1_161 := at_row p0 q1_161
def r1_162 : RowH := ⟨162, z47, z117, t1_162⟩
theorem a1_162 : AtRow Tryz.prog (Gt Tryz.prog) r1_162 := at_row p0 q1_162
def r1_163 : RowH := ⟨163, z48, z118, t1_163⟩
theorem a1_163 : AtRow Tryz.prog (Gt Tryz.prog) r1_163 := at_row p0 q1_163
def r1_164 : RowH := ⟨164, z47, z92, t1_164⟩
theorem a1_164 : AtRow Tryz.prog (Gt Tryz.prog) r1_164 := at_row p0 q1_164
def r1_165 : RowH := ⟨165, z92, z114, t1_165⟩
theorem a1_165 : AtRow Tryz.prog (Gt Tryz.prog) r1_165 := at_row p0 q1_165
def r1_166 : RowH := ⟨166, z114, z92, t1_166⟩
theorem a1_166 : AtRow Tryz.prog (Gt Tryz.prog) r1_166 := at_row p0 q1_166
def r1_167 : RowH := ⟨167, z109, z109, t1_167⟩
theorem a1_167 : AtRow Tryz.prog (Gt Tryz.prog) r1_167 := at_row p0 q1_167
def r1_170 : RowH := ⟨170, z109, z92, t1_170⟩
theorem a1_170 : AtRow Tryz.prog (Gt Tryz.prog) r1_170 := at_row p0 q1_170
def r1_172 : RowH := ⟨172, z109, z92, t1_172⟩
theorem a1_172 : AtRow Tryz.prog (Gt Tryz.prog) r1_172 := at_row p0 q1_172
def r1_173 : RowH := ⟨173, z119, z2, t1_173⟩
theorem a1_173 : AtRow Tryz.prog (Gt Tryz.prog) r1_173 := at_row p0 q1_173
def r1_196 : RowH := ⟨196, z111, z112, t1_196⟩
theorem a1_196 : AtRow Tryz.prog (Gt Tryz.prog) r1_196 := at_row p0 q1_196
def r1_201 : RowH := ⟨201, z123, z2, t1_201⟩
theorem a1_201 : AtRow Tryz.prog (Gt Tryz.prog) r1_201 := at_row p0 q1_201
def r1_209 : RowH := ⟨209, z47, z0, t1_209⟩
theorem a1_209 : AtRow Tryz.prog (Gt Tryz.prog) r1_209 := at_row p0 q1_209
def r1_231 : RowH := ⟨231, z108, z47, t1_231⟩
theorem a1_231 : AtRow Tryz.prog (Gt Tryz.prog) r1_231 := at_row p0 q1_231
def r1_232 : RowH := ⟨232, z92, z47, t1_232⟩
theorem a1_232 : AtRow Tryz.prog (Gt Tryz.prog) r1_232 := at_row p0 q1_232
def r1_235 : RowH := ⟨235, z47, z92, t1_235⟩
theorem a1_235 : AtRow Tryz.prog (Gt Tryz.prog) r1_235 := at_row p0 q1_235
def r1_237 : RowH := ⟨237, z92, z92, t1_237⟩
theorem a1_237 : AtRow Tryz.prog (Gt Tryz.prog) r1_237 := at_row p0 q1_237
def r1_284 : RowH := ⟨284, z137, z137, t1_284⟩
theorem a1_284 : AtRow Tryz.prog (Gt Tryz.prog) r1_284 := at_row p0 q1_284
def r1_325 : RowH := ⟨325, z92, z92, t1_325⟩
theorem a1_325 : AtRow Tryz.prog (Gt Tryz.prog) r1_325 := at_row p0 q1_325
def r1_363 : RowH := ⟨363, z139, z66, t1_363⟩
theorem a1_363 : AtRow Tryz.prog (Gt Tryz.prog) r1_363 := at_row p0 q1_363
def r1_368 : RowH := ⟨368, z101, z72, t1_368⟩
theorem a1_368 : AtRow Tryz.prog (Gt Tryz.prog) r1_368 := at_row p0 q1_368
def r1_406 : RowH := ⟨406, z108, z113, t1_406⟩
theorem a1_406 : AtRow Tryz.prog (Gt Tryz.prog) r1_406 := at_row p0 q1_406
def r1_449 : RowH := ⟨449, z109, z92, t1_449⟩
theorem a1_449 : AtRow Tryz.prog (Gt Tryz.prog) r1_449 := at_row p0 q1_449
def r1_455 : RowH := ⟨455, z2, z92, t1_455⟩
theorem a1_455 : AtRow Tryz.prog (Gt Tryz.prog) r1_455 := at_row p0 q1_455
def r1_459 : RowH := ⟨459, z142, z142, t1_459⟩
theorem a1_459 : AtRow Tryz.prog (Gt Tryz.prog) r1_459 := at_row p0 q1_459
def rows1 : List RowH := [r1_163, r1_232, r1_173, r1_235, r1_237, r1_170, r1_363, r1_165, r1_284, r1_146, r1_166, r1_172, r1_201, r1_325, r1_20, r1_104, r1_162, r1_209, r1_231, r1_5, r1_9, r1_10, r1_11, r1_13, r1_15, r1_25, r1_82, r1_96, r1_99, r1_103, r1_106, r1_107, r1_121, r1_123, r1_135, r1_161, r1_164, r1_167, r1_196, r1_368, r1_406, r1_449, r1_455, r1_459]
noncomputable def ext1 : PureT := firstR (extTabH rows1) ext0
theorem ext1_ok : PureOk Tryz.prog (Gt Tryz.prog) ext1 := layer_at (rows := rows1) ⟨a1_163, ⟨a1_232, ⟨a1_173, ⟨a1_235, ⟨a1_237, ⟨a1_170, ⟨a1_363, ⟨a1_165, ⟨a1_284, ⟨a1_146, ⟨a1_166, ⟨a1_172, ⟨a1_201, ⟨a1_325, ⟨a1_20, ⟨a1_104, ⟨a1_162, ⟨a1_209, ⟨a1_231, ⟨a1_5, ⟨a1_9, ⟨a1_10, ⟨a1_11, ⟨a1_13, ⟨a1_15, ⟨a1_25, ⟨a1_82, ⟨a1_96, ⟨a1_99, ⟨a1_103, ⟨a1_106, ⟨a1_107, ⟨a1_121, ⟨a1_123, ⟨a1_135, ⟨a1_161, ⟨a1_164, ⟨a1_167, ⟨a1_196, ⟨a1_368, ⟨a1_406, ⟨a1_449, ⟨a1_455, ⟨a1_459, trivial⟩⟩⟩⟩⟩⟩⟩⟩⟩⟩⟩⟩⟩⟩⟩⟩⟩⟩⟩⟩⟩⟩⟩⟩⟩⟩⟩⟩⟩⟩⟩⟩⟩⟩⟩⟩⟩⟩⟩⟩⟩⟩⟩⟩ ext0_ok
theorem p1 : PureOk Tryz.prog (Gt Tryz.prog) (pureKD Tryz.prog sigC 100000 ext1 40) := pure_at gmono mixed enterSig ext1_ok 100000 40
def t2_6 : HTr (v45 × v46) := .leaf [((((.ofNat 0), ((.ofNat 0), ((.ofNat 0), ((.ofNat 0), ((.ofNat 0), ([], ([(.ofNat 0), (.ofNat 0), (.ofNat 0)], ([], ())))))))), (((.ofNat 4), ((.ofNat 2), ((.ofNat 1), ((.ofNat 5), ((.ofNat 0), ([65], ([(.ofNat 1), (.ofNat 1), (.ofNat 1)], ([([98,119,100,48], ((.ofNat 3), ([], ([], (((.ofNat 3), ([((.ofNat 2), ([], ([[(.ofNat 1000000), (.ofNat 0), (.ofNat 0)]], ([(.ofNat 0)], (([], ((.ofNat 0), ([], ()))), ([], ((.ofNat 0), ((.ofNat 0), ()))))))))], ())), ()))))), ([100,101,115,99], ((.ofNat 1), ([120], ([], (((.ofNat 0), ([], ())), ()))))), ([102,119,100,48], ((.ofNat 3), ([], ([], (((.ofNat 1), ([((.ofNat 2), ([], ([[(.ofNat 1000000)], [(.ofNat 0)], [(.ofNat 0)]], ([(.ofNat 0), (.ofNat 500000), (.ofNat 500000)], (([], ((.ofNat 0), ([], ()))), ([], ((.ofNat 0), ((.ofNat 0), ()))))))))], ())), ())))))], ())))))))), ((.ofNat 9), ()))), (((.ofNat 0), ([], ())), ((.ofNat 160), ())))]
theorem q2_6 : okH (pureKD Tryz.prog sigC 100000 ext1 40) 6 z45 z46 (t2_6 : HTr ((Ty.T z45) × (Ty.T z46))) = true := by kernel_rfl
def t2_8 : HTr (v3 × v53) := .leaf [(((.ofNat 249), ((.ofNat 100), ())), (([50,52,57], ([49,48,48], ())), ()))]
theorem q2_8 : okH (pureKD Tryz.prog sigC 100000 ext1 40) 8 z3 z53 (t2_8 : HTr ((Ty.T z3) × (Ty.T z53))) = true := by kernel_rfl
def t2_31 : HTr (v60 × v2) := .leaf [((([[(.ofNat 0), (.ofNat 0), (.ofNat 0)], [(.ofNat 1000), (.ofNat 0), (.ofNat 0)], [(.ofNat 0), (.ofNat 1000), (.ofNat 0)], [(.ofNat 0), (.ofNat 0), (.ofNat 1000)]], ([[(.ofNat 0), (.ofNat 2), (.ofNat 1)], [(.ofNat 0), (.ofNat 1), (.ofNat 3)], [(.ofNat 0), (.ofNat 3), (.ofNat 2)], [(.ofNat 1), (.ofNat 2), (.ofNat 3)]], ())), ()), ((.ofNat 0), ()))]
theorem q2_31 : okH (pureKD Tryz.prog sigC 100000 ext1 40) 31 z60 z2 (t2_31 : HTr ((Ty.T z60) × (Ty.T z2))) = true := by kernel_rfl
def t2_53 : HTr (v28 × v3) := .leaf [((((.ofNat 3), ([((.ofNat 2), ([], ([[(.ofNat 1000000), (.ofNat 0), (.ofNat 0)]], ([(.ofNat 0)], (([], ((.ofNat 0), ([], ()))), ([], ((.ofNat 0), ((.ofNat 0), ()))))))))], ())), ()), ((.ofNat 1), ((.ofNat 0), ()))),
 ((((.ofNat 1), ([((.ofNat 2), ([], ([[(.ofNat 1000000)], [(.ofNat 0)], [(.ofNat 0)]], ([(.ofNat 0), (.ofNat 500000), (.ofNat 500000)], (([], ((.ofNat 0), ([], ()))), ([], ((.ofNat 0), ((.ofNat 0), ()))))))))], ())), ()), ((.ofNat 3), ((.ofNat 0), ()))),
 ((((.ofNat 1), ([((.ofNat 1), ([((.ofNat 1), ([], ([], ())))], ([], ([], (([], ((.ofNat 0), ([], ()))), ([], ((.ofNat 0), ((.ofNat 0), ())))))))), ((.ofNat 1), ([((.ofNat 1), ([], ([], ())))], ([], ([], (([], ((.ofNat 0), ([], ()))), ([], ((.ofNat 0), ((.ofNat 0), ())))))))), ((.ofNat 1), ([((.ofNat 1), ([], ([], ())))], ([], ([], (([], ((.ofNat 0), ([], ()))), ([], ((.ofNat 0), ((.ofNat 0), ())))))))), ((.ofNat 2), ([], ([[(.ofNat 1000000)], [(.ofNat 0)], [(.ofNat 0)]], ([(.ofNat 0), (.ofNat 500000), (.ofNat 500000)], (([], ((.ofNat 0), ([], ()))), ([], ((.ofNat 0), ((.ofNat 0), ()))))))))], ())), ()), ((.ofNat 3), ((.ofNat 0), ())))]
theorem q2_53 : okH (pureKD Tryz.prog sigC 100000 ext1 40) 53 z28 z3 (t2_53 : HTr ((Ty.T z28) × (Ty.T z3))) = true := by kernel_rfl
def t2_87 : HTr (v105 × v103) := .leaf [(((.ofNat 3000000000000), ((.ofNat 1), ((.ofNat 2), (false, ())))), ((.ofNat 1500000000000), (true, ()))),
 (((.ofNat 3000000000000), ((.ofNat 1), ((.ofNat 2), (true, ())))), ((.ofNat 1500000000000), (true, ()))),
 (((.ofNat 5000000000000), ((.ofNat 1), ((.ofNat 2), (false, ())))), ((.ofNat 2500000000000), (true, ()))),
 (((.ofNat 5000000000000), ((.ofNat 1), ((.ofNat 2), (true, ())))), ((.ofNat 2500000000000), (true, ())))]
theorem q2_87 : okH (pureKD Tryz.prog sigC 100000 ext1 40) 87 z105 z103 (t2_87 : HTr ((Ty.T z105) × (Ty.T z103))) = true := by kernel_rfl
def t2_101 : HTr (v47 × v2) := .node 474468 (.node 270417 (.leaf [(([49], ()), ((.ofNat 0), ())),
 (([50], ()), ((.ofNat 0), ())),
 (([51], ()), ((.ofNat 0), ()))]) (.leaf [(([53], ()), ((.ofNat 0), ())),
 (([45,49], ()), ((.ofNat 0), ())),
 (([49,48,48,48,48,48,48], ()), ((.ofNat 0), ()))])) (.node 509067 (.leaf [(([49,48,48], ()), ((.ofNat 0), ())),
 (([50,48,48], ()), ((.ofNat 0), ())),
 (([51,48,48], ()), ((.ofNat 0), ()))]) (.leaf [(([45,49,48,48,48,48,48,48,48,48,48,48,48,48], ()), ((.ofNat 0), ())),
 (([45,50,48,48,48,48,48,48,48,48,48,48,48,48], ()), ((.ofNat 0), ())),
 (([45,51,48,48,48,48,48,48,48,48,48,48,48,48], ()), ((.ofNat 0), ())),
 (([45,52,48,48,48,48,48,48,48,48,48,48,48,48], ()), ((.ofNat 0), ()))]))
theorem q2_101 : okH (pureKD Tryz.prog sigC 100000 ext1 40) 101 z47 z2 (t2_101 : HTr ((Ty.T z47) × (Ty.T z2))) = true := by kernel_rfl
def t2_102 : HTr (v47 × v108) := .node 474468 (.leaf [(([48], ()), (([], (false, ())), ())),
 (([53], ()), (([(.ofNat 5)], (false, ())), ())),
 (([49,48,48,48,48,48,48], ()), (([(.ofNat 1000000)], (false, ())), ()))]) (.leaf [(([49,48,48], ()), (([(.ofNat 100)], (false, ())), ())),
 (([50,48,48], ()), (([(.ofNat 200)], (false, ())), ())),
 (([51,48,48], ()), (([(.ofNat 300)], (false, ())), ()))])
theorem q2_102 : okH (pureKD Tryz.prog sigC 100000 ext1 40) 102 z47 z108 (t2_102 : HTr ((Ty.T z47) × (Ty.T z108))) = true := by kernel_rfl
def t2_103 : HTr (v109 × v92) := .leaf [(([(.ofNat 0), (.ofNat 1000)], ([(.ofNat 0), (.ofNat 1000)], ())), ([(.ofNat 0), (.ofNat 1000)], ())),
 (([(.ofNat 0), (.ofNat 2000)], ([(.ofNat 0), (.ofNat 1000)], ())), ([(.ofNat 0), (.ofNat 1000)], ())),
 (([(.ofNat 0), (.ofNat 3000)], ([(.ofNat 0), (.ofNat 1000)], ())), ([(.ofNat 0), (.ofNat 1000)], ())),
 (([(.ofNat 0), (.ofNat 4000)], ([(.ofNat 0), (.ofNat 1000)], ())), ([(.ofNat 0), (.ofNat 1000)], ()))]
theorem q2_103 : okH (pureKD Tryz.prog sigC 100000 ext1 40) 103 z109 z92 (t2_103 : HTr ((Ty.T z109) × (Ty.T z92))) = true := by kernel_rfl
def t2_106 : HTr (v93 × v108) := .leaf [((([(.ofNat 1)], (true, ())), ([(.ofNat 1)], ())), (([(.ofNat 1)], (true, ())), ())),
 ((([(.ofNat 3)], (false, ())), ([(.ofNat 2)], ())), (([(.ofNat 6)], (false, ())), ())),
 ((([(.ofNat 4)], (true, ())), ([(.ofNat 1)], ())), (([(.ofNat 4)], (true, ())), ()))]
theorem q2_106 : okH (pureKD Tryz.prog sigC 100000 ext1 40) 106 z93 z108 (t2_106 : HTr ((Ty.T z93) × (Ty.T z108))) = true := by kernel_rfl
def t2_107 : HTr (v110 × v108) := .leaf [((([(.ofNat 3)], (false, ())), (([(.ofNat 3)], (true, ())), ())), (([], (false, ())), ())),
 ((([(.ofNat 4)], (false, ())), (([(.ofNat 4)], (true, ())), ())), (([], (false, ())), ()))]
theorem q2_107 : okH (pureKD Tryz.prog sigC 100000 ext1 40) 107 z110 z108 (t2_107 : HTr ((Ty.T z110) × (Ty.T z108))) = true := by kernel_rfl
def t2_135 : HTr (v95 × v0) := .leaf [((([97], ([(.ofNat 0)], ([(.ofNat 5000), (.ofNat 0), (.ofNat 0)], ()))), ()), (true, ()))]
theorem q2_135 : okH (pureKD Tryz.prog sigC 100000 ext1 40) 135 z95 z0 (t2_135 : HTr ((Ty.T z95) × (Ty.T z0))) = true := by kernel_rfl
def t2_155 : HTr (v116 × v89) := .node 700777 (.node 237559 (.leaf [(((([(.ofNat 2)], (true, ())), ([(.ofNat 1)], ())), ()), (([45,50], ([49], ())), ((.ofNat 0), ()))),
 (((([(.ofNat 3)], (false, ())), ([(.ofNat 1)], ())), ()), (([51], ([49], ())), ((.ofNat 0), ()))),
 (((([(.ofNat 3)], (false, ())), ([(.ofNat 2)], ())), ()), (([51], ([50], ())), ((.ofNat 0), ())))]) (.leaf [(((([(.ofNat 8)], (false, ())), ([(.ofNat 1)], ())), ()), (([56], ([49], ())), ((.ofNat 0), ()))),
 (((([(.ofNat 4)], (false, ())), ([(.ofNat 1)], ())), ()), (([52], ([49], ())), ((.ofNat 0), ()))),
 (((([(.ofNat 3)], (true, ())), ([(.ofNat 1)], ())), ()), (([45,51], ([49], ())), ((.ofNat 0), ()))),
 (((([(.ofNat 4)], (true, ())), ([(.ofNat 1)], ())), ()), (([45,52], ([49], ())), ((.ofNat 0), ())))])) (.node 756266 (.leaf [(((([(.ofNat 5)], (false, ())), ([(.ofNat 2)], ())), ()), (([53], ([50], ())), ((.ofNat 0), ()))),
 (((([(.ofNat 1)], (false, ())), ([(.ofNat 1)], ())), ()), (([49], ([49], ())), ((.ofNat 0), ()))),
 (((([(.ofNat 1)], (false, ())), ([(.ofNat 2)], ())), ()), (([49], ([50], ())), ((.ofNat 0), ())))]) (.leaf [(((([(.ofNat 6)], (false, ())), ([(.ofNat 1)], ())), ()), (([54], ([49], ())), ((.ofNat 0), ()))),
 (((([], (false, ())), ([(.ofNat 1)], ())), ()), (([48], ([49], ())), ((.ofNat 0), ()))),
 (((([(.ofNat 1)], (true, ())), ([(.ofNat 1)], ())), ()), (([45,49], ([49], ())), ((.ofNat 0), ())))]))
theorem q2_155 : okH (pureKD Tryz.prog sigC 100000 ext1 40) 155 z116 z89 (t2_155 : HTr ((Ty.T z116) × (Ty.T z89))) = true := by kernel_rfl
def t2_162 : HTr (v47 × v117) := .node 857134 (.leaf [(([48], ()), (([], (false, ())), (true, ()))),
 (([49,48,48,48,48,48,48,48,48,48,48,48,48], ()), (([(.ofNat 0), (.ofNat 1000)], (false, ())), (true, ()))),
 (([50,48,48,48,48,48,48,48,48,48,48,48,48], ()), (([(.ofNat 0), (.ofNat 2000)], (false, ())), (true, ()))),
 (([51,48,48,48,48,48,48,48,48,48,48,48,48], ()), (([(.ofNat 0), (.ofNat 3000)], (false, ())), (true, ())))]) (.leaf [(([52,48,48,48,48,48,48,48,48,48,48,48,48], ()), (([(.ofNat 0), (.ofNat 4000)], (false, ())), (true, ()))),
 (([53,48,48,48,48,48,48,48,48,48,48,48,48], ()), (([(.ofNat 0), (.ofNat 5000)], (false, ())), (true, ()))),
 (([54,48,48,48,48,48,48,48,48,48,48,48,48], ()), (([(.ofNat 0), (.ofNat 6000)], (false, ())), (true, ()))),
 (([56,48,48,48,48,48,48,48,48,48,48,48,48], ()), (([(.ofNat 0), (.ofNat 8000)], (false, ())), (true, ())))])
theorem q2_162 : okH (pureKD Tryz.prog sigC 100000 ext1 40) 162 z47 z117 (t2_162 : HTr ((Ty.T z47) × (Ty.T z117))) = true := by kernel_rfl
def t2_167 : HTr (v109 × v109) := .node 440938 (.leaf [(([(.ofNat 0), (.ofNat 1000)], ([(.ofNat 0), (.ofNat 1000)], ())), ([(.ofNat 1)], ([], ()))),
 (([(.ofNat 0), (.ofNat 2000)], ([(.ofNat 0), (.ofNat 1000)], ())), ([(.ofNat 2)], ([], ()))),
 (([(.ofNat 2)], ([(.ofNat 1)], ())), ([(.ofNat 2)], ([], ())))]) (.leaf [(([(.ofNat 0), (.ofNat 1000)], ([(.ofNat 0), (.ofNat 500)], ())), ([(.ofNat 2)], ([], ()))),
 (([(.ofNat 0), (.ofNat 3000)], ([(.ofNat 0), (.ofNat 1000)], ())), ([(.ofNat 3)], ([], ()))),
 (([(.ofNat 0), (.ofNat 4000)], ([(.ofNat 0), (.ofNat 1000)], ())), ([(.ofNat 4)], ([], ())))])
theorem q2_167 : okH (pureKD Tryz.prog sigC 100000 ext1 40) 167 z109 z109 (t2_167 : HTr ((Ty.T z109) × (Ty.T z109))) = true := by kernel_rfl
def t2_170 : HTr (v109 × v92) := .node 440938 (.leaf [(([(.ofNat 0), (.ofNat 1000)], ([(.ofNat 2)], ())), ([(.ofNat 0), (.ofNat 2000)], ())),
 (([(.ofNat 1)], ([(.ofNat 2)], ())), ([(.ofNat 2)], ())),
 (([(.ofNat 2)], ([(.ofNat 1)], ())), ([(.ofNat 2)], ()))]) (.leaf [(([(.ofNat 3)], ([(.ofNat 1)], ())), ([(.ofNat 3)], ())),
 (([(.ofNat 1)], ([(.ofNat 3)], ())), ([(.ofNat 3)], ())),
 (([(.ofNat 6)], ([(.ofNat 1)], ())), ([(.ofNat 6)], ()))])
theorem q2_170 : okH (pureKD Tryz.prog sigC 100000 ext1 40) 170 z109 z92 (t2_170 : HTr ((Ty.T z109) × (Ty.T z92))) = true := by kernel_rfl
def t2_183 : HTr (v120 × v89) := .leaf [(((([(.ofNat 1)], (false, ())), ([(.ofNat 3)], ())), ((.ofNat 0), ())), (([49], ([51], ())), ((.ofNat 0), ())))]
theorem q2_183 : okH (pureKD Tryz.prog sigC 100000 ext1 40) 183 z120 z89 (t2_183 : HTr ((Ty.T z120) × (Ty.T z89))) = true := by kernel_rfl
def t2_195 : HTr (v121 × v121) := .leaf [(((false, ([(.ofNat 5)], ())), ((false, ([(.ofNat 1)], ())), ())), ((false, ([(.ofNat 5)], ())), ((false, ([], ())), ()))),
 (((false, ([(.ofNat 1)], ())), ((false, ([(.ofNat 1)], ())), ())), ((false, ([(.ofNat 1)], ())), ((false, ([], ())), ()))),
 (((false, ([(.ofNat 2)], ())), ((false, ([(.ofNat 1)], ())), ())), ((false, ([(.ofNat 2)], ())), ((false, ([], ())), ()))),
 (((false, ([(.ofNat 3)], ())), ((false, ([(.ofNat 1)], ())), ())), ((false, ([(.ofNat 3)], ())), ((false, ([], ())), ())))]
theorem q2_195 : okH (pureKD Tryz.prog sigC 100000 ext1 40) 195 z121 z121 (t2_195 : HTr ((Ty.T z121) × (Ty.T z121))) = true := by kernel_rfl
def t2_204 : HTr (v125 × v2) := .node 264325 (.leaf [(([[(.negSucc 499), (.negSucc 499), (.negSucc 0)], [(.negSucc 499), (.ofNat 500), (.negSucc 0)], [(.ofNat 500), (.negSucc 499), (.negSucc 0)]], ()), ((.ofNat 1000000), ())),
 (([[(.negSucc 99), (.negSucc 99), (.negSucc 99)], [(.negSucc 99), (.negSucc 99), (.ofNat 900)], [(.negSucc 99), (.ofNat 900), (.negSucc 99)]], ()), ((.ofNat 100000000), ())),
 (([[(.negSucc 99), (.negSucc 99), (.negSucc 99)], [(.ofNat 900), (.negSucc 99), (.negSucc 99)], [(.negSucc 99), (.negSucc 99), (.ofNat 900)]], ()), ((.ofNat 100000000), ())),
 (([[(.negSucc 499), (.negSucc 499), (.negSucc 0)], [(.ofNat 500), (.negSucc 499), (.negSucc 0)], [(.negSucc 499), (.negSucc 499), (.ofNat 999)]], ()), ((.ofNat 500000000), ()))]) (.leaf [(([[(.ofNat 900), (.negSucc 99), (.negSucc 99)], [(.negSucc 99), (.ofNat 900), (.negSucc 99)], [(.negSucc 99), (.negSucc 99), (.ofNat 900)]], ()), ((.ofNat 700000000), ())),
 (([[(.negSucc 499), (.negSucc 499), (.negSucc 0)], [(.negSucc 499), (.negSucc 499), (.ofNat 999)], [(.negSucc 499), (.ofNat 500), (.negSucc 0)]], ()), ((.ofNat 500000000), ())),
 (([[(.negSucc 99), (.negSucc 99), (.negSucc 99)], [(.negSucc 99), (.ofNat 900), (.negSucc 99)], [(.ofNat 900), (.negSucc 99), (.negSucc 99)]], ()), ((.ofNat 100000000), ())),
 (([[(.ofNat 500), (.negSucc 499), (.negSucc 0)], [(.negSucc 499), (.ofNat 500), (.negSucc 0)], [(.negSucc 499), (.negSucc 499), (.ofNat 999)]], ()), ((.negSucc 999999), ()))])
theorem q2_204 : okH (pureKD Tryz.prog sigC 100000 ext1 40) 204 z125 z2 (t2_204 : HTr ((Ty.T z125) × (Ty.T z2))) = true := by kernel_rfl
def t2_302 : HTr (v118 × v3) := .leaf [(([49,48,48,48,48,48,48,48,48,48,48,48,48,48], (false, ())), ((.ofNat 10000000000000), ((.ofNat 0), ())))]
theorem q2_302 : okH (pureKD Tryz.prog sigC 100000 ext1 40) 302 z118 z3 (t2_302 : HTr ((Ty.T z118) × (Ty.T z3))) = true := by kernel_rfl
def t2_449 : HTr (v109 × v92) := .leaf [(([(.ofNat 0), (.ofNat 10000)], ([(.ofNat 99990)], ())), ([(.ofNat 0), (.ofNat 999900000)], ())),
 (([(.ofNat 0), (.ofNat 100000)], ([(.ofNat 9999)], ())), ([(.ofNat 0), (.ofNat 999900000)], ()))]
theorem q2_449 : okH (pureKD Tryz.prog sigC 100000 ext1 40) 449 z109 z92 (t2_449 : HTr ((Ty.T z109) × (Ty.T z92))) = true := by kernel_rfl
def r2_6 : RowH := ⟨6, z45, z46, t2_6⟩
theorem a2_6 : AtRow Tryz.prog (Gt Tryz.prog) r2_6 := at_row p1 q2_6
def r2_8 : RowH := ⟨8, z3, z53, t2_8⟩
theorem a2_8 : AtRow Tryz.prog (Gt Tryz.prog) r2_8 := at_row p1 q2_8
def r2_31 : RowH := ⟨31, z60, z2, t2_31⟩
theorem a2_31 : AtRow Tryz.prog (Gt Tryz.prog) r2_31 := at_row p1 q2_31
def r2_53 : RowH := ⟨53, z28, z3, t2_53⟩
theorem a2_53 : AtRow Tryz.prog (Gt Tryz.prog) r2_53 := at_row p1 q2_53
def r2_87 : RowH := ⟨87, z105, z103, t2_87⟩
theorem a2_87 : AtRow Tryz.prog (Gt Tryz.prog) r2_87 := at_row p1 q2_87
def r2_101 : RowH := ⟨101, z47, z2, t2_101⟩
theorem a2_101 : AtRow Tryz.prog (Gt Tryz.prog) r2_101 := at_row p1 q2_101
def r2_102 : RowH := ⟨102, z47, z108, t2_102⟩
theorem a2_102 : AtRow Tryz.prog (Gt Tryz.prog) r2_102 := at_row p1 q2_102
def r2_103 : RowH := ⟨103, z109, z92, t2_103⟩
theorem a2_103 : AtRow Tryz.prog (Gt Tryz.prog) r2_103 := at_row p1 q2_103
def R2_103 : RowH := RowH.or r1_103 t2_103
theorem b2_103 : AtRow Tryz.prog (Gt Tryz.prog) R2_103 := at_or a1_103 a2_103
def r2_106 : RowH := ⟨106, z93, z108, t2_106⟩
theorem a2_106 : AtRow Tryz.prog (Gt Tryz.prog) r2_106 := at_row p1 q2_106
def R2_106 : RowH := RowH.or r1_106 t2_106
theorem b2_106 : AtRow Tryz.prog (Gt Tryz.prog) R2_106 := at_or a1_106 a2_106
def r2_107 : RowH := ⟨107, z110, z108, t2_107⟩
theorem a2_107 : AtRow Tryz.prog (Gt Tryz.prog) r2_107 := at_row p1 q2_107
def R2_107 : RowH := RowH.or r1_107 t2_107
theorem b2_107 : AtRow Tryz.prog (Gt Tryz.prog) R2_107 := at_or a1_107 a2_107
def r2_135 : RowH := ⟨135, z95, z0, t2_135⟩
theorem a2_135 : AtRow Tryz.prog (Gt Tryz.prog) r2_135 := at_row p1 q2_135
def R2_135 : RowH := RowH.or r1_135 t2_135
theorem b2_135 : AtRow Tryz.prog (Gt Tryz.prog) R2_135 := at_or a1_135 a2_135
def r2_155 : RowH := ⟨155, z116, z89, t2_155⟩
theorem a2_155 : AtRow Tryz.prog (Gt Tryz.prog) r2_155 := at_row p1 q2_155
def r2_162 : RowH := ⟨162, z47, z117, t2_162⟩
theorem a2_162 : AtRow Tryz.prog (Gt Tryz.prog) r2_162 := at_row p1 q2_162
def R2_162 : RowH := RowH.or r1_162 t2_162
theorem b2_162 : AtRow Tryz.prog (Gt Tryz.prog) R2_162 := at_or a1_162 a2_162
def r2_167 : RowH := ⟨167, z109, z109, t2_167⟩
theorem a2_167 : AtRow Tryz.prog (Gt Tryz.prog) r2_167 := at_row p1 q2_167
def R2_167 : RowH := RowH.or r1_167 t2_167
theorem b2_167 : AtRow Tryz.prog (Gt Tryz.prog) R2_167 := at_or a1_167 a2_167
def r2_170 : RowH := ⟨170, z109, z92, t2_170⟩
theorem a2_170 : AtRow Tryz.prog (Gt Tryz.prog) r2_170 := at_row p1 q2_170
def R2_170 : RowH := RowH.or r1_170 t2_170
theorem b2_170 : AtRow Tryz.prog (Gt Tryz.prog) R2_170 := at_or a1_170 a2_170
def r2_183 : RowH := ⟨183, z120, z89, t2_183⟩
theorem a2_183 : AtRow Tryz.prog (Gt Tryz.prog) r2_183 := at_row p1 q2_183
def r2_195 : RowH := ⟨195, z121, z121, t2_195⟩
theorem a2_195 : AtRow Tryz.prog (Gt Tryz.prog) r2_195 := at_row p1 q2_195
def r2_204 : RowH := ⟨204, z125, z2, t2_204⟩
theorem a2_204 : AtRow Tryz.prog (Gt Tryz.prog) r2_204 := at_row p1 q2_204
def r2_302 : RowH := ⟨302, z118, z3, t2_302⟩
theorem a2_302 : AtRow Tryz.prog (Gt Tryz.prog) r2_302 := at_row p1 q2_302
def r2_449 : RowH := ⟨449, z109, z92, t2_449⟩
theorem a2_449 : AtRow Tryz.prog (Gt Tryz.prog) r2_449 := at_row p1 q2_449
def R2_449 : RowH := RowH.or r1_449 t2_449
theorem b2_449 : AtRow Tryz.prog (Gt Tryz.prog) R2_449 := at_or a1_449 a2_449
def rows2 : List RowH := [R2_449, r1_163, r2_101, r1_164, R2_162, R2_167, r2_102, R2_103, r1_121, r1_123, r2_87, r2_195, r1_284, r2_155, r1_406, r1_325, r1_459, R2_170, r1_165, r1_166, r1_232, r1_235, r1_455, r2_53, r1_237, r2_31, r1_196, r1_96, R2_135, r1_161, r1_209, r1_231, r1_5, r1_9, r1_10, r1_11, r1_13, r1_15, r1_20, r1_25, r1_82, r1_99, r1_104, R2_106, R2_107, r1_146, r1_172, r1_173, r1_201, r1_363, r1_368, r2_6, r2_8, r2_183, r2_204, r2_302]
noncomputable def ext2 : PureT := firstR (extTabH rows2) ext0
theorem ext2_ok : PureOk Tryz.prog (Gt Tryz.prog) ext2 := layer_at (rows := rows2) ⟨b2_449, ⟨a1_163, ⟨a2_101, ⟨a1_164, ⟨b2_162, ⟨b2_167, ⟨a2_102, ⟨b2_103, ⟨a1_121, ⟨a1_123, ⟨a2_87, ⟨a2_195, ⟨a1_284, ⟨a2_155, ⟨a1_406, ⟨a1_325, ⟨a1_459, ⟨b2_170, ⟨a1_165, ⟨a1_166, ⟨a1_232, ⟨a1_235, ⟨a1_455, ⟨a2_53, ⟨a1_237, ⟨a2_31, ⟨a1_196, ⟨a1_96, ⟨b2_135, ⟨a1_161, ⟨a1_209, ⟨a1_231, ⟨a1_5, ⟨a1_9, ⟨a1_10, ⟨a1_11, ⟨a1_13, ⟨a1_15, ⟨a1_20, ⟨a1_25, ⟨a1_82, ⟨a1_99, ⟨a1_104, ⟨b2_106, ⟨b2_107, ⟨a1_146, ⟨a1_172, ⟨a1_173, ⟨a1_201, ⟨a1_363, ⟨a1_368, ⟨a2_6, ⟨a2_8, ⟨a2_183, ⟨a2_204, ⟨a2_302, trivial⟩⟩⟩⟩⟩⟩⟩⟩⟩⟩⟩⟩⟩⟩⟩⟩⟩⟩⟩⟩⟩⟩⟩⟩⟩⟩⟩⟩⟩⟩⟩⟩⟩⟩⟩⟩⟩⟩⟩⟩⟩⟩⟩⟩⟩⟩⟩⟩⟩⟩⟩⟩⟩⟩⟩⟩ ext0_ok
end Go.Vg
