/- Calls that have been run: part 1. -/
import Derived.Test.YtoibdlakkekkeaaGreatDoorExt
namespace Go.Vg
open Go Go.Proofs
set_option maxRecDepth 1000000
set_option maxHeartbeats 0
theorem p0 : PureOk Tryz.prog (Gt Tryz.prog) (pureKD Tryz.prog sigC 100000 ext0 40) := pure_at gmono mixed enterSig ext0_ok 100000 40
def t1_17 : HTr (v42 × v2) := .leaf [(((((.ofNat 0), ([], ())), (((.ofNat 1), ([], ())), ())), ()), ((.ofNat 140), ()))]
theorem q1_17 : okH (pureKD Tryz.prog sigC 100000 ext0 40) 17 z42 z2 (t1_17 : HTr ((Ty.T z42) × (Ty.T z2))) = true := by kernel_rfl
def t1_32 : HTr (v3 × v2) := .leaf [(((.ofNat 0), ((.ofNat 0), ())), ((.ofNat 0), ())),
 (((.negSucc 0), ((.ofNat 0), ())), ((.negSucc 0), ()))]
theorem q1_32 : okH (pureKD Tryz.prog sigC 100000 ext0 40) 32 z3 z2 (t1_32 : HTr ((Ty.T z3) × (Ty.T z2))) = true := by kernel_rfl
def t1_34 : HTr (v39 × v46) := .node 640597 (.node 478588 (.node 403073 (.leaf [((([49,57], ([50,52], ())), ((.ofNat 0), ())), (([49,57], ([50,52], ())), ())),
 ((([49], ([49,50], ())), ((.ofNat 0), ())), (([49], ([49,50], ())), ())),
 ((([53], ([49,50], ())), ((.ofNat 0), ())), (([53], ([49,50], ())), ()))]) (.leaf [((([55], ([49,50], ())), ((.ofNat 0), ())), (([55], ([49,50], ())), ())),
 ((([49], ([50,52], ())), ((.ofNat 0), ())), (([49], ([50,52], ())), ())),
 ((([49,49], ([49,50], ())), ((.ofNat 0), ())), (([49,49], ([49,50], ())), ()))])) (.node 604441 (.leaf [((([53], ([50,52], ())), ((.ofNat 0), ())), (([53], ([50,52], ())), ())),
 ((([55], ([50,52], ())), ((.ofNat 0), ())), (([55], ([50,52], ())), ())),
 ((([48], ([49], ())), ((.ofNat 0), ())), (([48], ([49], ())), ()))]) (.leaf [((([49,49], ([50,52], ())), ((.ofNat 0), ())), (([49,49], ([50,52], ())), ())),
 ((([49], ([49], ())), ((.ofNat 0), ())), (([49], ([49], ())), ())),
 ((([49], ([50], ())), ((.ofNat 0), ())), (([49], ([50], ())), ())),
 ((([50], ([49], ())), ((.ofNat 0), ())), (([50], ([49], ())), ()))]))) (.node 749065 (.node 698034 (.leaf [((([49], ([51], ())), ((.ofNat 0), ())), (([49], ([51], ())), ())),
 ((([50], ([51], ())), ((.ofNat 0), ())), (([50], ([51], ())), ())),
 ((([49], ([52], ())), ((.ofNat 0), ())), (([49], ([52], ())), ())),
 ((([45,49], ([49], ())), ((.ofNat 0), ())), (([45,49], ([49], ())), ()))]) (.leaf [((([49], ([54], ())), ((.ofNat 0), ())), (([49], ([54], ())), ())),
 ((([51], ([52], ())), ((.ofNat 0), ())), (([51], ([52], ())), ())),
 ((([49,51], ([50,52], ())), ((.ofNat 0), ())), (([49,51], ([50,52], ())), ())),
 ((([49], ([56], ())), ((.ofNat 0), ())), (([49], ([56], ())), ()))])) (.node 821377 (.leaf [((([50,51], ([50,52], ())), ((.ofNat 0), ())), (([50,51], ([50,52], ())), ())),
 ((([51], ([56], ())), ((.ofNat 0), ())), (([51], ([56], ())), ())),
 ((([53], ([54], ())), ((.ofNat 0), ())), (([53], ([54], ())), ())),
 ((([53], ([56], ())), ((.ofNat 0), ())), (([53], ([56], ())), ()))]) (.leaf [((([55], ([56], ())), ((.ofNat 0), ())), (([55], ([56], ())), ())),
 ((([50,50,51], ([49,48,48,48], ())), ((.ofNat 0), ())), (([50,50,51], ([49,48,48,48], ())), ())),
 ((([49,55], ([50,52], ())), ((.ofNat 0), ())), (([49,55], ([50,52], ())), ()))])))
theorem q1_34 : okH (pureKD Tryz.prog sigC 100000 ext0 40) 34 z39 z46 (t1_34 : HTr ((Ty.T z39) × (Ty.T z46))) = true := by kernel_rfl
def t1_43 : HTr (v40 × v3) := .leaf [((((.ofNat 1), ([], ())), ()), ((.ofNat 1), ((.ofNat 0), ()))),
 ((((.ofNat 2), ([], ())), ()), ((.ofNat 2), ((.ofNat 0), ()))),
 ((((.ofNat 3), ([], ())), ()), ((.ofNat 3), ((.ofNat 0), ()))),
 ((((.ofNat 4), ([], ())), ()), ((.ofNat 4), ((.ofNat 0), ())))]
theorem q1_43 : okH (pureKD Tryz.prog sigC 100000 ext0 40) 43 z40 z3 (t1_43 : HTr ((Ty.T z40) × (Ty.T z3))) = true := by kernel_rfl
def t1_54 : HTr (v29 × v53) := .leaf [(([54,53,53,51,53], ()), ([(.ofNat 65535)], ())),
 (([49], ()), ([(.ofNat 1)], ())),
 (([49,48,48,48,48,48,48], ()), ([(.ofNat 1000000)], ()))]
theorem q1_54 : okH (pureKD Tryz.prog sigC 100000 ext0 40) 54 z29 z53 (t1_54 : HTr ((Ty.T z29) × (Ty.T z53))) = true := by kernel_rfl
def t1_56 : HTr (v53 × v29) := .node 222994 (.leaf [(([(.ofNat 1)], ()), ([49], ())),
 (([(.ofNat 2)], ()), ([50], ())),
 (([(.ofNat 3)], ()), ([51], ())),
 (([(.ofNat 4)], ()), ([52], ()))]) (.node 227030 (.leaf [(([(.ofNat 6)], ()), ([54], ())),
 (([(.ofNat 8)], ()), ([56], ()))]) (.leaf [(([(.ofNat 12)], ()), ([49,50], ())),
 (([(.ofNat 24)], ()), ([50,52], ())),
 (([(.ofNat 65535)], ()), ([54,53,53,51,53], ()))]))
theorem q1_56 : okH (pureKD Tryz.prog sigC 100000 ext0 40) 56 z53 z29 (t1_56 : HTr ((Ty.T z53) × (Ty.T z29))) = true := by kernel_rfl
def t1_65 : HTr (v56 × v39) := .leaf [(((([(.ofNat 223)], (false, ())), ([(.ofNat 1000)], ())), ()), (([50,50,51], ([49,48,48,48], ())), ((.ofNat 0), ())))]
theorem q1_65 : okH (pureKD Tryz.prog sigC 100000 ext0 40) 65 z56 z39 (t1_65 : HTr ((Ty.T z56) × (Ty.T z39))) = true := by kernel_rfl
def t1_83 : HTr (v59 × v53) := .node 448001 (.node 439929 (.node 227030 (.leaf [(([(.ofNat 625)], ([(.ofNat 1)], ())), ([(.ofNat 1)], ())),
 (([], ([(.ofNat 1)], ())), ([(.ofNat 1)], ()))]) (.leaf [(([], ([(.ofNat 2)], ())), ([(.ofNat 2)], ())),
 (([], ([(.ofNat 4)], ())), ([(.ofNat 4)], ())),
 (([(.ofNat 1)], ([(.ofNat 1)], ())), ([(.ofNat 1)], ()))])) (.node 442956 (.node 440938 (.leaf [(([(.ofNat 1)], ([(.ofNat 2)], ())), ([(.ofNat 1)], ())),
 (([(.ofNat 2)], ([(.ofNat 1)], ())), ([(.ofNat 1)], ()))]) (.leaf [(([(.ofNat 2)], ([(.ofNat 2)], ())), ([(.ofNat 2)], ())),
 (([(.ofNat 3)], ([(.ofNat 1)], ())), ([(.ofNat 1)], ())),
 (([(.ofNat 2)], ([(.ofNat 3)], ())), ([(.ofNat 1)], ())),
 (([(.ofNat 1)], ([(.ofNat 4)], ())), ([(.ofNat 1)], ()))])) (.leaf [(([(.ofNat 3)], ([(.ofNat 4)], ())), ([(.ofNat 1)], ())),
 (([(.ofNat 4)], ([(.ofNat 4)], ())), ([(.ofNat 4)], ())),
 (([(.ofNat 9)], ([(.ofNat 1)], ())), ([(.ofNat 1)], ()))]))) (.node 479280 (.node 469190 (.leaf [(([(.ofNat 1)], ([(.ofNat 24)], ())), ([(.ofNat 1)], ())),
 (([(.ofNat 5)], ([(.ofNat 24)], ())), ([(.ofNat 1)], ())),
 (([(.ofNat 7)], ([(.ofNat 24)], ())), ([(.ofNat 1)], ()))]) (.leaf [(([(.ofNat 11)], ([(.ofNat 24)], ())), ([(.ofNat 1)], ())),
 (([(.ofNat 13)], ([(.ofNat 24)], ())), ([(.ofNat 1)], ())),
 (([(.ofNat 17)], ([(.ofNat 24)], ())), ([(.ofNat 1)], ()))])) (.node 563537 (.leaf [(([(.ofNat 19)], ([(.ofNat 24)], ())), ([(.ofNat 1)], ())),
 (([(.ofNat 23)], ([(.ofNat 24)], ())), ([(.ofNat 1)], ())),
 (([(.ofNat 65535)], ([(.ofNat 1)], ())), ([(.ofNat 1)], ()))]) (.leaf [(([(.ofNat 65535)], ([(.ofNat 2)], ())), ([(.ofNat 1)], ())),
 (([(.ofNat 223)], ([(.ofNat 1000)], ())), ([(.ofNat 1)], ())),
 (([(.ofNat 65535)], ([(.ofNat 65535)], ())), ([(.ofNat 65535)], ()))])))
theorem q1_83 : okH (pureKD Tryz.prog sigC 100000 ext0 40) 83 z59 z53 (t1_83 : HTr ((Ty.T z59) × (Ty.T z53))) = true := by kernel_rfl
def t1_84 : HTr (v59 × v2) := .leaf [(([], ([(.ofNat 1)], ())), ((.negSucc 0), ())),
 (([(.ofNat 1)], ([(.ofNat 2)], ())), ((.negSucc 0), ()))]
theorem q1_84 : okH (pureKD Tryz.prog sigC 100000 ext0 40) 84 z59 z2 (t1_84 : HTr ((Ty.T z59) × (Ty.T z2))) = true := by kernel_rfl
def t1_85 : HTr (v54 × v58) := .node 371654 (.node 207289 (.leaf [((([(.ofNat 1)], (false, ())), ([(.ofNat 4)], ())), (([(.ofNat 4)], (false, ())), ())),
 ((([(.ofNat 1)], (false, ())), ([(.ofNat 8)], ())), (([(.ofNat 8)], (false, ())), ())),
 ((([(.ofNat 1)], (false, ())), ([(.ofNat 12)], ())), (([(.ofNat 12)], (false, ())), ())),
 ((([(.ofNat 1)], (false, ())), ([(.ofNat 24)], ())), (([(.ofNat 24)], (false, ())), ()))]) (.node 292550 (.leaf [((([(.ofNat 5)], (false, ())), ([(.ofNat 1)], ())), (([(.ofNat 5)], (false, ())), ())),
 ((([(.ofNat 7)], (false, ())), ([(.ofNat 1)], ())), (([(.ofNat 7)], (false, ())), ()))]) (.leaf [((([(.ofNat 11)], (false, ())), ([(.ofNat 1)], ())), (([(.ofNat 11)], (false, ())), ())),
 ((([], (false, ())), ([(.ofNat 2)], ())), (([], (false, ())), ())),
 ((([], (false, ())), ([(.ofNat 3)], ())), (([], (false, ())), ()))]))) (.node 380735 (.leaf [((([], (false, ())), ([(.ofNat 4)], ())), (([], (false, ())), ())),
 ((([], (false, ())), ([(.ofNat 6)], ())), (([], (false, ())), ())),
 ((([], (false, ())), ([(.ofNat 8)], ())), (([], (false, ())), ())),
 ((([], (false, ())), ([(.ofNat 12)], ())), (([], (false, ())), ()))]) (.node 401018 (.leaf [((([], (false, ())), ([(.ofNat 24)], ())), (([], (false, ())), ())),
 ((([(.ofNat 13)], (false, ())), ([(.ofNat 1)], ())), (([(.ofNat 13)], (false, ())), ()))]) (.leaf [((([(.ofNat 17)], (false, ())), ([(.ofNat 1)], ())), (([(.ofNat 17)], (false, ())), ())),
 ((([(.ofNat 19)], (false, ())), ([(.ofNat 1)], ())), (([(.ofNat 19)], (false, ())), ())),
 ((([(.ofNat 23)], (false, ())), ([(.ofNat 1)], ())), (([(.ofNat 23)], (false, ())), ()))])))
theorem q1_85 : okH (pureKD Tryz.prog sigC 100000 ext0 40) 85 z54 z58 (t1_85 : HTr ((Ty.T z54) × (Ty.T z58))) = true := by kernel_rfl
def t1_86 : HTr (v59 × v53) := .leaf [(([], ([(.ofNat 1)], ())), ([], ())),
 (([(.ofNat 1)], ([(.ofNat 1)], ())), ([(.ofNat 1)], ())),
 (([(.ofNat 65535)], ([(.ofNat 1)], ())), ([(.ofNat 65535)], ())),
 (([(.ofNat 223)], ([(.ofNat 1)], ())), ([(.ofNat 223)], ()))]
theorem q1_86 : okH (pureKD Tryz.prog sigC 100000 ext0 40) 86 z59 z53 (t1_86 : HTr ((Ty.T z59) × (Ty.T z53))) = true := by kernel_rfl
def t1_87 : HTr (v60 × v58) := .node 186101 (.leaf [((([(.ofNat 1)], (false, ())), (([], (false, ())), ())), (([(.ofNat 1)], (false, ())), ())),
 ((([], (false, ())), (([(.ofNat 1)], (false, ())), ())), (([(.ofNat 1)], (false, ())), ())),
 ((([(.ofNat 3)], (false, ())), (([], (false, ())), ())), (([(.ofNat 3)], (false, ())), ())),
 ((([(.ofNat 5)], (false, ())), (([], (false, ())), ())), (([(.ofNat 5)], (false, ())), ()))]) (.leaf [((([(.ofNat 7)], (false, ())), (([], (false, ())), ())), (([(.ofNat 7)], (false, ())), ())),
 ((([(.ofNat 11)], (false, ())), (([], (false, ())), ())), (([(.ofNat 11)], (false, ())), ())),
 ((([], (false, ())), (([], (false, ())), ())), (([], (false, ())), ())),
 ((([(.ofNat 1)], (false, ())), (([(.ofNat 1)], (true, ())), ())), (([], (false, ())), ()))])
theorem q1_87 : okH (pureKD Tryz.prog sigC 100000 ext0 40) 87 z60 z58 (t1_87 : HTr ((Ty.T z60) × (Ty.T z58))) = true := by kernel_rfl
def t1_89 : HTr (v53 × v53) := .leaf [(([(.ofNat 2000000), (.ofNat 0)], ()), ([(.ofNat 2000000)], ())),
 (([(.ofNat 2), (.ofNat 0)], ()), ([(.ofNat 2)], ())),
 (([(.ofNat 3), (.ofNat 0)], ()), ([(.ofNat 3)], ())),
 (([(.ofNat 6), (.ofNat 0)], ()), ([(.ofNat 6)], ()))]
theorem q1_89 : okH (pureKD Tryz.prog sigC 100000 ext0 40) 89 z53 z53 (t1_89 : HTr ((Ty.T z53) × (Ty.T z53))) = true := by kernel_rfl
def t1_98 : HTr (v59 × v59) := .node 455905 (.node 439929 (.leaf [(([], ([(.ofNat 2)], ())), ([], ([], ()))),
 (([], ([(.ofNat 4)], ())), ([], ([], ()))),
 (([(.ofNat 1000000)], ([(.ofNat 1000000)], ())), ([(.ofNat 1)], ([], ()))),
 (([(.ofNat 1)], ([(.ofNat 1)], ())), ([(.ofNat 1)], ([], ())))]) (.node 441947 (.leaf [(([(.ofNat 2)], ([(.ofNat 1)], ())), ([(.ofNat 2)], ([], ()))),
 (([(.ofNat 2)], ([(.ofNat 2)], ())), ([(.ofNat 1)], ([], ()))),
 (([(.ofNat 3)], ([(.ofNat 1)], ())), ([(.ofNat 3)], ([], ())))]) (.leaf [(([(.ofNat 4)], ([(.ofNat 1)], ())), ([(.ofNat 4)], ([], ()))),
 (([(.ofNat 4)], ([(.ofNat 4)], ())), ([(.ofNat 1)], ([], ()))),
 (([(.ofNat 1000)], ([(.ofNat 1000)], ())), ([(.ofNat 1)], ([], ())))]))) (.node 466163 (.leaf [(([(.ofNat 24)], ([(.ofNat 1)], ())), ([(.ofNat 24)], ([], ()))),
 (([(.ofNat 24)], ([(.ofNat 2)], ())), ([(.ofNat 12)], ([], ()))),
 (([(.ofNat 24)], ([(.ofNat 3)], ())), ([(.ofNat 8)], ([], ()))),
 (([(.ofNat 24)], ([(.ofNat 4)], ())), ([(.ofNat 6)], ([], ())))]) (.node 470199 (.leaf [(([(.ofNat 24)], ([(.ofNat 6)], ())), ([(.ofNat 4)], ([], ()))),
 (([(.ofNat 24)], ([(.ofNat 8)], ())), ([(.ofNat 3)], ([], ())))]) (.leaf [(([(.ofNat 24)], ([(.ofNat 24)], ())), ([(.ofNat 1)], ([], ()))),
 (([(.ofNat 65535)], ([(.ofNat 1)], ())), ([(.ofNat 65535)], ([], ()))),
 (([(.ofNat 65535)], ([(.ofNat 65535)], ())), ([(.ofNat 1)], ([], ())))])))
theorem q1_98 : okH (pureKD Tryz.prog sigC 100000 ext0 40) 98 z59 z59 (t1_98 : HTr ((Ty.T z59) × (Ty.T z59))) = true := by kernel_rfl
def t1_100 : HTr (v58 × v29) := .leaf [((([(.ofNat 5)], (false, ())), ()), ([53], ())),
 ((([(.ofNat 7)], (false, ())), ()), ([55], ())),
 ((([(.ofNat 11)], (false, ())), ()), ([49,49], ()))]
theorem q1_100 : okH (pureKD Tryz.prog sigC 100000 ext0 40) 100 z58 z29 (t1_100 : HTr ((Ty.T z58) × (Ty.T z29))) = true := by kernel_rfl
def t1_102 : HTr (v30 × v61) := .node 629958 (.node 535784 (.node 531748 (.leaf [(([49,48,48,48], ([45], ())), ([49,48,48,48], (false, ()))),
 (([45,54,53,53,51,53], ([45], ())), ([54,53,53,51,53], (true, ()))),
 (([54,53,53,51,53], ([45], ())), ([54,53,53,51,53], (false, ()))),
 (([48], ([45], ())), ([48], (false, ())))]) (.leaf [(([49], ([45], ())), ([49], (false, ()))),
 (([50], ([45], ())), ([50], (false, ()))),
 (([51], ([45], ())), ([51], (false, ()))),
 (([52], ([45], ())), ([52], (false, ())))])) (.node 539820 (.leaf [(([53], ([45], ())), ([53], (false, ()))),
 (([54], ([45], ())), ([54], (false, ()))),
 (([55], ([45], ())), ([55], (false, ()))),
 (([56], ([45], ())), ([56], (false, ())))]) (.leaf [(([57], ([45], ())), ([57], (false, ()))),
 (([49,48], ([45], ())), ([49,48], (false, ()))),
 (([50,48], ([45], ())), ([50,48], (false, ()))),
 (([45,49], ([45], ())), ([49], (true, ())))]))) (.node 727831 (.node 666282 (.leaf [(([49,49], ([45], ())), ([49,49], (false, ()))),
 (([50,49], ([45], ())), ([50,49], (false, ()))),
 (([49,50], ([45], ())), ([49,50], (false, ()))),
 (([50,50], ([45], ())), ([50,50], (false, ())))]) (.leaf [(([54,50,53], ([45], ())), ([54,50,53], (false, ()))),
 (([49,51], ([45], ())), ([49,51], (false, ()))),
 (([50,51], ([45], ())), ([50,51], (false, ()))),
 (([49,52], ([45], ())), ([49,52], (false, ())))])) (.node 759110 (.leaf [(([50,52], ([45], ())), ([50,52], (false, ()))),
 (([49,48,48,48,48,48,48], ([45], ())), ([49,48,48,48,48,48,48], (false, ()))),
 (([50,50,51], ([45], ())), ([50,50,51], (false, ()))),
 (([49,53], ([45], ())), ([49,53], (false, ())))]) (.leaf [(([49,54], ([45], ())), ([49,54], (false, ()))),
 (([49,55], ([45], ())), ([49,55], (false, ()))),
 (([49,56], ([45], ())), ([49,56], (false, ()))),
 (([49,57], ([45], ())), ([49,57], (false, ())))])))
theorem q1_102 : okH (pureKD Tryz.prog sigC 100000 ext0 40) 102 z30 z61 (t1_102 : HTr ((Ty.T z30) × (Ty.T z61))) = true := by kernel_rfl
def t1_114 : HTr (v56 × v56) := .leaf [(((([(.ofNat 1)], (false, ())), ([(.ofNat 1)], ())), ()), ((([(.ofNat 1)], (true, ())), ([(.ofNat 1)], ())), ())),
 (((([], (false, ())), ([(.ofNat 1)], ())), ()), ((([], (false, ())), ([(.ofNat 1)], ())), ()))]
theorem q1_114 : okH (pureKD Tryz.prog sigC 100000 ext0 40) 114 z56 z56 (t1_114 : HTr ((Ty.T z56) × (Ty.T z56))) = true := by kernel_rfl
def t1_133 : HTr (v29 × v53) := .leaf [(([54,53,53,51,53], ()), ([(.ofNat 65535)], ())),
 (([49], ()), ([(.ofNat 1)], ()))]
theorem q1_133 : okH (pureKD Tryz.prog sigC 100000 ext0 40) 133 z29 z53 (t1_133 : HTr ((Ty.T z29) × (Ty.T z53))) = true := by kernel_rfl
def t1_158 : HTr (v63 × v2) := .leaf [((((.ofNat 3), ([], ([((.ofNat 1000000), ((.ofNat 1000000), ((.ofNat 0), ((.ofNat 1), ((.ofNat 2), ((.ofNat 0), ()))))))], ()))), ()), ((.ofNat 0), ())),
 ((((.ofNat 2), ([(.ofNat 65535), (.ofNat 0)], ([], ()))), ()), ((.ofNat 0), ()))]
theorem q1_158 : okH (pureKD Tryz.prog sigC 100000 ext0 40) 158 z63 z2 (t1_158 : HTr ((Ty.T z63) × (Ty.T z2))) = true := by kernel_rfl
def r1_17 : RowH := ⟨17, z42, z2, t1_17⟩
theorem a1_17 : AtRow Tryz.prog (Gt Tryz.prog) r1_17 := at_row p0 q1_17
def r1_32 : RowH := ⟨32, z3, z2, t1_32⟩
theorem a1_32 : AtRow Tryz.prog (Gt Tryz.prog) r1_32 := at_row p0 q1_32
def r1_34 : RowH := ⟨34, z39, z46, t1_34⟩
theorem a1_34 : AtRow Tryz.prog (Gt Tryz.prog) r1_34 := at_row p0 q1_34
def r1_43 : RowH := ⟨43, z40, z3, t1_43⟩
theorem a1_43 : AtRow Tryz.prog (Gt Tryz.prog) r1_43 := at_row p0 q1_43
def r1_54 : RowH := ⟨54, z29, z53, t1_54⟩
theorem a1_54 : AtRow Tryz.prog (Gt Tryz.prog) r1_54 := at_row p0 q1_54
def r1_56 : RowH := ⟨56, z53, z29, t1_56⟩
theorem a1_56 : AtRow Tryz.prog (Gt Tryz.prog) r1_56 := at_row p0 q1_56
def r1_65 : RowH := ⟨65, z56, z39, t1_65⟩
theorem a1_65 : AtRow Tryz.prog (Gt Tryz.prog) r1_65 := at_row p0 q1_65
def r1_83 : RowH := ⟨83, z59, z53, t1_83⟩
theorem a1_83 : AtRow Tryz.prog (Gt Tryz.prog) r1_83 := at_row p0 q1_83
def r1_84 : RowH := ⟨84, z59, z2, t1_84⟩
theorem a1_84 : AtRow Tryz.prog (Gt Tryz.prog) r1_84 := at_row p0 q1_84
def r1_85 : RowH := ⟨85, z54, z58, t1_85⟩
theorem a1_85 : AtRow Tryz.prog (Gt Tryz.prog) r1_85 := at_row p0 q1_85
def r1_86 : RowH := ⟨86, z59, z53, t1_86⟩
theorem a1_86 : AtRow Tryz.prog (Gt Tryz.prog) r1_86 := at_row p0 q1_86
def r1_87 : RowH := ⟨87, z60, z58, t1_87⟩
theorem a1_87 : AtRow Tryz.prog (Gt Tryz.prog) r1_87 := at_row p0 q1_87
def r1_89 : RowH := ⟨89, z53, z53, t1_89⟩
theorem a1_89 : AtRow Tryz.prog (Gt Tryz.prog) r1_89 := at_row p0 q1_89
def r1_98 : RowH := ⟨98, z59, z59, t1_98⟩
theorem a1_98 : AtRow Tryz.prog (Gt Tryz.prog) r1_98 := at_row p0 q1_98
def r1_100 : RowH := ⟨100, z58, z29, t1_100⟩
theorem a1_100 : AtRow Tryz.prog (Gt Tryz.prog) r1_100 := at_row p0 q1_100
def r1_102 : RowH := ⟨102, z30, z61, t1_102⟩
theorem a1_102 : AtRow Tryz.prog (Gt Tryz.prog) r1_102 := at_row p0 q1_102
def r1_114 : RowH := ⟨114, z56, z56, t1_114⟩
theorem a1_114 : AtRow Tryz.prog (Gt Tryz.prog) r1_114 := at_row p0 q1_114
def r1_133 : RowH := ⟨133, z29, z53, t1_133⟩
theorem a1_133 : AtRow Tryz.prog (Gt Tryz.prog) r1_133 := at_row p0 q1_133
def r1_158 : RowH := ⟨158, z63, z2, t1_158⟩
theorem a1_158 : AtRow Tryz.prog (Gt Tryz.prog) r1_158 := at_row p0 q1_158
def rows1 : List RowH := [r1_85, r1_102, r1_56, r1_86, r1_43, r1_87, r1_98, r1_100, r1_83, r1_89, r1_84, r1_133, r1_158, r1_17, r1_32, r1_34, r1_54, r1_65, r1_114]
noncomputable def ext1 : PureT := firstR (extTabH rows1) ext0
theorem ext1_ok : PureOk Tryz.prog (Gt Tryz.prog) ext1 := layer_at (rows := rows1) ⟨a1_85, ⟨a1_102, ⟨a1_56, ⟨a1_86, ⟨a1_43, ⟨a1_87, ⟨a1_98, ⟨a1_100, ⟨a1_83, ⟨a1_89, ⟨a1_84, ⟨a1_133, ⟨a1_158, ⟨a1_17, ⟨a1_32, ⟨a1_34, ⟨a1_54, ⟨a1_65, ⟨a1_114, trivial⟩⟩⟩⟩⟩⟩⟩⟩⟩⟩⟩⟩⟩⟩⟩⟩⟩⟩⟩ ext0_ok
theorem p1 : PureOk Tryz.prog (Gt Tryz.prog) (pureKD Tryz.prog sigC 100000 ext1 40) := pure_at gmono mixed enterSig ext1_ok 100000 40
def t2_17 : HTr (v42 × v2) := .node 480071 (.leaf [(((((.ofNat 1), ([], ())), (((.ofNat 1), ([], ())), ())), ()), ((.ofNat 0), ())),
 (((((.ofNat 1), ([], ())), (((.ofNat 2), ([], ())), ())), ()), ((.ofNat 5), ())),
 (((((.ofNat 4), ([], ())), (((.ofNat 4), ([], ())), ())), ()), ((.ofNat 0), ()))]) (.leaf [(((((.ofNat 2), ([], ())), (((.ofNat 2), ([], ())), ())), ()), ((.ofNat 0), ())),
 (((((.ofNat 1), ([], ())), (((.ofNat 9), ([], ())), ())), ()), ((.ofNat 140), ())),
 (((((.ofNat 3), ([], ())), (((.ofNat 3), ([], ())), ())), ()), ((.ofNat 0), ()))])
theorem q2_17 : okH (pureKD Tryz.prog sigC 100000 ext1 40) 17 z42 z2 (t2_17 : HTr ((Ty.T z42) × (Ty.T z2))) = true := by kernel_rfl
def t2_59 : HTr (v57 × v2) := .node 565503 (.node 298633 (.node 115584 (.node 46796 (.leaf [(((([(.ofNat 13)], (false, ())), ([(.ofNat 24)], ())), ((([], (false, ())), ([(.ofNat 1)], ())), ())), ((.ofNat 1), ())),
 (((([(.ofNat 7)], (false, ())), ([(.ofNat 8)], ())), ((([(.ofNat 1)], (false, ())), ([(.ofNat 1)], ())), ())), ((.negSucc 0), ()))]) (.leaf [(((([(.ofNat 5)], (false, ())), ([(.ofNat 24)], ())), ((([], (false, ())), ([(.ofNat 1)], ())), ())), ((.ofNat 1), ())),
 (((([(.ofNat 11)], (false, ())), ([(.ofNat 12)], ())), ((([(.ofNat 1)], (false, ())), ([(.ofNat 1)], ())), ())), ((.negSucc 0), ())),
 (((([(.ofNat 1)], (false, ())), ([(.ofNat 24)], ())), ((([], (false, ())), ([(.ofNat 1)], ())), ())), ((.ofNat 1), ()))])) (.node 186400 (.leaf [(((([(.ofNat 7)], (false, ())), ([(.ofNat 12)], ())), ((([(.ofNat 1)], (false, ())), ([(.ofNat 1)], ())), ())), ((.negSucc 0), ())),
 (((([(.ofNat 23)], (false, ())), ([(.ofNat 24)], ())), ((([(.ofNat 1)], (false, ())), ([(.ofNat 1)], ())), ())), ((.negSucc 0), ()))]) (.leaf [(((([(.ofNat 19)], (false, ())), ([(.ofNat 24)], ())), ((([(.ofNat 1)], (false, ())), ([(.ofNat 1)], ())), ())), ((.negSucc 0), ())),
 (((([(.ofNat 7)], (false, ())), ([(.ofNat 8)], ())), ((([], (false, ())), ([(.ofNat 1)], ())), ())), ((.ofNat 1), ())),
 (((([(.ofNat 11)], (false, ())), ([(.ofNat 24)], ())), ((([(.ofNat 1)], (false, ())), ([(.ofNat 1)], ())), ())), ((.negSucc 0), ()))]))) (.node 447236 (.node 336044 (.leaf [(((([(.ofNat 11)], (false, ())), ([(.ofNat 12)], ())), ((([], (false, ())), ([(.ofNat 1)], ())), ())), ((.ofNat 1), ())),
 (((([(.ofNat 7)], (false, ())), ([(.ofNat 24)], ())), ((([(.ofNat 1)], (false, ())), ([(.ofNat 1)], ())), ())), ((.negSucc 0), ()))]) (.leaf [(((([(.ofNat 7)], (false, ())), ([(.ofNat 12)], ())), ((([], (false, ())), ([(.ofNat 1)], ())), ())), ((.ofNat 1), ())),
 (((([(.ofNat 23)], (false, ())), ([(.ofNat 24)], ())), ((([], (false, ())), ([(.ofNat 1)], ())), ())), ((.ofNat 1), ())),
 (((([(.ofNat 19)], (false, ())), ([(.ofNat 24)], ())), ((([], (false, ())), ([(.ofNat 1)], ())), ())), ((.ofNat 1), ()))])) (.node 522058 (.leaf [(((([(.ofNat 1)], (false, ())), ([(.ofNat 1)], ())), ((([(.ofNat 1)], (false, ())), ([(.ofNat 1)], ())), ())), ((.ofNat 0), ())),
 (((([(.ofNat 11)], (false, ())), ([(.ofNat 24)], ())), ((([], (false, ())), ([(.ofNat 1)], ())), ())), ((.ofNat 1), ()))]) (.leaf [(((([(.ofNat 1)], (false, ())), ([(.ofNat 4)], ())), ((([(.ofNat 1)], (false, ())), ([(.ofNat 1)], ())), ())), ((.negSucc 0), ())),
 (((([(.ofNat 7)], (false, ())), ([(.ofNat 24)], ())), ((([], (false, ())), ([(.ofNat 1)], ())), ())), ((.ofNat 1), ())),
 (((([(.ofNat 5)], (false, ())), ([(.ofNat 8)], ())), ((([(.ofNat 1)], (false, ())), ([(.ofNat 1)], ())), ())), ((.negSucc 0), ()))])))) (.node 779929 (.node 717871 (.node 637815 (.leaf [(((([(.ofNat 1)], (false, ())), ([(.ofNat 8)], ())), ((([(.ofNat 1)], (false, ())), ([(.ofNat 1)], ())), ())), ((.negSucc 0), ())),
 (((([(.ofNat 5)], (false, ())), ([(.ofNat 12)], ())), ((([(.ofNat 1)], (false, ())), ([(.ofNat 1)], ())), ())), ((.negSucc 0), ()))]) (.leaf [(((([(.ofNat 1)], (false, ())), ([(.ofNat 12)], ())), ((([(.ofNat 1)], (false, ())), ([(.ofNat 1)], ())), ())), ((.negSucc 0), ())),
 (((([(.ofNat 1)], (false, ())), ([(.ofNat 1)], ())), ((([], (false, ())), ([(.ofNat 1)], ())), ())), ((.ofNat 1), ())),
 (((([(.ofNat 1)], (false, ())), ([(.ofNat 2)], ())), ((([], (false, ())), ([(.ofNat 1)], ())), ())), ((.ofNat 1), ()))])) (.node 742518 (.leaf [(((([(.ofNat 1)], (false, ())), ([(.ofNat 3)], ())), ((([], (false, ())), ([(.ofNat 1)], ())), ())), ((.ofNat 1), ())),
 (((([(.ofNat 17)], (false, ())), ([(.ofNat 24)], ())), ((([(.ofNat 1)], (false, ())), ([(.ofNat 1)], ())), ())), ((.negSucc 0), ()))]) (.leaf [(((([(.ofNat 5)], (false, ())), ([(.ofNat 6)], ())), ((([], (false, ())), ([(.ofNat 1)], ())), ())), ((.ofNat 1), ())),
 (((([(.ofNat 1)], (false, ())), ([(.ofNat 4)], ())), ((([], (false, ())), ([(.ofNat 1)], ())), ())), ((.ofNat 1), ())),
 (((([(.ofNat 13)], (false, ())), ([(.ofNat 24)], ())), ((([(.ofNat 1)], (false, ())), ([(.ofNat 1)], ())), ())), ((.negSucc 0), ()))]))) (.node 861240 (.node 790183 (.leaf [(((([(.ofNat 5)], (false, ())), ([(.ofNat 8)], ())), ((([], (false, ())), ([(.ofNat 1)], ())), ())), ((.ofNat 1), ())),
 (((([(.ofNat 1)], (false, ())), ([(.ofNat 6)], ())), ((([], (false, ())), ([(.ofNat 1)], ())), ())), ((.ofNat 1), ()))]) (.leaf [(((([(.ofNat 1)], (false, ())), ([(.ofNat 8)], ())), ((([], (false, ())), ([(.ofNat 1)], ())), ())), ((.ofNat 1), ())),
 (((([(.ofNat 5)], (false, ())), ([(.ofNat 24)], ())), ((([(.ofNat 1)], (false, ())), ([(.ofNat 1)], ())), ())), ((.negSucc 0), ())),
 (((([(.ofNat 5)], (false, ())), ([(.ofNat 12)], ())), ((([], (false, ())), ([(.ofNat 1)], ())), ())), ((.ofNat 1), ()))])) (.node 898651 (.leaf [(((([(.ofNat 1)], (false, ())), ([(.ofNat 24)], ())), ((([(.ofNat 1)], (false, ())), ([(.ofNat 1)], ())), ())), ((.negSucc 0), ())),
 (((([(.ofNat 1)], (false, ())), ([(.ofNat 12)], ())), ((([], (false, ())), ([(.ofNat 1)], ())), ())), ((.ofNat 1), ()))]) (.leaf [(((([], (false, ())), ([(.ofNat 1)], ())), ((([], (false, ())), ([(.ofNat 1)], ())), ())), ((.ofNat 0), ())),
 (((([(.ofNat 223)], (false, ())), ([(.ofNat 1000)], ())), ((([(.ofNat 1)], (false, ())), ([(.ofNat 1)], ())), ())), ((.negSucc 0), ())),
 (((([(.ofNat 17)], (false, ())), ([(.ofNat 24)], ())), ((([], (false, ())), ([(.ofNat 1)], ())), ())), ((.ofNat 1), ()))]))))
theorem q2_59 : okH (pureKD Tryz.prog sigC 100000 ext1 40) 59 z57 z2 (t2_59 : HTr ((Ty.T z57) × (Ty.T z2))) = true := by kernel_rfl
def t2_62 : HTr (v57 × v56) := .leaf [(((([], (false, ())), ([(.ofNat 1)], ())), ((([(.ofNat 1)], (false, ())), ([(.ofNat 1)], ())), ())), ((([], (false, ())), ([(.ofNat 1)], ())), ()))]
theorem q2_62 : okH (pureKD Tryz.prog sigC 100000 ext1 40) 62 z57 z56 (t2_62 : HTr ((Ty.T z57) × (Ty.T z56))) = true := by kernel_rfl
def t2_65 : HTr (v56 × v39) := .node 485631 (.node 273715 (.node 41746 (.leaf [(((([(.ofNat 17)], (false, ())), ([(.ofNat 24)], ())), ()), (([49,55], ([50,52], ())), ((.ofNat 0), ()))),
 (((([(.ofNat 2)], (false, ())), ([(.ofNat 3)], ())), ()), (([50], ([51], ())), ((.ofNat 0), ()))),
 (((([(.ofNat 13)], (false, ())), ([(.ofNat 24)], ())), ()), (([49,51], ([50,52], ())), ((.ofNat 0), ())))]) (.leaf [(((([(.ofNat 5)], (false, ())), ([(.ofNat 24)], ())), ()), (([53], ([50,52], ())), ((.ofNat 0), ()))),
 (((([(.ofNat 1)], (false, ())), ([(.ofNat 24)], ())), ()), (([49], ([50,52], ())), ((.ofNat 0), ()))),
 (((([(.ofNat 3)], (false, ())), ([(.ofNat 4)], ())), ()), (([51], ([52], ())), ((.ofNat 0), ())))])) (.node 343517 (.leaf [(((([(.ofNat 7)], (false, ())), ([(.ofNat 8)], ())), ()), (([55], ([56], ())), ((.ofNat 0), ()))),
 (((([(.ofNat 65535)], (false, ())), ([(.ofNat 1)], ())), ()), (([54,53,53,51,53], ([49], ())), ((.ofNat 0), ()))),
 (((([(.ofNat 11)], (false, ())), ([(.ofNat 12)], ())), ()), (([49,49], ([49,50], ())), ((.ofNat 0), ())))]) (.leaf [(((([(.ofNat 3)], (false, ())), ([(.ofNat 8)], ())), ()), (([51], ([56], ())), ((.ofNat 0), ()))),
 (((([(.ofNat 7)], (false, ())), ([(.ofNat 12)], ())), ()), (([55], ([49,50], ())), ((.ofNat 0), ()))),
 (((([(.ofNat 23)], (false, ())), ([(.ofNat 24)], ())), ()), (([50,51], ([50,52], ())), ((.ofNat 0), ()))),
 (((([(.ofNat 19)], (false, ())), ([(.ofNat 24)], ())), ()), (([49,57], ([50,52], ())), ((.ofNat 0), ())))]))) (.node 791167 (.node 597864 (.leaf [(((([(.ofNat 65535)], (true, ())), ([(.ofNat 1)], ())), ()), (([45,54,53,53,51,53], ([49], ())), ((.ofNat 0), ()))),
 (((([(.ofNat 11)], (false, ())), ([(.ofNat 24)], ())), ()), (([49,49], ([50,52], ())), ((.ofNat 0), ()))),
 (((([(.ofNat 7)], (false, ())), ([(.ofNat 24)], ())), ()), (([55], ([50,52], ())), ((.ofNat 0), ())))]) (.leaf [(((([(.ofNat 1)], (false, ())), ([(.ofNat 1)], ())), ()), (([49], ([49], ())), ((.ofNat 0), ()))),
 (((([(.ofNat 1)], (false, ())), ([(.ofNat 2)], ())), ()), (([49], ([50], ())), ((.ofNat 0), ()))),
 (((([(.ofNat 1)], (false, ())), ([(.ofNat 3)], ())), ()), (([49], ([51], ())), ((.ofNat 0), ()))),
 (((([(.ofNat 5)], (false, ())), ([(.ofNat 6)], ())), ()), (([53], ([54], ())), ((.ofNat 0), ())))])) (.node 828578 (.leaf [(((([(.ofNat 1)], (false, ())), ([(.ofNat 4)], ())), ()), (([49], ([52], ())), ((.ofNat 0), ()))),
 (((([(.ofNat 5)], (false, ())), ([(.ofNat 8)], ())), ()), (([53], ([56], ())), ((.ofNat 0), ()))),
 (((([(.ofNat 1)], (false, ())), ([(.ofNat 6)], ())), ()), (([49], ([54], ())), ((.ofNat 0), ())))]) (.leaf [(((([(.ofNat 1)], (false, ())), ([(.ofNat 8)], ())), ()), (([49], ([56], ())), ((.ofNat 0), ()))),
 (((([(.ofNat 5)], (false, ())), ([(.ofNat 12)], ())), ()), (([53], ([49,50], ())), ((.ofNat 0), ()))),
 (((([(.ofNat 1)], (false, ())), ([(.ofNat 12)], ())), ()), (([49], ([49,50], ())), ((.ofNat 0), ()))),
 (((([], (false, ())), ([(.ofNat 1)], ())), ()), (([48], ([49], ())), ((.ofNat 0), ())))])))
theorem q2_65 : okH (pureKD Tryz.prog sigC 100000 ext1 40) 65 z56 z39 (t2_65 : HTr ((Ty.T z56) × (Ty.T z39))) = true := by kernel_rfl
def t2_66 : HTr (v57 × v56) := .leaf [(((([(.ofNat 1)], (false, ())), ([(.ofNat 1)], ())), ((([], (false, ())), ([(.ofNat 1)], ())), ())), ((([(.ofNat 1)], (false, ())), ([(.ofNat 1)], ())), ())),
 (((([], (false, ())), ([(.ofNat 1)], ())), ((([], (false, ())), ([(.ofNat 1)], ())), ())), ((([], (false, ())), ([(.ofNat 1)], ())), ()))]
theorem q2_66 : okH (pureKD Tryz.prog sigC 100000 ext1 40) 66 z57 z56 (t2_66 : HTr ((Ty.T z57) × (Ty.T z56))) = true := by kernel_rfl
def t2_68 : HTr (v29 × v2) := .node 276471 (.node 270417 (.node 267390 (.leaf [(([54,53,53,51,53], ()), ((.ofNat 0), ())),
 (([48], ()), ((.ofNat 0), ()))]) (.leaf [(([49], ()), ((.ofNat 0), ())),
 (([50], ()), ((.ofNat 0), ())),
 (([51], ()), ((.ofNat 0), ()))])) (.node 273444 (.leaf [(([52], ()), ((.ofNat 0), ())),
 (([53], ()), ((.ofNat 0), ())),
 (([54], ()), ((.ofNat 0), ()))]) (.leaf [(([55], ()), ((.ofNat 0), ())),
 (([56], ()), ((.ofNat 0), ())),
 (([57], ()), ((.ofNat 0), ()))]))) (.node 464482 (.node 422882 (.leaf [(([49,49], ()), ((.ofNat 0), ())),
 (([49,50], ()), ((.ofNat 0), ())),
 (([54,50,53], ()), ((.ofNat 0), ()))]) (.leaf [(([49,51], ()), ((.ofNat 0), ())),
 (([50,51], ()), ((.ofNat 0), ())),
 (([50,52], ()), ((.ofNat 0), ()))])) (.node 557310 (.leaf [(([49,48,48,48,48,48,48], ()), ((.ofNat 0), ())),
 (([50,50,51], ()), ((.ofNat 0), ())),
 (([49,55], ()), ((.ofNat 0), ()))]) (.leaf [(([49,57], ()), ((.ofNat 0), ())),
 (([49,48,48,48], ()), ((.ofNat 0), ())),
 (([45,54,53,53,51,53], ()), ((.ofNat 0), ()))])))
theorem q2_68 : okH (pureKD Tryz.prog sigC 100000 ext1 40) 68 z29 z2 (t2_68 : HTr ((Ty.T z29) × (Ty.T z2))) = true := by kernel_rfl
def t2_69 : HTr (v29 × v58) := .node 276471 (.node 271426 (.leaf [(([48], ()), (([], (false, ())), ())),
 (([50], ()), (([(.ofNat 2)], (false, ())), ())),
 (([51], ()), (([(.ofNat 3)], (false, ())), ())),
 (([52], ()), (([(.ofNat 4)], (false, ())), ()))]) (.node 273444 (.leaf [(([53], ()), (([(.ofNat 5)], (false, ())), ())),
 (([54], ()), (([(.ofNat 6)], (false, ())), ()))]) (.leaf [(([55], ()), (([(.ofNat 7)], (false, ())), ())),
 (([56], ()), (([(.ofNat 8)], (false, ())), ())),
 (([57], ()), (([(.ofNat 9)], (false, ())), ()))]))) (.node 433203 (.node 400915 (.leaf [(([49,49], ()), (([(.ofNat 11)], (false, ())), ())),
 (([49,50], ()), (([(.ofNat 12)], (false, ())), ()))]) (.leaf [(([54,50,53], ()), (([(.ofNat 625)], (false, ())), ())),
 (([49,51], ()), (([(.ofNat 13)], (false, ())), ())),
 (([50,51], ()), (([(.ofNat 23)], (false, ())), ()))])) (.node 479554 (.leaf [(([50,52], ()), (([(.ofNat 24)], (false, ())), ())),
 (([50,50,51], ()), (([(.ofNat 223)], (false, ())), ()))]) (.leaf [(([49,55], ()), (([(.ofNat 17)], (false, ())), ())),
 (([49,57], ()), (([(.ofNat 19)], (false, ())), ())),
 (([49,48,48,48], ()), (([(.ofNat 1000)], (false, ())), ()))])))
theorem q2_69 : okH (pureKD Tryz.prog sigC 100000 ext1 40) 69 z29 z58 (t2_69 : HTr ((Ty.T z29) × (Ty.T z58))) = true := by kernel_rfl
def t2_85 : HTr (v54 × v58) := .leaf [((([(.ofNat 1)], (false, ())), ([(.ofNat 6)], ())), (([(.ofNat 6)], (false, ())), ())),
 ((([(.ofNat 1)], (true, ())), ([(.ofNat 1)], ())), (([(.ofNat 1)], (true, ())), ())),
 ((([(.ofNat 65535)], (true, ())), ([(.ofNat 1)], ())), (([(.ofNat 65535)], (true, ())), ()))]
theorem q2_85 : okH (pureKD Tryz.prog sigC 100000 ext1 40) 85 z54 z58 (t2_85 : HTr ((Ty.T z54) × (Ty.T z58))) = true := by kernel_rfl
def t2_86 : HTr (v59 × v53) := .node 436902 (.leaf [(([(.ofNat 1000000)], ([(.ofNat 2)], ())), ([(.ofNat 2000000)], ()))]) (.leaf [(([(.ofNat 1)], ([(.ofNat 2)], ())), ([(.ofNat 2)], ())),
 (([(.ofNat 2)], ([(.ofNat 1)], ())), ([(.ofNat 2)], ())),
 (([(.ofNat 1)], ([(.ofNat 3)], ())), ([(.ofNat 3)], ())),
 (([(.ofNat 3)], ([(.ofNat 1)], ())), ([(.ofNat 3)], ()))])
theorem q2_86 : okH (pureKD Tryz.prog sigC 100000 ext1 40) 86 z59 z53 (t2_86 : HTr ((Ty.T z59) × (Ty.T z53))) = true := by kernel_rfl
def t2_87 : HTr (v60 × v58) := .leaf [((([], (false, ())), (([(.ofNat 1)], (true, ())), ())), (([(.ofNat 1)], (true, ())), ()))]
theorem q2_87 : okH (pureKD Tryz.prog sigC 100000 ext1 40) 87 z60 z58 (t2_87 : HTr ((Ty.T z60) × (Ty.T z58))) = true := by kernel_rfl
def t2_88 : HTr (v54 × v58) := .leaf [((([(.ofNat 1)], (false, ())), ([(.ofNat 2)], ())), (([], (false, ())), ()))]
theorem q2_88 : okH (pureKD Tryz.prog sigC 100000 ext1 40) 88 z54 z58 (t2_88 : HTr ((Ty.T z54) × (Ty.T z58))) = true := by kernel_rfl
def t2_135 : HTr (v62 × v2) := .leaf [((((.ofNat 1), ([((.ofNat 3), ([], ([((.ofNat 1000000), ((.ofNat 1000000), ((.ofNat 0), ((.ofNat 1), ((.ofNat 2), ((.ofNat 0), ()))))))], ())))], ([], ([], (([], ((.ofNat 0), ([], ()))), ([], ((.ofNat 0), ((.ofNat 0), ())))))))), ()), ((.ofNat 0), ())),
 ((((.ofNat 1), ([((.ofNat 2), ([(.ofNat 65535), (.ofNat 0)], ([], ())))], ([], ([], (([], ((.ofNat 0), ([], ()))), ([], ((.ofNat 0), ((.ofNat 0), ())))))))), ()), ((.ofNat 0), ()))]
theorem q2_135 : okH (pureKD Tryz.prog sigC 100000 ext1 40) 135 z62 z2 (t2_135 : HTr ((Ty.T z62) × (Ty.T z2))) = true := by kernel_rfl
def r2_17 : RowH := ⟨17, z42, z2, t2_17⟩
theorem a2_17 : AtRow Tryz.prog (Gt Tryz.prog) r2_17 := at_row p1 q2_17
def R2_17 : RowH := RowH.or r1_17 t2_17
theorem b2_17 : AtRow Tryz.prog (Gt Tryz.prog) R2_17 := at_or a1_17 a2_17
def r2_59 : RowH := ⟨59, z57, z2, t2_59⟩
theorem a2_59 : AtRow Tryz.prog (Gt Tryz.prog) r2_59 := at_row p1 q2_59
def r2_62 : RowH := ⟨62, z57, z56, t2_62⟩
theorem a2_62 : AtRow Tryz.prog (Gt Tryz.prog) r2_62 := at_row p1 q2_62
def r2_65 : RowH := ⟨65, z56, z39, t2_65⟩
theorem a2_65 : AtRow Tryz.prog (Gt Tryz.prog) r2_65 := at_row p1 q2_65
def R2_65 : RowH := RowH.or r1_65 t2_65
theorem b2_65 : AtRow Tryz.prog (Gt Tryz.prog) R2_65 := at_or a1_65 a2_65
def r2_66 : RowH := ⟨66, z57, z56, t2_66⟩
theorem a2_66 : AtRow Tryz.prog (Gt Tryz.prog) r2_66 := at_row p1 q2_66
def r2_68 : RowH := ⟨68, z29, z2, t2_68⟩
theorem a2_68 : AtRow Tryz.prog (Gt Tryz.prog) r2_68 := at_row p1 q2_68
def r2_69 : RowH := ⟨69, z29, z58, t2_69⟩
theorem a2_69 : AtRow Tryz.prog (Gt Tryz.prog) r2_69 := at_row p1 q2_69
def r2_85 : RowH := ⟨85, z54, z58, t2_85⟩
theorem a2_85 : AtRow Tryz.prog (Gt Tryz.prog) r2_85 := at_row p1 q2_85
def R2_85 : RowH := RowH.or r1_85 t2_85
theorem b2_85 : AtRow Tryz.prog (Gt Tryz.prog) R2_85 := at_or a1_85 a2_85
def r2_86 : RowH := ⟨86, z59, z53, t2_86⟩
theorem a2_86 : AtRow Tryz.prog (Gt Tryz.prog) r2_86 := at_row p1 q2_86
def R2_86 : RowH := RowH.or r1_86 t2_86
theorem b2_86 : AtRow Tryz.prog (Gt Tryz.prog) R2_86 := at_or a1_86 a2_86
def r2_87 : RowH := ⟨87, z60, z58, t2_87⟩
theorem a2_87 : AtRow Tryz.prog (Gt Tryz.prog) r2_87 := at_row p1 q2_87
def R2_87 : RowH := RowH.or r1_87 t2_87
theorem b2_87 : AtRow Tryz.prog (Gt Tryz.prog) R2_87 := at_or a1_87 a2_87
def r2_88 : RowH := ⟨88, z54, z58, t2_88⟩
theorem a2_88 : AtRow Tryz.prog (Gt Tryz.prog) r2_88 := at_row p1 q2_88
def r2_135 : RowH := ⟨135, z62, z2, t2_135⟩
theorem a2_135 : AtRow Tryz.prog (Gt Tryz.prog) r2_135 := at_row p1 q2_135
def rows2 : List RowH := [r2_68, r2_69, r1_98, r1_102, r1_83, R2_65, r1_54, R2_86, R2_85, r2_135, r1_56, R2_87, r1_84, r1_133, R2_17, r1_32, r1_34, r1_43, r1_89, r1_100, r1_114, r1_158, r2_59, r2_62, r2_66, r2_88]
noncomputable def ext2 : PureT := firstR (extTabH rows2) ext0
theorem ext2_ok : PureOk Tryz.prog (Gt Tryz.prog) ext2 := layer_at (rows := rows2) ⟨a2_68, ⟨a2_69, ⟨a1_98, ⟨a1_102, ⟨a1_83, ⟨b2_65, ⟨a1_54, ⟨b2_86, ⟨b2_85, ⟨a2_135, ⟨a1_56, ⟨b2_87, ⟨a1_84, ⟨a1_133, ⟨b2_17, ⟨a1_32, ⟨a1_34, ⟨a1_43, ⟨a1_89, ⟨a1_100, ⟨a1_114, ⟨a1_158, ⟨a2_59, ⟨a2_62, ⟨a2_66, ⟨a2_88, trivial⟩⟩⟩⟩⟩⟩⟩⟩⟩⟩⟩⟩⟩⟩⟩⟩⟩⟩⟩⟩⟩⟩⟩⟩⟩⟩ ext0_ok
theorem p2 : PureOk Tryz.prog (Gt Tryz.prog) (pureKD Tryz.prog sigC 100000 ext2 40) := pure_at gmono mixed enterSig ext2_ok 100000 40
def t3_14 : HTr (v3 × v39) := .node 32293 (.node 8077 (.node 4041 (.node 2023 (.leaf [(((.ofNat 0), ((.ofNat 1), ())), (([48], ([49], ())), ((.ofNat 0), ()))),
 (((.ofNat 0), ((.ofNat 2), ())), (([48], ([49], ())), ((.ofNat 0), ()))),
 (((.ofNat 1), ((.ofNat 1), ())), (([49], ([49], ())), ((.ofNat 0), ())))]) (.leaf [(((.ofNat 1), ((.ofNat 2), ())), (([49], ([50], ())), ((.ofNat 0), ()))),
 (((.ofNat 2), ((.ofNat 2), ())), (([49], ([49], ())), ((.ofNat 0), ()))),
 (((.ofNat 0), ((.ofNat 4), ())), (([48], ([49], ())), ((.ofNat 0), ())))])) (.leaf [(((.ofNat 1), ((.ofNat 4), ())), (([49], ([52], ())), ((.ofNat 0), ()))),
 (((.ofNat 2), ((.ofNat 4), ())), (([49], ([50], ())), ((.ofNat 0), ()))),
 (((.ofNat 3), ((.ofNat 4), ())), (([51], ([52], ())), ((.ofNat 0), ()))),
 (((.ofNat 4), ((.ofNat 4), ())), (([49], ([49], ())), ((.ofNat 0), ())))])) (.node 27248 (.leaf [(((.ofNat 0), ((.ofNat 24), ())), (([48], ([49], ())), ((.ofNat 0), ()))),
 (((.ofNat 1), ((.ofNat 24), ())), (([49], ([50,52], ())), ((.ofNat 0), ()))),
 (((.ofNat 2), ((.ofNat 24), ())), (([49], ([49,50], ())), ((.ofNat 0), ()))),
 (((.ofNat 3), ((.ofNat 24), ())), (([49], ([56], ())), ((.ofNat 0), ())))]) (.node 29266 (.leaf [(((.ofNat 4), ((.ofNat 24), ())), (([49], ([54], ())), ((.ofNat 0), ()))),
 (((.ofNat 5), ((.ofNat 24), ())), (([53], ([50,52], ())), ((.ofNat 0), ())))]) (.leaf [(((.ofNat 6), ((.ofNat 24), ())), (([49], ([52], ())), ((.ofNat 0), ()))),
 (((.ofNat 7), ((.ofNat 24), ())), (([55], ([50,52], ())), ((.ofNat 0), ()))),
 (((.ofNat 8), ((.ofNat 24), ())), (([49], ([51], ())), ((.ofNat 0), ())))])))) (.node 40365 (.node 36329 (.leaf [(((.ofNat 9), ((.ofNat 24), ())), (([51], ([56], ())), ((.ofNat 0), ()))),
 (((.ofNat 10), ((.ofNat 24), ())), (([53], ([49,50], ())), ((.ofNat 0), ()))),
 (((.ofNat 11), ((.ofNat 24), ())), (([49,49], ([50,52], ())), ((.ofNat 0), ()))),
 (((.ofNat 12), ((.ofNat 24), ())), (([49], ([50], ())), ((.ofNat 0), ())))]) (.leaf [(((.ofNat 13), ((.ofNat 24), ())), (([49,51], ([50,52], ())), ((.ofNat 0), ()))),
 (((.ofNat 14), ((.ofNat 24), ())), (([55], ([49,50], ())), ((.ofNat 0), ()))),
 (((.ofNat 15), ((.ofNat 24), ())), (([53], ([56], ())), ((.ofNat 0), ()))),
 (((.ofNat 16), ((.ofNat 24), ())), (([50], ([51], ())), ((.ofNat 0), ())))])) (.node 44401 (.leaf [(((.ofNat 17), ((.ofNat 24), ())), (([49,55], ([50,52], ())), ((.ofNat 0), ()))),
 (((.ofNat 18), ((.ofNat 24), ())), (([51], ([52], ())), ((.ofNat 0), ()))),
 (((.ofNat 19), ((.ofNat 24), ())), (([49,57], ([50,52], ())), ((.ofNat 0), ()))),
 (((.ofNat 20), ((.ofNat 24), ())), (([53], ([54], ())), ((.ofNat 0), ())))]) (.node 46419 (.leaf [(((.ofNat 21), ((.ofNat 24), ())), (([55], ([56], ())), ((.ofNat 0), ()))),
 (((.ofNat 22), ((.ofNat 24), ())), (([49,49], ([49,50], ())), ((.ofNat 0), ())))]) (.leaf [(((.ofNat 23), ((.ofNat 24), ())), (([50,51], ([50,52], ())), ((.ofNat 0), ()))),
 (((.ofNat 24), ((.ofNat 24), ())), (([49], ([49], ())), ((.ofNat 0), ()))),
 (((.ofNat 223), ((.ofNat 1000), ())), (([50,50,51], ([49,48,48,48], ())), ((.ofNat 0), ())))]))))
theorem q3_14 : okH (pureKD Tryz.prog sigC 100000 ext2 40) 14 z3 z39 (t3_14 : HTr ((Ty.T z3) × (Ty.T z39))) = true := by kernel_rfl
def t3_31 : HTr (v2 × v46) := .leaf [(((.ofNat 3), ()), (([51], ([49], ())), ())),
 (((.ofNat 9), ()), (([57], ([49], ())), ())),
 (((.ofNat 625), ()), (([54,50,53], ([49], ())), ()))]
theorem q3_31 : okH (pureKD Tryz.prog sigC 100000 ext2 40) 31 z2 z46 (t3_31 : HTr ((Ty.T z2) × (Ty.T z46))) = true := by kernel_rfl
def t3_36 : HTr (v47 × v39) := .leaf [((([50], ([49], ())), (([51], ([49], ())), ())), (([50], ([51], ())), ((.ofNat 0), ())))]
theorem q3_36 : okH (pureKD Tryz.prog sigC 100000 ext2 40) 36 z47 z39 (t3_36 : HTr ((Ty.T z47) × (Ty.T z39))) = true := by kernel_rfl
def t3_43 : HTr (v40 × v3) := .leaf [((((.ofNat 1), ([((.ofNat 1), ([((.ofNat 2), ([(.ofNat 65535), (.ofNat 0)], ([], ())))], ([], ([], (([], ((.ofNat 0), ([], ()))), ([], ((.ofNat 0), ((.ofNat 0), ()))))))))], ())), ()), ((.ofNat 1), ((.ofNat 0), ()))),
 ((((.ofNat 1), ([((.ofNat 1), ([((.ofNat 3), ([], ([((.ofNat 1000000), ((.ofNat 1000000), ((.ofNat 0), ((.ofNat 1), ((.ofNat 2), ((.ofNat 0), ()))))))], ())))], ([], ([], (([], ((.ofNat 0), ([], ()))), ([], ((.ofNat 0), ((.ofNat 0), ()))))))))], ())), ()), ((.ofNat 1), ((.ofNat 0), ())))]
theorem q3_43 : okH (pureKD Tryz.prog sigC 100000 ext2 40) 43 z40 z3 (t3_43 : HTr ((Ty.T z40) × (Ty.T z3))) = true := by kernel_rfl
def t3_47 : HTr (v46 × v39) := .leaf [((([45,49], ([49], ())), ()), (([49], ([49], ())), ((.ofNat 0), ())))]
theorem q3_47 : okH (pureKD Tryz.prog sigC 100000 ext2 40) 47 z46 z39 (t3_47 : HTr ((Ty.T z46) × (Ty.T z39))) = true := by kernel_rfl
def t3_52 : HTr (v46 × v55) := .node 622519 (.node 469672 (.node 387802 (.leaf [((([49,57], ([50,52], ())), ()), ((([(.ofNat 19)], (false, ())), ([(.ofNat 24)], ())), (true, ()))),
 ((([49], ([49,50], ())), ()), ((([(.ofNat 1)], (false, ())), ([(.ofNat 12)], ())), (true, ()))),
 ((([45,54,53,53,51,53], ([49], ())), ()), ((([(.ofNat 65535)], (true, ())), ([(.ofNat 1)], ())), (true, ())))]) (.leaf [((([53], ([49,50], ())), ()), ((([(.ofNat 5)], (false, ())), ([(.ofNat 12)], ())), (true, ()))),
 ((([55], ([49,50], ())), ()), ((([(.ofNat 7)], (false, ())), ([(.ofNat 12)], ())), (true, ()))),
 ((([49], ([50,52], ())), ()), ((([(.ofNat 1)], (false, ())), ([(.ofNat 24)], ())), (true, ())))])) (.node 578140 (.leaf [((([49,49], ([49,50], ())), ()), ((([(.ofNat 11)], (false, ())), ([(.ofNat 12)], ())), (true, ()))),
 ((([53], ([50,52], ())), ()), ((([(.ofNat 5)], (false, ())), ([(.ofNat 24)], ())), (true, ()))),
 ((([55], ([50,52], ())), ()), ((([(.ofNat 7)], (false, ())), ([(.ofNat 24)], ())), (true, ())))]) (.leaf [((([48], ([49], ())), ()), ((([], (false, ())), ([(.ofNat 1)], ())), (true, ()))),
 ((([49,49], ([50,52], ())), ()), ((([(.ofNat 11)], (false, ())), ([(.ofNat 24)], ())), (true, ()))),
 ((([49], ([49], ())), ()), ((([(.ofNat 1)], (false, ())), ([(.ofNat 1)], ())), (true, ())))]))) (.node 738332 (.node 676753 (.leaf [((([49], ([50], ())), ()), ((([(.ofNat 1)], (false, ())), ([(.ofNat 2)], ())), (true, ()))),
 ((([49], ([51], ())), ()), ((([(.ofNat 1)], (false, ())), ([(.ofNat 3)], ())), (true, ()))),
 ((([50], ([51], ())), ()), ((([(.ofNat 2)], (false, ())), ([(.ofNat 3)], ())), (true, ()))),
 ((([49], ([52], ())), ()), ((([(.ofNat 1)], (false, ())), ([(.ofNat 4)], ())), (true, ())))]) (.leaf [((([54,53,53,51,53], ([49], ())), ()), ((([(.ofNat 65535)], (false, ())), ([(.ofNat 1)], ())), (true, ()))),
 ((([49], ([54], ())), ()), ((([(.ofNat 1)], (false, ())), ([(.ofNat 6)], ())), (true, ()))),
 ((([51], ([52], ())), ()), ((([(.ofNat 3)], (false, ())), ([(.ofNat 4)], ())), (true, ()))),
 ((([49,51], ([50,52], ())), ()), ((([(.ofNat 13)], (false, ())), ([(.ofNat 24)], ())), (true, ())))])) (.node 785221 (.leaf [((([49], ([56], ())), ()), ((([(.ofNat 1)], (false, ())), ([(.ofNat 8)], ())), (true, ()))),
 ((([50,51], ([50,52], ())), ()), ((([(.ofNat 23)], (false, ())), ([(.ofNat 24)], ())), (true, ()))),
 ((([51], ([56], ())), ()), ((([(.ofNat 3)], (false, ())), ([(.ofNat 8)], ())), (true, ()))),
 ((([53], ([54], ())), ()), ((([(.ofNat 5)], (false, ())), ([(.ofNat 6)], ())), (true, ())))]) (.leaf [((([53], ([56], ())), ()), ((([(.ofNat 5)], (false, ())), ([(.ofNat 8)], ())), (true, ()))),
 ((([55], ([56], ())), ()), ((([(.ofNat 7)], (false, ())), ([(.ofNat 8)], ())), (true, ()))),
 ((([50,50,51], ([49,48,48,48], ())), ()), ((([(.ofNat 223)], (false, ())), ([(.ofNat 1000)], ())), (true, ()))),
 ((([49,55], ([50,52], ())), ()), ((([(.ofNat 17)], (false, ())), ([(.ofNat 24)], ())), (true, ())))])))
theorem q3_52 : okH (pureKD Tryz.prog sigC 100000 ext2 40) 52 z46 z55 (t3_52 : HTr ((Ty.T z46) × (Ty.T z55))) = true := by kernel_rfl
def t3_59 : HTr (v57 × v2) := .node 494446 (.node 84207 (.leaf [(((([(.ofNat 3)], (false, ())), ([(.ofNat 4)], ())), ((([(.ofNat 1)], (false, ())), ([(.ofNat 1)], ())), ())), ((.negSucc 0), ())),
 (((([(.ofNat 3)], (false, ())), ([(.ofNat 8)], ())), ((([(.ofNat 1)], (false, ())), ([(.ofNat 1)], ())), ())), ((.negSucc 0), ()))]) (.leaf [(((([(.ofNat 3)], (false, ())), ([(.ofNat 4)], ())), ((([], (false, ())), ([(.ofNat 1)], ())), ())), ((.ofNat 1), ())),
 (((([(.ofNat 3)], (false, ())), ([(.ofNat 8)], ())), ((([], (false, ())), ([(.ofNat 1)], ())), ())), ((.ofNat 1), ())),
 (((([(.ofNat 1)], (false, ())), ([(.ofNat 2)], ())), ((([(.ofNat 1)], (false, ())), ([(.ofNat 1)], ())), ())), ((.negSucc 0), ()))])) (.node 566758 (.leaf [(((([(.ofNat 1)], (false, ())), ([(.ofNat 3)], ())), ((([(.ofNat 1)], (false, ())), ([(.ofNat 1)], ())), ())), ((.negSucc 0), ())),
 (((([(.ofNat 5)], (false, ())), ([(.ofNat 6)], ())), ((([(.ofNat 1)], (false, ())), ([(.ofNat 1)], ())), ())), ((.negSucc 0), ())),
 (((([(.ofNat 1)], (false, ())), ([(.ofNat 6)], ())), ((([(.ofNat 1)], (false, ())), ([(.ofNat 1)], ())), ())), ((.negSucc 0), ()))]) (.leaf [(((([], (false, ())), ([(.ofNat 1)], ())), ((([(.ofNat 1)], (false, ())), ([(.ofNat 1)], ())), ())), ((.negSucc 0), ())),
 (((([(.ofNat 2)], (false, ())), ([(.ofNat 3)], ())), ((([(.ofNat 1)], (false, ())), ([(.ofNat 1)], ())), ())), ((.negSucc 0), ())),
 (((([(.ofNat 2)], (false, ())), ([(.ofNat 3)], ())), ((([], (false, ())), ([(.ofNat 1)], ())), ())), ((.ofNat 1), ()))]))
theorem q3_59 : okH (pureKD Tryz.prog sigC 100000 ext2 40) 59 z57 z2 (t3_59 : HTr ((Ty.T z57) × (Ty.T z2))) = true := by kernel_rfl
def t3_182 : HTr (v2 × v46) := .leaf [(((.ofNat 65535), ()), (([54,53,53,51,53], ([49], ())), ())),
 (((.negSucc 65534), ()), (([45,54,53,53,51,53], ([49], ())), ()))]
theorem q3_182 : okH (pureKD Tryz.prog sigC 100000 ext2 40) 182 z2 z46 (t3_182 : HTr ((Ty.T z2) × (Ty.T z46))) = true := by kernel_rfl
def t3_187 : HTr (v3 × v46) := .leaf [(((.ofNat 1000000), ((.ofNat 1000000), ())), (([49], ([49], ())), ()))]
theorem q3_187 : okH (pureKD Tryz.prog sigC 100000 ext2 40) 187 z3 z46 (t3_187 : HTr ((Ty.T z3) × (Ty.T z46))) = true := by kernel_rfl
def r3_14 : RowH := ⟨14, z3, z39, t3_14⟩
theorem a3_14 : AtRow Tryz.prog (Gt Tryz.prog) r3_14 := at_row p2 q3_14
def r3_31 : RowH := ⟨31, z2, z46, t3_31⟩
theorem a3_31 : AtRow Tryz.prog (Gt Tryz.prog) r3_31 := at_row p2 q3_31
def r3_36 : RowH := ⟨36, z47, z39, t3_36⟩
theorem a3_36 : AtRow Tryz.prog (Gt Tryz.prog) r3_36 := at_row p2 q3_36
def r3_43 : RowH := ⟨43, z40, z3, t3_43⟩
theorem a3_43 : AtRow Tryz.prog (Gt Tryz.prog) r3_43 := at_row p2 q3_43
def R3_43 : RowH := RowH.or r1_43 t3_43
theorem b3_43 : AtRow Tryz.prog (Gt Tryz.prog) R3_43 := at_or a1_43 a3_43
def r3_47 : RowH := ⟨47, z46, z39, t3_47⟩
theorem a3_47 : AtRow Tryz.prog (Gt Tryz.prog) r3_47 := at_row p2 q3_47
def r3_52 : RowH := ⟨52, z46, z55, t3_52⟩
theorem a3_52 : AtRow Tryz.prog (Gt Tryz.prog) r3_52 := at_row p2 q3_52
def r3_59 : RowH := ⟨59, z57, z2, t3_59⟩
theorem a3_59 : AtRow Tryz.prog (Gt Tryz.prog) r3_59 := at_row p2 q3_59
def R3_59 : RowH := RowH.or r2_59 t3_59
theorem b3_59 : AtRow Tryz.prog (Gt Tryz.prog) R3_59 := at_or a2_59 a3_59
def r3_182 : RowH := ⟨182, z2, z46, t3_182⟩
theorem a3_182 : AtRow Tryz.prog (Gt Tryz.prog) r3_182 := at_row p2 q3_182
def r3_187 : RowH := ⟨187, z3, z46, t3_187⟩
theorem a3_187 : AtRow Tryz.prog (Gt Tryz.prog) r3_187 := at_row p2 q3_187
def rows3 : List RowH := [r3_52, R3_59, R2_65, r1_98, R2_86, r1_83, R3_43, R2_87, r1_56, R2_85, r1_114, r2_66, r2_68, r1_54, r1_34, r1_102, r2_69, r3_14, r1_84, r2_88, R2_17, r1_32, r1_89, r1_100, r1_133, r1_158, r2_62, r2_135, r3_31, r3_36, r3_47, r3_182, r3_187]
noncomputable def ext3 : PureT := firstR (extTabH rows3) ext0
theorem ext3_ok : PureOk Tryz.prog (Gt Tryz.prog) ext3 := layer_at (rows := rows3) ⟨a3_52, ⟨b3_59, ⟨b2_65, ⟨a1_98, ⟨b2_86, ⟨a1_83, ⟨b3_43, ⟨b2_87, ⟨a1_56, ⟨b2_85, ⟨a1_114, ⟨a2_66, ⟨a2_68, ⟨a1_54, ⟨a1_34, ⟨a1_102, ⟨a2_69, ⟨a3_14, ⟨a1_84, ⟨a2_88, ⟨b2_17, ⟨a1_32, ⟨a1_89, ⟨a1_100, ⟨a1_133, ⟨a1_158, ⟨a2_62, ⟨a2_135, ⟨a3_31, ⟨a3_36, ⟨a3_47, ⟨a3_182, ⟨a3_187, trivial⟩⟩⟩⟩⟩⟩⟩⟩⟩⟩⟩⟩⟩⟩⟩⟩⟩⟩⟩⟩⟩⟩⟩⟩⟩⟩⟩⟩⟩⟩⟩⟩⟩ ext0_ok
theorem p3 : PureOk Tryz.prog (Gt Tryz.prog) (pureKD Tryz.prog sigC 100000 ext3 40) := pure_at gmono mixed enterSig ext3_ok 100000 40
def t4_17 : HTr (v42 × v2) := .leaf [(((((.ofNat 1), ([((.ofNat 1), ([((.ofNat 3), ([], ([((.ofNat 1000000), ((.ofNat 1000000), ((.ofNat 0), ((.ofNat 1), ((.ofNat 2), ((.ofNat 0), ()))))))], ())))], ([], ([], (([], ((.ofNat 0), ([], ()))), ([], ((.ofNat 0), ((.ofNat 0), ()))))))))], ())), (((.ofNat 1), ([], ())), ())), ()), ((.ofNat 0), ())),
 (((((.ofNat 1), ([], ())), (((.ofNat 1), ([((.ofNat 1), ([((.ofNat 3), ([], ([((.ofNat 1000000), ((.ofNat 1000000), ((.ofNat 0), ((.ofNat 1), ((.ofNat 2), ((.ofNat 0), ()))))))], ())))], ([], ([], (([], ((.ofNat 0), ([], ()))), ([], ((.ofNat 0), ((.ofNat 0), ()))))))))], ())), ())), ()), ((.ofNat 0), ())),
 (((((.ofNat 1), ([], ())), (((.ofNat 1), ([((.ofNat 1), ([((.ofNat 2), ([(.ofNat 65535), (.ofNat 0)], ([], ())))], ([], ([], (([], ((.ofNat 0), ([], ()))), ([], ((.ofNat 0), ((.ofNat 0), ()))))))))], ())), ())), ()), ((.ofNat 0), ()))]
theorem q4_17 : okH (pureKD Tryz.prog sigC 100000 ext3 40) 17 z42 z2 (t4_17 : HTr ((Ty.T z42) × (Ty.T z2))) = true := by kernel_rfl
def t4_25 : HTr (v39 × v45) := .leaf [((([48], ([49], ())), ((.ofNat 6), ())), ([48,46,48,48,48,48,48,48], ((.ofNat 0), ())))]
theorem q4_25 : okH (pureKD Tryz.prog sigC 100000 ext3 40) 25 z39 z45 (t4_25 : HTr ((Ty.T z39) × (Ty.T z45))) = true := by kernel_rfl
def t4_31 : HTr (v2 × v46) := .leaf [(((.ofNat 0), ()), (([48], ([49], ())), ())),
 (((.ofNat 1), ()), (([49], ([49], ())), ()))]
theorem q4_31 : okH (pureKD Tryz.prog sigC 100000 ext3 40) 31 z2 z46 (t4_31 : HTr ((Ty.T z2) × (Ty.T z46))) = true := by kernel_rfl
def t4_33 : HTr (v47 × v3) := .node 263108 (.node 164495 (.node 61740 (.leaf [((([53], ([49,50], ())), (([49], ([49], ())), ())), ((.negSucc 0), ((.ofNat 0), ()))),
 ((([55], ([49,50], ())), (([49], ([49], ())), ())), ((.negSucc 0), ((.ofNat 0), ())))]) (.leaf [((([49], ([50,52], ())), (([49], ([49], ())), ())), ((.negSucc 0), ((.ofNat 0), ()))),
 ((([49,49], ([49,50], ())), (([49], ([49], ())), ())), ((.negSucc 0), ((.ofNat 0), ()))),
 ((([53], ([50,52], ())), (([49], ([49], ())), ())), ((.negSucc 0), ((.ofNat 0), ())))])) (.node 226952 (.leaf [((([55], ([50,52], ())), (([49], ([49], ())), ())), ((.negSucc 0), ((.ofNat 0), ()))),
 ((([48], ([49], ())), (([48], ([49], ())), ())), ((.ofNat 0), ((.ofNat 0), ()))),
 ((([48], ([49], ())), (([49], ([49], ())), ())), ((.negSucc 0), ((.ofNat 0), ()))),
 ((([49], ([49], ())), (([48], ([49], ())), ())), ((.ofNat 1), ((.ofNat 0), ())))]) (.leaf [((([49,49], ([50,52], ())), (([49], ([49], ())), ())), ((.negSucc 0), ((.ofNat 0), ()))),
 ((([49], ([49], ())), (([49], ([49], ())), ())), ((.ofNat 0), ((.ofNat 0), ()))),
 ((([49], ([50], ())), (([49], ([49], ())), ())), ((.negSucc 0), ((.ofNat 0), ())))]))) (.node 378921 (.node 335420 (.node 281186 (.leaf [((([49], ([51], ())), (([49], ([49], ())), ())), ((.negSucc 0), ((.ofNat 0), ())))]) (.leaf [((([50], ([51], ())), (([49], ([49], ())), ())), ((.negSucc 0), ((.ofNat 0), ()))),
 ((([49], ([52], ())), (([49], ([49], ())), ())), ((.negSucc 0), ((.ofNat 0), ()))),
 ((([49], ([54], ())), (([49], ([49], ())), ())), ((.negSucc 0), ((.ofNat 0), ()))),
 ((([51], ([52], ())), (([49], ([49], ())), ())), ((.negSucc 0), ((.ofNat 0), ())))])) (.leaf [((([49,51], ([50,52], ())), (([49], ([49], ())), ())), ((.negSucc 0), ((.ofNat 0), ()))),
 ((([49], ([56], ())), (([49], ([49], ())), ())), ((.negSucc 0), ((.ofNat 0), ()))),
 ((([50,51], ([50,52], ())), (([49], ([49], ())), ())), ((.negSucc 0), ((.ofNat 0), ())))])) (.node 480044 (.leaf [((([51], ([56], ())), (([49], ([49], ())), ())), ((.negSucc 0), ((.ofNat 0), ()))),
 ((([53], ([54], ())), (([49], ([49], ())), ())), ((.negSucc 0), ((.ofNat 0), ()))),
 ((([53], ([56], ())), (([49], ([49], ())), ())), ((.negSucc 0), ((.ofNat 0), ()))),
 ((([55], ([56], ())), (([49], ([49], ())), ())), ((.negSucc 0), ((.ofNat 0), ())))]) (.leaf [((([49,55], ([50,52], ())), (([49], ([49], ())), ())), ((.negSucc 0), ((.ofNat 0), ()))),
 ((([49,57], ([50,52], ())), (([49], ([49], ())), ())), ((.negSucc 0), ((.ofNat 0), ()))),
 ((([49], ([49,50], ())), (([49], ([49], ())), ())), ((.negSucc 0), ((.ofNat 0), ())))])))
theorem q4_33 : okH (pureKD Tryz.prog sigC 100000 ext3 40) 33 z47 z3 (t4_33 : HTr ((Ty.T z47) × (Ty.T z3))) = true := by kernel_rfl
def t4_36 : HTr (v47 × v39) := .leaf [((([48], ([49], ())), (([54,50,53], ([49], ())), ())), (([48], ([49], ())), ((.ofNat 0), ()))),
 ((([48], ([49], ())), (([57], ([49], ())), ())), (([48], ([49], ())), ((.ofNat 0), ())))]
theorem q4_36 : okH (pureKD Tryz.prog sigC 100000 ext3 40) 36 z47 z39 (t4_36 : HTr ((Ty.T z47) × (Ty.T z39))) = true := by kernel_rfl
def t4_37 : HTr (v47 × v39) := .leaf [((([48], ([49], ())), (([48], ([49], ())), ())), (([48], ([49], ())), ((.ofNat 0), ()))),
 ((([48], ([49], ())), (([49], ([49], ())), ())), (([49], ([49], ())), ((.ofNat 0), ()))),
 ((([49], ([49], ())), (([48], ([49], ())), ())), (([49], ([49], ())), ((.ofNat 0), ()))),
 ((([49], ([49], ())), (([49], ([49], ())), ())), (([50], ([49], ())), ((.ofNat 0), ())))]
theorem q4_37 : okH (pureKD Tryz.prog sigC 100000 ext3 40) 37 z47 z39 (t4_37 : HTr ((Ty.T z47) × (Ty.T z39))) = true := by kernel_rfl
def t4_38 : HTr (v46 × v3) := .node 622519 (.node 469672 (.node 330761 (.leaf [((([49,57], ([50,52], ())), ()), ((.ofNat 1), ((.ofNat 0), ()))),
 ((([49], ([49,50], ())), ()), ((.ofNat 1), ((.ofNat 0), ())))]) (.leaf [((([53], ([49,50], ())), ()), ((.ofNat 1), ((.ofNat 0), ()))),
 ((([55], ([49,50], ())), ()), ((.ofNat 1), ((.ofNat 0), ()))),
 ((([49], ([50,52], ())), ()), ((.ofNat 1), ((.ofNat 0), ())))])) (.node 578140 (.leaf [((([49,49], ([49,50], ())), ()), ((.ofNat 1), ((.ofNat 0), ()))),
 ((([53], ([50,52], ())), ()), ((.ofNat 1), ((.ofNat 0), ()))),
 ((([55], ([50,52], ())), ()), ((.ofNat 1), ((.ofNat 0), ())))]) (.leaf [((([48], ([49], ())), ()), ((.ofNat 0), ((.ofNat 0), ()))),
 ((([49,49], ([50,52], ())), ()), ((.ofNat 1), ((.ofNat 0), ()))),
 ((([49], ([49], ())), ()), ((.ofNat 1), ((.ofNat 0), ())))]))) (.node 738332 (.node 658675 (.leaf [((([49], ([50], ())), ()), ((.ofNat 1), ((.ofNat 0), ()))),
 ((([49], ([51], ())), ()), ((.ofNat 1), ((.ofNat 0), ())))]) (.node 676753 (.leaf [((([50], ([51], ())), ()), ((.ofNat 1), ((.ofNat 0), ()))),
 ((([49], ([52], ())), ()), ((.ofNat 1), ((.ofNat 0), ())))]) (.leaf [((([49], ([54], ())), ()), ((.ofNat 1), ((.ofNat 0), ()))),
 ((([51], ([52], ())), ()), ((.ofNat 1), ((.ofNat 0), ()))),
 ((([49,51], ([50,52], ())), ()), ((.ofNat 1), ((.ofNat 0), ())))]))) (.node 785221 (.leaf [((([49], ([56], ())), ()), ((.ofNat 1), ((.ofNat 0), ()))),
 ((([50,51], ([50,52], ())), ()), ((.ofNat 1), ((.ofNat 0), ()))),
 ((([51], ([56], ())), ()), ((.ofNat 1), ((.ofNat 0), ()))),
 ((([53], ([54], ())), ()), ((.ofNat 1), ((.ofNat 0), ())))]) (.leaf [((([53], ([56], ())), ()), ((.ofNat 1), ((.ofNat 0), ()))),
 ((([55], ([56], ())), ()), ((.ofNat 1), ((.ofNat 0), ()))),
 ((([49,55], ([50,52], ())), ()), ((.ofNat 1), ((.ofNat 0), ())))])))
theorem q4_38 : okH (pureKD Tryz.prog sigC 100000 ext3 40) 38 z46 z3 (t4_38 : HTr ((Ty.T z46) × (Ty.T z3))) = true := by kernel_rfl
def t4_45 : HTr (v48 × v49) := .leaf [((((.ofNat 1), ([], ())), ([([50,50,51], ([49,48,48,48], ()))], ())), ([([50,50,51], ([49,48,48,48], ()))], ((.ofNat 0), ())))]
theorem q4_45 : okH (pureKD Tryz.prog sigC 100000 ext3 40) 45 z48 z49 (t4_45 : HTr ((Ty.T z48) × (Ty.T z49))) = true := by kernel_rfl
def t4_46 : HTr (v50 × v39) := .node 705535 (.node 206942 (.node 48321 (.leaf [((([51], ([56], ())), (([48], ([49], ())), (([49], ([49], ())), ()))), (([51], ([56], ())), ((.ofNat 0), ()))),
 ((([53], ([54], ())), (([48], ([49], ())), (([49], ([49], ())), ()))), (([53], ([54], ())), ((.ofNat 0), ()))),
 ((([53], ([56], ())), (([48], ([49], ())), (([49], ([49], ())), ()))), (([53], ([56], ())), ((.ofNat 0), ())))]) (.leaf [((([55], ([56], ())), (([48], ([49], ())), (([49], ([49], ())), ()))), (([55], ([56], ())), ((.ofNat 0), ()))),
 ((([50,50,51], ([49,48,48,48], ())), (([48], ([49], ())), (([49], ([49], ())), ()))), (([50,50,51], ([49,48,48,48], ())), ((.ofNat 0), ()))),
 ((([49,55], ([50,52], ())), (([48], ([49], ())), (([49], ([49], ())), ()))), (([49,55], ([50,52], ())), ((.ofNat 0), ())))])) (.node 630020 (.leaf [((([49,57], ([50,52], ())), (([48], ([49], ())), (([49], ([49], ())), ()))), (([49,57], ([50,52], ())), ((.ofNat 0), ()))),
 ((([49], ([49,50], ())), (([48], ([49], ())), (([49], ([49], ())), ()))), (([49], ([49,50], ())), ((.ofNat 0), ()))),
 ((([53], ([49,50], ())), (([48], ([49], ())), (([49], ([49], ())), ()))), (([53], ([49,50], ())), ((.ofNat 0), ())))]) (.leaf [((([55], ([49,50], ())), (([48], ([49], ())), (([49], ([49], ())), ()))), (([55], ([49,50], ())), ((.ofNat 0), ()))),
 ((([49], ([50,52], ())), (([48], ([49], ())), (([49], ([49], ())), ()))), (([49], ([50,52], ())), ((.ofNat 0), ()))),
 ((([49,49], ([49,50], ())), (([48], ([49], ())), (([49], ([49], ())), ()))), (([49,49], ([49,50], ())), ((.ofNat 0), ())))]))) (.node 867544 (.node 831388 (.leaf [((([53], ([50,52], ())), (([48], ([49], ())), (([49], ([49], ())), ()))), (([53], ([50,52], ())), ((.ofNat 0), ()))),
 ((([55], ([50,52], ())), (([48], ([49], ())), (([49], ([49], ())), ()))), (([55], ([50,52], ())), ((.ofNat 0), ()))),
 ((([48], ([49], ())), (([48], ([49], ())), (([49], ([49], ())), ()))), (([48], ([49], ())), ((.ofNat 0), ())))]) (.leaf [((([49,49], ([50,52], ())), (([48], ([49], ())), (([49], ([49], ())), ()))), (([49,49], ([50,52], ())), ((.ofNat 0), ()))),
 ((([49], ([49], ())), (([48], ([49], ())), (([49], ([49], ())), ()))), (([49], ([49], ())), ((.ofNat 0), ()))),
 ((([49], ([50], ())), (([48], ([49], ())), (([49], ([49], ())), ()))), (([49], ([50], ())), ((.ofNat 0), ())))])) (.node 939856 (.node 885622 (.leaf [((([49], ([51], ())), (([48], ([49], ())), (([49], ([49], ())), ()))), (([49], ([51], ())), ((.ofNat 0), ())))]) (.leaf [((([49], ([52], ())), (([48], ([49], ())), (([49], ([49], ())), ()))), (([49], ([52], ())), ((.ofNat 0), ()))),
 ((([50], ([51], ())), (([48], ([49], ())), (([49], ([49], ())), ()))), (([50], ([51], ())), ((.ofNat 0), ()))),
 ((([49], ([54], ())), (([48], ([49], ())), (([49], ([49], ())), ()))), (([49], ([54], ())), ((.ofNat 0), ()))),
 ((([51], ([52], ())), (([48], ([49], ())), (([49], ([49], ())), ()))), (([51], ([52], ())), ((.ofNat 0), ())))])) (.leaf [((([49,51], ([50,52], ())), (([48], ([49], ())), (([49], ([49], ())), ()))), (([49,51], ([50,52], ())), ((.ofNat 0), ()))),
 ((([49], ([56], ())), (([48], ([49], ())), (([49], ([49], ())), ()))), (([49], ([56], ())), ((.ofNat 0), ()))),
 ((([50,51], ([50,52], ())), (([48], ([49], ())), (([49], ([49], ())), ()))), (([50,51], ([50,52], ())), ((.ofNat 0), ())))])))
theorem q4_46 : okH (pureKD Tryz.prog sigC 100000 ext3 40) 46 z50 z39 (t4_46 : HTr ((Ty.T z50) × (Ty.T z39))) = true := by kernel_rfl
def t4_47 : HTr (v46 × v39) := .leaf [((([48], ([49], ())), ()), (([48], ([49], ())), ((.ofNat 0), ()))),
 ((([49], ([49], ())), ()), (([49], ([49], ())), ((.ofNat 0), ())))]
theorem q4_47 : okH (pureKD Tryz.prog sigC 100000 ext3 40) 47 z46 z39 (t4_47 : HTr ((Ty.T z46) × (Ty.T z39))) = true := by kernel_rfl
def t4_48 : HTr (v47 × v39) := .node 245030 (.leaf [((([48], ([49], ())), (([48], ([49], ())), ())), (([48], ([49], ())), ((.ofNat 0), ()))),
 ((([49], ([49], ())), (([48], ([49], ())), ())), (([49], ([49], ())), ((.ofNat 0), ()))),
 ((([48], ([49], ())), (([49], ([49], ())), ())), (([45,49], ([49], ())), ((.ofNat 0), ()))),
 ((([49], ([49], ())), (([49], ([49], ())), ())), (([48], ([49], ())), ((.ofNat 0), ())))]) (.leaf [((([49], ([50], ())), (([49], ([50], ())), ())), (([48], ([49], ())), ((.ofNat 0), ()))),
 ((([49], ([52], ())), (([49], ([52], ())), ())), (([48], ([49], ())), ((.ofNat 0), ()))),
 ((([51], ([52], ())), (([51], ([52], ())), ())), (([48], ([49], ())), ((.ofNat 0), ()))),
 ((([50,50,51], ([49,48,48,48], ())), (([50,50,51], ([49,48,48,48], ())), ())), (([48], ([49], ())), ((.ofNat 0), ())))])
theorem q4_48 : okH (pureKD Tryz.prog sigC 100000 ext3 40) 48 z47 z39 (t4_48 : HTr ((Ty.T z47) × (Ty.T z39))) = true := by kernel_rfl
def t4_49 : HTr (v47 × v39) := .leaf [((([48], ([49], ())), (([48], ([49], ())), ())), (([48], ([49], ())), ((.ofNat 0), ()))),
 ((([48], ([49], ())), (([49], ([49], ())), ())), (([49], ([49], ())), ((.ofNat 0), ())))]
theorem q4_49 : okH (pureKD Tryz.prog sigC 100000 ext3 40) 49 z47 z39 (t4_49 : HTr ((Ty.T z47) × (Ty.T z39))) = true := by kernel_rfl
def r4_17 : RowH := ⟨17, z42, z2, t4_17⟩
theorem a4_17 : AtRow Tryz.prog (Gt Tryz.prog) r4_17 := at_row p3 q4_17
def R4_17 : RowH := RowH.or R2_17 t4_17
theorem b4_17 : AtRow Tryz.prog (Gt Tryz.prog) R4_17 := at_or b2_17 a4_17
def r4_25 : RowH := ⟨25, z39, z45, t4_25⟩
theorem a4_25 : AtRow Tryz.prog (Gt Tryz.prog) r4_25 := at_row p3 q4_25
def r4_31 : RowH := ⟨31, z2, z46, t4_31⟩
theorem a4_31 : AtRow Tryz.prog (Gt Tryz.prog) r4_31 := at_row p3 q4_31
def R4_31 : RowH := RowH.or r3_31 t4_31
theorem b4_31 : AtRow Tryz.prog (Gt Tryz.prog) R4_31 := at_or a3_31 a4_31
def r4_33 : RowH := ⟨33, z47, z3, t4_33⟩
theorem a4_33 : AtRow Tryz.prog (Gt Tryz.prog) r4_33 := at_row p3 q4_33
def r4_36 : RowH := ⟨36, z47, z39, t4_36⟩
theorem a4_36 : AtRow Tryz.prog (Gt Tryz.prog) r4_36 := at_row p3 q4_36
def R4_36 : RowH := RowH.or r3_36 t4_36
theorem b4_36 : AtRow Tryz.prog (Gt Tryz.prog) R4_36 := at_or a3_36 a4_36
def r4_37 : RowH := ⟨37, z47, z39, t4_37⟩
theorem a4_37 : AtRow Tryz.prog (Gt Tryz.prog) r4_37 := at_row p3 q4_37
def r4_38 : RowH := ⟨38, z46, z3, t4_38⟩
theorem a4_38 : AtRow Tryz.prog (Gt Tryz.prog) r4_38 := at_row p3 q4_38
def r4_45 : RowH := ⟨45, z48, z49, t4_45⟩
theorem a4_45 : AtRow Tryz.prog (Gt Tryz.prog) r4_45 := at_row p3 q4_45
def r4_46 : RowH := ⟨46, z50, z39, t4_46⟩
theorem a4_46 : AtRow Tryz.prog (Gt Tryz.prog) r4_46 := at_row p3 q4_46
def r4_47 : RowH := ⟨47, z46, z39, t4_47⟩
theorem a4_47 : AtRow Tryz.prog (Gt Tryz.prog) r4_47 := at_row p3 q4_47
def R4_47 : RowH := RowH.or r3_47 t4_47
theorem b4_47 : AtRow Tryz.prog (Gt Tryz.prog) R4_47 := at_or a3_47 a4_47
def r4_48 : RowH := ⟨48, z47, z39, t4_48⟩
theorem a4_48 : AtRow Tryz.prog (Gt Tryz.prog) r4_48 := at_row p3 q4_48
def r4_49 : RowH := ⟨49, z47, z39, t4_49⟩
theorem a4_49 : AtRow Tryz.prog (Gt Tryz.prog) r4_49 := at_row p3 q4_49
def rows4 : List RowH := [r3_52, r4_33, r4_38, R3_43, r3_14, R3_59, r1_158, r2_135, r3_187, R4_17, r1_32, r1_34, r1_54, r1_56, R2_65, r1_83, r1_84, R2_85, R2_86, R2_87, r1_89, r1_98, r1_100, r1_102, r1_114, r1_133, r2_62, r2_66, r2_68, r2_69, r2_88, R4_31, R4_36, R4_47, r3_182, r4_25, r4_37, r4_45, r4_46, r4_48, r4_49]
noncomputable def ext4 : PureT := firstR (extTabH rows4) ext0
theorem ext4_ok : PureOk Tryz.prog (Gt Tryz.prog) ext4 := layer_at (rows := rows4) ⟨a3_52, ⟨a4_33, ⟨a4_38, ⟨b3_43, ⟨a3_14, ⟨b3_59, ⟨a1_158, ⟨a2_135, ⟨a3_187, ⟨b4_17, ⟨a1_32, ⟨a1_34, ⟨a1_54, ⟨a1_56, ⟨b2_65, ⟨a1_83, ⟨a1_84, ⟨b2_85, ⟨b2_86, ⟨b2_87, ⟨a1_89, ⟨a1_98, ⟨a1_100, ⟨a1_102, ⟨a1_114, ⟨a1_133, ⟨a2_62, ⟨a2_66, ⟨a2_68, ⟨a2_69, ⟨a2_88, ⟨b4_31, ⟨b4_36, ⟨b4_47, ⟨a3_182, ⟨a4_25, ⟨a4_37, ⟨a4_45, ⟨a4_46, ⟨a4_48, ⟨a4_49, trivial⟩⟩⟩⟩⟩⟩⟩⟩⟩⟩⟩⟩⟩⟩⟩⟩⟩⟩⟩⟩⟩⟩⟩⟩⟩⟩⟩⟩⟩⟩⟩⟩⟩⟩⟩⟩⟩⟩⟩⟩⟩ ext0_ok
end Go.Vg
