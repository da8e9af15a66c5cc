/- Calls that have been run: part 3. -/
import Derived.Test.YtbfajgbedclfeaaGreatDoorExt
namespace Go.Vg
open Go Go.Proofs
set_option maxRecDepth 1000000
set_option maxHeartbeats 0
def t1_29_1 : HTr (v43 × v10) := .leaf [((([(.ofNat 2), (.ofNat 2), (.ofNat 2)], ((.ofNat 3), ([(.ofNat 0), (.ofNat 0), (.ofNat 0), (.ofNat 0), (.ofNat 0), (.ofNat 65535), (.ofNat 0), (.ofNat 65535), (.ofNat 0), (.ofNat 0), (.ofNat 65535), (.ofNat 65535), (.ofNat 65535), (.ofNat 0), (.ofNat 0), (.ofNat 65535), (.ofNat 0), (.ofNat 65535), (.ofNat 65535), (.ofNat 65535), (.ofNat 0), (.ofNat 65535), (.ofNat 65535), (.ofNat 65535)], ()))), ()), ((.ofNat 0), ()))]
theorem q1_29_1 : okH (pureKD Tryz.prog sigC 100000 ext0 40) 29 z43 z10 (t1_29_1 : HTr ((Ty.T z43) × (Ty.T z10))) = true := by kernel_rfl
def t1_36 : HTr (v44 × v10) := .leaf [((((.ofNat 3), ([], ([((.ofNat 1000000), ((.ofNat 1000000), ((.ofNat 0), ((.ofNat 1), ((.ofNat 2), ((.ofNat 0), ()))))))], ()))), ()), ((.ofNat 0), ()))]
theorem q1_36 : okH (pureKD Tryz.prog sigC 100000 ext0 40) 36 z44 z10 (t1_36 : HTr ((Ty.T z44) × (Ty.T z10))) = true := by kernel_rfl
def t1_37 : HTr (v44 × v33) := .leaf [((((.ofNat 1), ([], ([], ()))), ()), (true, ()))]
theorem q1_37 : okH (pureKD Tryz.prog sigC 100000 ext0 40) 37 z44 z33 (t1_37 : HTr ((Ty.T z44) × (Ty.T z33))) = true := by kernel_rfl
def t1_49 : HTr (v1 × v10) := .node 428954 (.node 126285 (.leaf [(([(.ofNat 0), (.ofNat 0), (.ofNat 65535), (.ofNat 65535)], ()), ((.ofNat 131070), ())),
 (([(.ofNat 0), (.ofNat 65535), (.ofNat 0), (.ofNat 65535)], ()), ((.ofNat 131070), ()))]) (.leaf [(([(.ofNat 0), (.ofNat 0), (.ofNat 0), (.ofNat 65535)], ()), ((.ofNat 65535), ())),
 (([(.ofNat 65535), (.ofNat 0), (.ofNat 0), (.ofNat 65535)], ()), ((.ofNat 131070), ())),
 (([(.ofNat 0), (.ofNat 65535), (.ofNat 65535), (.ofNat 0)], ()), ((.ofNat 131070), ()))])) (.node 690456 (.leaf [(([(.ofNat 0), (.ofNat 0), (.ofNat 65535), (.ofNat 0)], ()), ((.ofNat 65535), ())),
 (([(.ofNat 0), (.ofNat 65535), (.ofNat 0), (.ofNat 0)], ()), ((.ofNat 65535), ())),
 (([(.ofNat 65535), (.ofNat 0), (.ofNat 65535), (.ofNat 0)], ()), ((.ofNat 131070), ()))]) (.leaf [(([(.ofNat 65535), (.ofNat 65535), (.ofNat 0), (.ofNat 0)], ()), ((.ofNat 131070), ())),
 (([(.ofNat 0), (.ofNat 0), (.ofNat 0), (.ofNat 0)], ()), ((.ofNat 0), ())),
 (([(.ofNat 65535), (.ofNat 0), (.ofNat 0), (.ofNat 0)], ()), ((.ofNat 65535), ()))]))
theorem q1_49 : okH (pureKD Tryz.prog sigC 100000 ext0 40) 49 z1 z10 (t1_49 : HTr ((Ty.T z1) × (Ty.T z10))) = true := by kernel_rfl
def t1_82 : HTr (v60 × v4) := .node 229638 (.leaf [((([(.ofNat 8192)], (false, ())), ()), ([56,49,57,50], ())),
 ((([(.ofNat 16384)], (false, ())), ()), ([49,54,51,56,52], ())),
 ((([(.ofNat 24576)], (false, ())), ()), ([50,52,53,55,54], ()))]) (.leaf [((([(.ofNat 32768)], (false, ())), ()), ([51,50,55,54,56], ())),
 ((([(.ofNat 40959)], (false, ())), ()), ([52,48,57,53,57], ())),
 ((([(.ofNat 49151)], (false, ())), ()), ([52,57,49,53,49], ())),
 ((([(.ofNat 57343)], (false, ())), ()), ([53,55,51,52,51], ()))])
theorem q1_82 : okH (pureKD Tryz.prog sigC 100000 ext0 40) 82 z60 z4 (t1_82 : HTr ((Ty.T z60) × (Ty.T z4))) = true := by kernel_rfl
def t1_101 : HTr (v64 × v54) := .node 451028 (.node 435853 (.node 227030 (.leaf [(([(.ofNat 49151)], ([(.ofNat 1)], ())), ([(.ofNat 1)], ())),
 (([(.ofNat 16384)], ([(.ofNat 65535)], ())), ([(.ofNat 1)], ())),
 (([(.ofNat 49151)], ([(.ofNat 65535)], ())), ([(.ofNat 1)], ())),
 (([], ([(.ofNat 1)], ())), ([(.ofNat 1)], ()))]) (.leaf [(([(.ofNat 24576)], ([(.ofNat 1)], ())), ([(.ofNat 1)], ())),
 (([(.ofNat 57343)], ([(.ofNat 1)], ())), ([(.ofNat 1)], ())),
 (([(.ofNat 57343)], ([(.ofNat 65535)], ())), ([(.ofNat 1)], ())),
 (([(.ofNat 1)], ([(.ofNat 524280)], ())), ([(.ofNat 1)], ()))])) (.node 442956 (.node 440938 (.leaf [(([(.ofNat 1)], ([(.ofNat 1)], ())), ([(.ofNat 1)], ())),
 (([(.ofNat 1)], ([(.ofNat 2)], ())), ([(.ofNat 1)], ())),
 (([(.ofNat 2)], ([(.ofNat 1)], ())), ([(.ofNat 1)], ()))]) (.leaf [(([(.ofNat 1)], ([(.ofNat 3)], ())), ([(.ofNat 1)], ())),
 (([(.ofNat 1)], ([(.ofNat 4)], ())), ([(.ofNat 1)], ()))])) (.node 445983 (.leaf [(([(.ofNat 3)], ([(.ofNat 4)], ())), ([(.ofNat 1)], ())),
 (([(.ofNat 4)], ([(.ofNat 4)], ())), ([(.ofNat 4)], ()))]) (.leaf [(([(.ofNat 1)], ([(.ofNat 8)], ())), ([(.ofNat 1)], ())),
 (([(.ofNat 3)], ([(.ofNat 8)], ())), ([(.ofNat 1)], ())),
 (([(.ofNat 5)], ([(.ofNat 8)], ())), ([(.ofNat 1)], ()))])))) (.node 570600 (.node 501733 (.leaf [(([(.ofNat 7)], ([(.ofNat 8)], ())), ([(.ofNat 1)], ())),
 (([(.ofNat 21845)], ([(.ofNat 1)], ())), ([(.ofNat 1)], ())),
 (([(.ofNat 21845)], ([(.ofNat 8)], ())), ([(.ofNat 1)], ())),
 (([(.ofNat 32768)], ([(.ofNat 1)], ())), ([(.ofNat 1)], ()))]) (.leaf [(([(.ofNat 65535)], ([(.ofNat 1)], ())), ([(.ofNat 1)], ())),
 (([(.ofNat 65535)], ([(.ofNat 2)], ())), ([(.ofNat 1)], ())),
 (([(.ofNat 65535)], ([(.ofNat 4)], ())), ([(.ofNat 1)], ())),
 (([(.ofNat 65535)], ([(.ofNat 8)], ())), ([(.ofNat 1)], ()))])) (.node 704624 (.leaf [(([(.ofNat 32768)], ([(.ofNat 65535)], ())), ([(.ofNat 1)], ())),
 (([(.ofNat 65535)], ([(.ofNat 65535)], ())), ([(.ofNat 65535)], ())),
 (([(.ofNat 1)], ([(.ofNat 131070)], ())), ([(.ofNat 1)], ())),
 (([(.ofNat 8192)], ([(.ofNat 1)], ())), ([(.ofNat 1)], ()))]) (.node 771232 (.leaf [(([(.ofNat 40959)], ([(.ofNat 1)], ())), ([(.ofNat 1)], ())),
 (([(.ofNat 1)], ([(.ofNat 174760)], ())), ([(.ofNat 1)], ()))]) (.leaf [(([(.ofNat 8192)], ([(.ofNat 65535)], ())), ([(.ofNat 1)], ())),
 (([(.ofNat 1)], ([(.ofNat 262140)], ())), ([(.ofNat 1)], ())),
 (([(.ofNat 16384)], ([(.ofNat 1)], ())), ([(.ofNat 1)], ()))]))))
theorem q1_101 : okH (pureKD Tryz.prog sigC 100000 ext0 40) 101 z64 z54 (t1_101 : HTr ((Ty.T z64) × (Ty.T z54))) = true := by kernel_rfl
def t1_102 : HTr (v64 × v10) := .node 440938 (.leaf [(([], ([(.ofNat 1)], ())), ((.negSucc 0), ())),
 (([(.ofNat 1)], ([(.ofNat 2)], ())), ((.negSucc 0), ())),
 (([(.ofNat 2)], ([(.ofNat 1)], ())), ((.ofNat 1), ()))]) (.leaf [(([(.ofNat 1)], ([(.ofNat 3)], ())), ((.negSucc 0), ())),
 (([(.ofNat 1)], ([(.ofNat 4)], ())), ((.negSucc 0), ()))])
theorem q1_102 : okH (pureKD Tryz.prog sigC 100000 ext0 40) 102 z64 z10 (t1_102 : HTr ((Ty.T z64) × (Ty.T z10))) = true := by kernel_rfl
def t1_103 : HTr (v55 × v60) := .node 370645 (.leaf [((([(.ofNat 5)], (false, ())), ([(.ofNat 1)], ())), (([(.ofNat 5)], (false, ())), ())),
 ((([(.ofNat 7)], (false, ())), ([(.ofNat 1)], ())), (([(.ofNat 7)], (false, ())), ())),
 ((([], (false, ())), ([(.ofNat 524280)], ())), (([], (false, ())), ())),
 ((([], (false, ())), ([(.ofNat 2)], ())), (([], (false, ())), ()))]) (.node 372663 (.leaf [((([], (false, ())), ([(.ofNat 3)], ())), (([], (false, ())), ())),
 ((([], (false, ())), ([(.ofNat 4)], ())), (([], (false, ())), ()))]) (.leaf [((([], (false, ())), ([(.ofNat 8)], ())), (([], (false, ())), ())),
 ((([(.ofNat 3)], (false, ())), ([(.ofNat 131070)], ())), (([(.ofNat 393210)], (false, ())), ())),
 ((([], (false, ())), ([(.ofNat 131070)], ())), (([], (false, ())), ()))]))
theorem q1_103 : okH (pureKD Tryz.prog sigC 100000 ext0 40) 103 z55 z60 (t1_103 : HTr ((Ty.T z55) × (Ty.T z60))) = true := by kernel_rfl
def t1_104 : HTr (v65 × v60) := .node 113789 (.leaf [((([(.ofNat 3)], (false, ())), (([(.ofNat 2)], (true, ())), ())), (([(.ofNat 1)], (false, ())), ())),
 ((([], (false, ())), (([(.ofNat 21845)], (false, ())), ())), (([(.ofNat 21845)], (false, ())), ())),
 ((([(.ofNat 1)], (false, ())), (([], (false, ())), ())), (([(.ofNat 1)], (false, ())), ()))]) (.leaf [((([(.ofNat 3)], (false, ())), (([], (false, ())), ())), (([(.ofNat 3)], (false, ())), ())),
 ((([], (false, ())), (([], (false, ())), ())), (([], (false, ())), ())),
 ((([(.ofNat 65536)], (false, ())), (([(.ofNat 65535)], (true, ())), ())), (([(.ofNat 1)], (false, ())), ())),
 ((([(.ofNat 1)], (false, ())), (([(.ofNat 1)], (true, ())), ())), (([], (false, ())), ()))])
theorem q1_104 : okH (pureKD Tryz.prog sigC 100000 ext0 40) 104 z65 z60 (t1_104 : HTr ((Ty.T z65) × (Ty.T z60))) = true := by kernel_rfl
def t1_114 : HTr (v5 × v66) := .node 533766 (.node 449592 (.node 108240 (.leaf [(([49,54,51,56,52], ([45], ())), ([49,54,51,56,52], (false, ()))),
 (([49,55,52,55,54,48], ([45], ())), ([49,55,52,55,54,48], (false, ()))),
 (([50,54,50,49,52,48], ([45], ())), ([50,54,50,49,52,48], (false, ())))]) (.leaf [(([50,49,56,52,53], ([45], ())), ([50,49,56,52,53], (false, ()))),
 (([53,50,52,50,56,48], ([45], ())), ([53,50,52,50,56,48], (false, ()))),
 (([54,53,53,51,53], ([45], ())), ([54,53,53,51,53], (false, ())))])) (.node 492589 (.leaf [(([49,51,49,48,55,48], ([45], ())), ([49,51,49,48,55,48], (false, ()))),
 (([50,52,53,55,54], ([45], ())), ([50,52,53,55,54], (false, ()))),
 (([52,57,49,53,49], ([45], ())), ([52,57,49,53,49], (false, ())))]) (.leaf [(([48], ([45], ())), ([48], (false, ()))),
 (([49], ([45], ())), ([49], (false, ()))),
 (([50], ([45], ())), ([50], (false, ())))]))) (.node 539820 (.node 536793 (.leaf [(([51], ([45], ())), ([51], (false, ()))),
 (([52], ([45], ())), ([52], (false, ()))),
 (([53], ([45], ())), ([53], (false, ())))]) (.leaf [(([54], ([45], ())), ([54], (false, ()))),
 (([55], ([45], ())), ([55], (false, ()))),
 (([56], ([45], ())), ([56], (false, ())))])) (.node 665273 (.leaf [(([52,48,57,53,57], ([45], ())), ([52,48,57,53,57], (false, ()))),
 (([45,49], ([45], ())), ([49], (true, ()))),
 (([49,50], ([45], ())), ([49,50], (false, ())))]) (.leaf [(([49,51,54,53,51], ([45], ())), ([49,51,54,53,51], (false, ()))),
 (([56,49,57,50], ([45], ())), ([56,49,57,50], (false, ()))),
 (([51,50,55,54,56], ([45], ())), ([51,50,55,54,56], (false, ()))),
 (([53,55,51,52,51], ([45], ())), ([53,55,51,52,51], (false, ())))])))
theorem q1_114 : okH (pureKD Tryz.prog sigC 100000 ext0 40) 114 z5 z66 (t1_114 : HTr ((Ty.T z5) × (Ty.T z66))) = true := by kernel_rfl
def t1_115 : HTr (v4 × v54) := .leaf [(([49], ()), ([(.ofNat 1)], ()))]
theorem q1_115 : okH (pureKD Tryz.prog sigC 100000 ext0 40) 115 z4 z54 (t1_115 : HTr ((Ty.T z4) × (Ty.T z54))) = true := by kernel_rfl
def t1_116 : HTr (v64 × v64) := .node 446992 (.node 441947 (.node 297833 (.leaf [(([(.ofNat 49151)], ([(.ofNat 1)], ())), ([(.ofNat 49151)], ([], ()))),
 (([(.ofNat 57343)], ([(.ofNat 1)], ())), ([(.ofNat 57343)], ([], ())))]) (.leaf [(([(.ofNat 1)], ([(.ofNat 1)], ())), ([(.ofNat 1)], ([], ()))),
 (([(.ofNat 3)], ([(.ofNat 1)], ())), ([(.ofNat 3)], ([], ()))),
 (([(.ofNat 2)], ([(.ofNat 2)], ())), ([(.ofNat 1)], ([], ())))])) (.leaf [(([(.ofNat 4)], ([(.ofNat 1)], ())), ([(.ofNat 4)], ([], ()))),
 (([(.ofNat 4)], ([(.ofNat 2)], ())), ([(.ofNat 2)], ([], ()))),
 (([(.ofNat 4)], ([(.ofNat 4)], ())), ([(.ofNat 1)], ([], ()))),
 (([(.ofNat 8)], ([(.ofNat 1)], ())), ([(.ofNat 8)], ([], ())))])) (.node 501733 (.leaf [(([(.ofNat 8)], ([(.ofNat 2)], ())), ([(.ofNat 4)], ([], ()))),
 (([(.ofNat 8)], ([(.ofNat 8)], ())), ([(.ofNat 1)], ([], ()))),
 (([(.ofNat 21845)], ([(.ofNat 1)], ())), ([(.ofNat 21845)], ([], ()))),
 (([(.ofNat 32768)], ([(.ofNat 1)], ())), ([(.ofNat 32768)], ([], ())))]) (.node 565555 (.leaf [(([(.ofNat 65535)], ([(.ofNat 1)], ())), ([(.ofNat 65535)], ([], ()))),
 (([(.ofNat 65535)], ([(.ofNat 3)], ())), ([(.ofNat 21845)], ([], ())))]) (.leaf [(([(.ofNat 65535)], ([(.ofNat 65535)], ())), ([(.ofNat 1)], ([], ()))),
 (([(.ofNat 8192)], ([(.ofNat 1)], ())), ([(.ofNat 8192)], ([], ()))),
 (([(.ofNat 16384)], ([(.ofNat 1)], ())), ([(.ofNat 16384)], ([], ())))])))
theorem q1_116 : okH (pureKD Tryz.prog sigC 100000 ext0 40) 116 z64 z64 (t1_116 : HTr ((Ty.T z64) × (Ty.T z64))) = true := by kernel_rfl
def t1_118 : HTr (v54 × v4) := .node 222994 (.node 219967 (.leaf [(([(.ofNat 524280)], ()), ([53,50,52,50,56,48], ())),
 (([(.ofNat 1)], ()), ([49], ()))]) (.leaf [(([(.ofNat 2)], ()), ([50], ())),
 (([(.ofNat 3)], ()), ([51], ())),
 (([(.ofNat 4)], ()), ([52], ()))])) (.node 260497 (.leaf [(([(.ofNat 8)], ()), ([56], ())),
 (([(.ofNat 21845)], ()), ([50,49,56,52,53], ()))]) (.leaf [(([(.ofNat 65535)], ()), ([54,53,53,51,53], ())),
 (([(.ofNat 174760)], ()), ([49,55,52,55,54,48], ())),
 (([(.ofNat 262140)], ()), ([50,54,50,49,52,48], ()))]))
theorem q1_118 : okH (pureKD Tryz.prog sigC 100000 ext0 40) 118 z54 z4 (t1_118 : HTr ((Ty.T z54) × (Ty.T z4))) = true := by kernel_rfl
def t1_126 : HTr (v64 × v54) := .node 439929 (.leaf [(([], ([(.ofNat 1)], ())), ([], ())),
 (([(.ofNat 1)], ([], ())), ([], ())),
 (([(.ofNat 1)], ([(.ofNat 1)], ())), ([(.ofNat 1)], ()))]) (.leaf [(([(.ofNat 8)], ([(.ofNat 2)], ())), ([(.ofNat 16)], ())),
 (([(.ofNat 8192)], ([(.ofNat 1)], ())), ([(.ofNat 8192)], ()))])
theorem q1_126 : okH (pureKD Tryz.prog sigC 100000 ext0 40) 126 z64 z54 (t1_126 : HTr ((Ty.T z64) × (Ty.T z54))) = true := by kernel_rfl
def t1_155 : HTr (v64 × v54) := .leaf [(([(.ofNat 174760)], ([(.ofNat 131070)], ())), ([(.ofNat 43690)], ())),
 (([(.ofNat 2)], ([(.ofNat 1)], ())), ([(.ofNat 1)], ())),
 (([(.ofNat 4)], ([(.ofNat 3)], ())), ([(.ofNat 1)], ()))]
theorem q1_155 : okH (pureKD Tryz.prog sigC 100000 ext0 40) 155 z64 z54 (t1_155 : HTr ((Ty.T z64) × (Ty.T z54))) = true := by kernel_rfl
def t1_160 : HTr (v4 × v54) := .leaf [(([49], ()), ([(.ofNat 1)], ()))]
theorem q1_160 : okH (pureKD Tryz.prog sigC 100000 ext0 40) 160 z4 z54 (t1_160 : HTr ((Ty.T z4) × (Ty.T z54))) = true := by kernel_rfl
def t1_162 : HTr (v54 × v54) := .node 789548 (.node 119839 (.leaf [(([(.ofNat 131070), (.ofNat 0)], ()), ([(.ofNat 131070)], ())),
 (([(.ofNat 174760), (.ofNat 0)], ()), ([(.ofNat 174760)], ()))]) (.leaf [(([(.ofNat 262140), (.ofNat 0)], ()), ([(.ofNat 262140)], ())),
 (([(.ofNat 524280), (.ofNat 0)], ()), ([(.ofNat 524280)], ())),
 (([(.ofNat 2), (.ofNat 0)], ()), ([(.ofNat 2)], ()))])) (.node 795602 (.leaf [(([(.ofNat 3), (.ofNat 0)], ()), ([(.ofNat 3)], ())),
 (([(.ofNat 4), (.ofNat 0)], ()), ([(.ofNat 4)], ())),
 (([(.ofNat 8), (.ofNat 0)], ()), ([(.ofNat 8)], ()))]) (.leaf [(([(.ofNat 21845), (.ofNat 0)], ()), ([(.ofNat 21845)], ())),
 (([(.ofNat 65535), (.ofNat 0)], ()), ([(.ofNat 65535)], ())),
 (([(.ofNat 65536), (.ofNat 0)], ()), ([(.ofNat 65536)], ()))]))
theorem q1_162 : okH (pureKD Tryz.prog sigC 100000 ext0 40) 162 z54 z54 (t1_162 : HTr ((Ty.T z54) × (Ty.T z54))) = true := by kernel_rfl
def t1_181 : HTr (v57 × v57) := .leaf [(((([(.ofNat 1)], (false, ())), ([(.ofNat 2)], ())), ()), ((([(.ofNat 1)], (true, ())), ([(.ofNat 2)], ())), ())),
 (((([(.ofNat 1)], (false, ())), ([(.ofNat 4)], ())), ()), ((([(.ofNat 1)], (true, ())), ([(.ofNat 4)], ())), ())),
 (((([], (false, ())), ([(.ofNat 1)], ())), ()), ((([], (false, ())), ([(.ofNat 1)], ())), ()))]
theorem q1_181 : okH (pureKD Tryz.prog sigC 100000 ext0 40) 181 z57 z57 (t1_181 : HTr ((Ty.T z57) × (Ty.T z57))) = true := by kernel_rfl
end Go.Vg
