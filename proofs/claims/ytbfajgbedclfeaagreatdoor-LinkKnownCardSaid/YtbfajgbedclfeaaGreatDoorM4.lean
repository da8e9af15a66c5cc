/- Calls that have been run: part 4. -/
import Derived.Test.YtbfajgbedclfeaaGreatDoorM1
import Derived.Test.YtbfajgbedclfeaaGreatDoorM2
import Derived.Test.YtbfajgbedclfeaaGreatDoorM3
namespace Go.Vg
open Go Go.Proofs
set_option maxRecDepth 1000000
set_option maxHeartbeats 0
def r1_18 : RowH := ⟨18, z32, z11, t1_18⟩
theorem a1_18 : AtRow Tryz.prog (Gt Tryz.prog) r1_18 := at_row p0 q1_18
def t1_29 : HTr (v43 × v10) := (.node 469033 t1_29_0 t1_29_1)
theorem q1_29 : okH (pureKD Tryz.prog sigC 100000 ext0 40) 29 z43 z10 (t1_29 : HTr ((Ty.T z43) × (Ty.T z10))) = true := (okH_node q1_29_0 q1_29_1)
def r1_29 : RowH := ⟨29, z43, z10, t1_29⟩
theorem a1_29 : AtRow Tryz.prog (Gt Tryz.prog) r1_29 := at_row p0 q1_29
def r1_36 : RowH := ⟨36, z44, z10, t1_36⟩
theorem a1_36 : AtRow Tryz.prog (Gt Tryz.prog) r1_36 := at_row p0 q1_36
def r1_37 : RowH := ⟨37, z44, z33, t1_37⟩
theorem a1_37 : AtRow Tryz.prog (Gt Tryz.prog) r1_37 := at_row p0 q1_37
def r1_49 : RowH := ⟨49, z1, z10, t1_49⟩
theorem a1_49 : AtRow Tryz.prog (Gt Tryz.prog) r1_49 := at_row p0 q1_49
def r1_82 : RowH := ⟨82, z60, z4, t1_82⟩
theorem a1_82 : AtRow Tryz.prog (Gt Tryz.prog) r1_82 := at_row p0 q1_82
def r1_101 : RowH := ⟨101, z64, z54, t1_101⟩
theorem a1_101 : AtRow Tryz.prog (Gt Tryz.prog) r1_101 := at_row p0 q1_101
def r1_102 : RowH := ⟨102, z64, z10, t1_102⟩
theorem a1_102 : AtRow Tryz.prog (Gt Tryz.prog) r1_102 := at_row p0 q1_102
def r1_103 : RowH := ⟨103, z55, z60, t1_103⟩
theorem a1_103 : AtRow Tryz.prog (Gt Tryz.prog) r1_103 := at_row p0 q1_103
def r1_104 : RowH := ⟨104, z65, z60, t1_104⟩
theorem a1_104 : AtRow Tryz.prog (Gt Tryz.prog) r1_104 := at_row p0 q1_104
def r1_114 : RowH := ⟨114, z5, z66, t1_114⟩
theorem a1_114 : AtRow Tryz.prog (Gt Tryz.prog) r1_114 := at_row p0 q1_114
def r1_115 : RowH := ⟨115, z4, z54, t1_115⟩
theorem a1_115 : AtRow Tryz.prog (Gt Tryz.prog) r1_115 := at_row p0 q1_115
def r1_116 : RowH := ⟨116, z64, z64, t1_116⟩
theorem a1_116 : AtRow Tryz.prog (Gt Tryz.prog) r1_116 := at_row p0 q1_116
def r1_118 : RowH := ⟨118, z54, z4, t1_118⟩
theorem a1_118 : AtRow Tryz.prog (Gt Tryz.prog) r1_118 := at_row p0 q1_118
def r1_126 : RowH := ⟨126, z64, z54, t1_126⟩
theorem a1_126 : AtRow Tryz.prog (Gt Tryz.prog) r1_126 := at_row p0 q1_126
def r1_155 : RowH := ⟨155, z64, z54, t1_155⟩
theorem a1_155 : AtRow Tryz.prog (Gt Tryz.prog) r1_155 := at_row p0 q1_155
def r1_160 : RowH := ⟨160, z4, z54, t1_160⟩
theorem a1_160 : AtRow Tryz.prog (Gt Tryz.prog) r1_160 := at_row p0 q1_160
def r1_162 : RowH := ⟨162, z54, z54, t1_162⟩
theorem a1_162 : AtRow Tryz.prog (Gt Tryz.prog) r1_162 := at_row p0 q1_162
def r1_181 : RowH := ⟨181, z57, z57, t1_181⟩
theorem a1_181 : AtRow Tryz.prog (Gt Tryz.prog) r1_181 := at_row p0 q1_181
def rows1 : List RowH := [r1_114, r1_118, r1_162, r1_126, r1_102, r1_18, r1_104, r1_116, r1_101, r1_155, r1_160, r1_36, r1_37, r1_29, r1_49, r1_82, r1_103, r1_115, r1_181]
noncomputable def ext1 : PureT := firstR (extTabH rows1) ext0
theorem ext1_ok : PureOk Tryz.prog (Gt Tryz.prog) ext1 := layer_at (rows := rows1) ⟨a1_114, ⟨a1_118, ⟨a1_162, ⟨a1_126, ⟨a1_102, ⟨a1_18, ⟨a1_104, ⟨a1_116, ⟨a1_101, ⟨a1_155, ⟨a1_160, ⟨a1_36, ⟨a1_37, ⟨a1_29, ⟨a1_49, ⟨a1_82, ⟨a1_103, ⟨a1_115, ⟨a1_181, trivial⟩⟩⟩⟩⟩⟩⟩⟩⟩⟩⟩⟩⟩⟩⟩⟩⟩⟩⟩ ext0_ok
end Go.Vg
