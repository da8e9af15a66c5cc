/- Calls that have been run: part 15. -/
import Derived.Test.YtoibdlakkekkeaaGreatDoorM13
import Derived.Test.YtoibdlakkekkeaaGreatDoorM14
namespace Go.Vg
open Go Go.Proofs
set_option maxRecDepth 1000000
set_option maxHeartbeats 0
def r7_6 : RowH := ⟨6, z28, z37, t7_6⟩
theorem a7_6 : AtRow Tryz.prog (Gt Tryz.prog) r7_6 := at_row p6 q7_6
def r7_20 : RowH := ⟨20, z43, z44, t7_20⟩
theorem a7_20 : AtRow Tryz.prog (Gt Tryz.prog) r7_20 := at_row p6 q7_20
def R7_20 : RowH := RowH.or r6_20 t7_20
theorem b7_20 : AtRow Tryz.prog (Gt Tryz.prog) R7_20 := at_or a6_20 a7_20
def rows7 : List RowH := [r1_34, r3_14, r4_37, R7_20, r4_33, r1_32, R4_31, R4_17, R2_86, r3_52, r1_54, r1_89, r1_98, r2_68, r2_69, R4_36, r4_38, R2_65, r1_83, r4_25, R3_43, r1_56, r1_84, R2_85, R2_87, r1_100, r1_102, r1_114, r1_133, r1_158, R3_59, r2_62, r2_66, r2_88, r2_135, R4_47, r3_182, r3_187, R6_45, r4_46, r4_48, r4_49, r5_12, r5_162, r7_6]
noncomputable def ext7 : PureT := firstR (extTabH rows7) ext0
theorem ext7_ok : PureOk Tryz.prog (Gt Tryz.prog) ext7 := layer_at (rows := rows7) ⟨a1_34, ⟨a3_14, ⟨a4_37, ⟨b7_20, ⟨a4_33, ⟨a1_32, ⟨b4_31, ⟨b4_17, ⟨b2_86, ⟨a3_52, ⟨a1_54, ⟨a1_89, ⟨a1_98, ⟨a2_68, ⟨a2_69, ⟨b4_36, ⟨a4_38, ⟨b2_65, ⟨a1_83, ⟨a4_25, ⟨b3_43, ⟨a1_56, ⟨a1_84, ⟨b2_85, ⟨b2_87, ⟨a1_100, ⟨a1_102, ⟨a1_114, ⟨a1_133, ⟨a1_158, ⟨b3_59, ⟨a2_62, ⟨a2_66, ⟨a2_88, ⟨a2_135, ⟨b4_47, ⟨a3_182, ⟨a3_187, ⟨b6_45, ⟨a4_46, ⟨a4_48, ⟨a4_49, ⟨a5_12, ⟨a5_162, ⟨a7_6, trivial⟩⟩⟩⟩⟩⟩⟩⟩⟩⟩⟩⟩⟩⟩⟩⟩⟩⟩⟩⟩⟩⟩⟩⟩⟩⟩⟩⟩⟩⟩⟩⟩⟩⟩⟩⟩⟩⟩⟩⟩⟩⟩⟩⟩⟩ ext0_ok
end Go.Vg
