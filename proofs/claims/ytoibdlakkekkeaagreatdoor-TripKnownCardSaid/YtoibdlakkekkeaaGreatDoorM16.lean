/- Calls that have been run: part 16. -/
import Derived.Test.YtoibdlakkekkeaaGreatDoorM15
namespace Go.Vg
open Go Go.Proofs
set_option maxRecDepth 1000000
set_option maxHeartbeats 0
theorem p7 : PureOk Tryz.prog (Gt Tryz.prog) (pureKD Tryz.prog sigC 100000 ext7 40) := pure_at gmono mixed enterSig ext7_ok 100000 40
def t8_4 : HTr (Unit × v0) := .leaf [((), (true, ()))]
theorem q8_4 : okH (pureKD Tryz.prog sigC 100000 ext7 40) 4 .unit z0 (t8_4 : HTr ((Ty.T .unit) × (Ty.T z0))) = true := by kernel_rfl
def r8_4 : RowH := ⟨4, .unit, z0, t8_4⟩
theorem a8_4 : AtRow Tryz.prog (Gt Tryz.prog) r8_4 := at_row p7 q8_4
def rows8 : List RowH := [R4_17, r1_32, r1_34, R3_43, r1_54, r1_56, R2_65, r1_83, r1_84, R2_85, R2_86, R2_87, r1_89, r1_98, r1_100, r1_102, r1_114, r1_133, r1_158, R3_59, r2_62, r2_66, r2_68, r2_69, r2_88, r2_135, r3_14, R4_31, R4_36, R4_47, r3_52, r3_182, r3_187, r4_25, r4_33, r4_37, r4_38, R6_45, r4_46, r4_48, r4_49, r5_12, r5_162, R7_20, r7_6, r8_4]
noncomputable def ext8 : PureT := firstR (extTabH rows8) ext0
theorem ext8_ok : PureOk Tryz.prog (Gt Tryz.prog) ext8 := layer_at (rows := rows8) ⟨b4_17, ⟨a1_32, ⟨a1_34, ⟨b3_43, ⟨a1_54, ⟨a1_56, ⟨b2_65, ⟨a1_83, ⟨a1_84, ⟨b2_85, ⟨b2_86, ⟨b2_87, ⟨a1_89, ⟨a1_98, ⟨a1_100, ⟨a1_102, ⟨a1_114, ⟨a1_133, ⟨a1_158, ⟨b3_59, ⟨a2_62, ⟨a2_66, ⟨a2_68, ⟨a2_69, ⟨a2_88, ⟨a2_135, ⟨a3_14, ⟨b4_31, ⟨b4_36, ⟨b4_47, ⟨a3_52, ⟨a3_182, ⟨a3_187, ⟨a4_25, ⟨a4_33, ⟨a4_37, ⟨a4_38, ⟨b6_45, ⟨a4_46, ⟨a4_48, ⟨a4_49, ⟨a5_12, ⟨a5_162, ⟨b7_20, ⟨a7_6, ⟨a8_4, trivial⟩⟩⟩⟩⟩⟩⟩⟩⟩⟩⟩⟩⟩⟩⟩⟩⟩⟩⟩⟩⟩⟩⟩⟩⟩⟩⟩⟩⟩⟩⟩⟩⟩⟩⟩⟩⟩⟩⟩⟩⟩⟩⟩⟩⟩⟩ ext0_ok
theorem p8 : PureOk Tryz.prog (Gt Tryz.prog) (pureKD Tryz.prog sigC 100000 ext8 40) := pure_at gmono mixed enterSig ext8_ok 100000 40
def rows9 : List RowH := [r1_34, r3_14, R7_20, R4_31, R4_17, r4_38, r5_12, r4_33, r3_52, r4_25, R6_45, R2_65, r2_62, R4_47, r4_37, r4_46, r4_48, r4_49, r7_6, r8_4, r1_32, R3_43, r1_54, r1_56, r1_83, r1_84, R2_85, R2_86, R2_87, r1_89, r1_98, r1_100, r1_102, r1_114, r1_133, r1_158, R3_59, r2_66, r2_68, r2_69, r2_88, r2_135, R4_36, r3_182, r3_187, r5_162]
noncomputable def ext9 : PureT := firstR (extTabH rows9) ext0
theorem ext9_ok : PureOk Tryz.prog (Gt Tryz.prog) ext9 := layer_at (rows := rows9) ⟨a1_34, ⟨a3_14, ⟨b7_20, ⟨b4_31, ⟨b4_17, ⟨a4_38, ⟨a5_12, ⟨a4_33, ⟨a3_52, ⟨a4_25, ⟨b6_45, ⟨b2_65, ⟨a2_62, ⟨b4_47, ⟨a4_37, ⟨a4_46, ⟨a4_48, ⟨a4_49, ⟨a7_6, ⟨a8_4, ⟨a1_32, ⟨b3_43, ⟨a1_54, ⟨a1_56, ⟨a1_83, ⟨a1_84, ⟨b2_85, ⟨b2_86, ⟨b2_87, ⟨a1_89, ⟨a1_98, ⟨a1_100, ⟨a1_102, ⟨a1_114, ⟨a1_133, ⟨a1_158, ⟨b3_59, ⟨a2_66, ⟨a2_68, ⟨a2_69, ⟨a2_88, ⟨a2_135, ⟨b4_36, ⟨a3_182, ⟨a3_187, ⟨a5_162, trivial⟩⟩⟩⟩⟩⟩⟩⟩⟩⟩⟩⟩⟩⟩⟩⟩⟩⟩⟩⟩⟩⟩⟩⟩⟩⟩⟩⟩⟩⟩⟩⟩⟩⟩⟩⟩⟩⟩⟩⟩⟩⟩⟩⟩⟩⟩ ext0_ok
end Go.Vg
