/- Calls that have been run: part 11. -/
import Derived.Test.YtoibdlakkekkeaaGreatDoorM8
import Derived.Test.YtoibdlakkekkeaaGreatDoorM9
import Derived.Test.YtoibdlakkekkeaaGreatDoorM10
namespace Go.Vg
open Go Go.Proofs
set_option maxRecDepth 1000000
set_option maxHeartbeats 0
def t6_20 : HTr (v43 × v44) := (.node 478256 (.node 203217 (.node 80937 (.node 45560 t6_20_0 t6_20_1) (.node 127756 t6_20_2 (.node 166106 t6_20_3 t6_20_4))) (.node 335794 (.node 249781 t6_20_5 (.node 298970 t6_20_6 t6_20_7)) (.node 383805 t6_20_8 (.node 431658 t6_20_9 t6_20_10)))) (.node 767732 (.node 621909 (.node 533379 t6_20_11 (.node 570569 t6_20_12 t6_20_13)) (.node 672656 t6_20_14 (.node 708812 t6_20_15 t6_20_16))) (.node 895878 (.node 804565 t6_20_17 (.node 840721 t6_20_18 t6_20_19)) (.node 929506 t6_20_20 (.node 968190 t6_20_21 t6_20_22)))))
theorem q6_20 : okH (pureKD Tryz.prog sigC 100000 ext5 40) 20 z43 z44 (t6_20 : HTr ((Ty.T z43) × (Ty.T z44))) = true := (okH_node (okH_node (okH_node (okH_node q6_20_0 q6_20_1) (okH_node q6_20_2 (okH_node q6_20_3 q6_20_4))) (okH_node (okH_node q6_20_5 (okH_node q6_20_6 q6_20_7)) (okH_node q6_20_8 (okH_node q6_20_9 q6_20_10)))) (okH_node (okH_node (okH_node q6_20_11 (okH_node q6_20_12 q6_20_13)) (okH_node q6_20_14 (okH_node q6_20_15 q6_20_16))) (okH_node (okH_node q6_20_17 (okH_node q6_20_18 q6_20_19)) (okH_node q6_20_20 (okH_node q6_20_21 q6_20_22)))))
def r6_20 : RowH := ⟨20, z43, z44, t6_20⟩
theorem a6_20 : AtRow Tryz.prog (Gt Tryz.prog) r6_20 := at_row p5 q6_20
def r6_45 : RowH := ⟨45, z48, z49, t6_45⟩
theorem a6_45 : AtRow Tryz.prog (Gt Tryz.prog) r6_45 := at_row p5 q6_45
def R6_45 : RowH := RowH.or R5_45 t6_45
theorem b6_45 : AtRow Tryz.prog (Gt Tryz.prog) R6_45 := at_or b5_45 a6_45
def rows6 : List RowH := [r1_34, r3_14, r4_37, r6_20, r1_32, r4_33, R4_31, R6_45, r4_46, R4_47, r4_48, r4_49, R4_17, R4_36, R3_43, r1_54, r1_56, R2_65, r1_83, r1_84, R2_85, R2_86, R2_87, r1_89, r1_98, r1_100, r1_102, r1_114, r1_133, r1_158, R3_59, r2_62, r2_66, r2_68, r2_69, r2_88, r2_135, r3_52, r3_182, r3_187, r4_25, r4_38, r5_12, r5_162]
noncomputable def ext6 : PureT := firstR (extTabH rows6) ext0
theorem ext6_ok : PureOk Tryz.prog (Gt Tryz.prog) ext6 := layer_at (rows := rows6) ⟨a1_34, ⟨a3_14, ⟨a4_37, ⟨a6_20, ⟨a1_32, ⟨a4_33, ⟨b4_31, ⟨b6_45, ⟨a4_46, ⟨b4_47, ⟨a4_48, ⟨a4_49, ⟨b4_17, ⟨b4_36, ⟨b3_43, ⟨a1_54, ⟨a1_56, ⟨b2_65, ⟨a1_83, ⟨a1_84, ⟨b2_85, ⟨b2_86, ⟨b2_87, ⟨a1_89, ⟨a1_98, ⟨a1_100, ⟨a1_102, ⟨a1_114, ⟨a1_133, ⟨a1_158, ⟨b3_59, ⟨a2_62, ⟨a2_66, ⟨a2_68, ⟨a2_69, ⟨a2_88, ⟨a2_135, ⟨a3_52, ⟨a3_182, ⟨a3_187, ⟨a4_25, ⟨a4_38, ⟨a5_12, ⟨a5_162, trivial⟩⟩⟩⟩⟩⟩⟩⟩⟩⟩⟩⟩⟩⟩⟩⟩⟩⟩⟩⟩⟩⟩⟩⟩⟩⟩⟩⟩⟩⟩⟩⟩⟩⟩⟩⟩⟩⟩⟩⟩⟩⟩⟩⟩ ext0_ok
end Go.Vg
