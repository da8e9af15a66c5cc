/- Calls that have been run: part 6. -/
import Derived.Test.YtoibdlakkekkeaaGreatDoorM3
import Derived.Test.YtoibdlakkekkeaaGreatDoorM4
import Derived.Test.YtoibdlakkekkeaaGreatDoorM5
namespace Go.Vg
open Go Go.Proofs
set_option maxRecDepth 1000000
set_option maxHeartbeats 0
def r5_12 : RowH := ⟨12, z38, z2, t5_12⟩
theorem a5_12 : AtRow Tryz.prog (Gt Tryz.prog) r5_12 := at_row p4 q5_12
def t5_45 : HTr (v48 × v49) := (.node 536072 (.node 252108 (.node 89819 (.node 40964 t5_45_0 t5_45_1) (.node 143798 t5_45_2 (.node 195838 t5_45_3 t5_45_4))) (.node 400012 (.node 295074 t5_45_5 (.node 345778 t5_45_6 t5_45_7)) (.node 442946 t5_45_8 (.node 502067 t5_45_9 t5_45_10)))) (.node 758371 (.node 635265 (.node 587412 t5_45_11 t5_45_12) (.node 668394 t5_45_13 (.node 719432 t5_45_14 t5_45_15))) (.node 890901 (.node 799890 t5_45_16 (.node 851596 t5_45_17 t5_45_18)) (.node 938801 t5_45_19 (.node 989505 t5_45_20 t5_45_21)))))
theorem q5_45 : okH (pureKD Tryz.prog sigC 100000 ext4 40) 45 z48 z49 (t5_45 : HTr ((Ty.T z48) × (Ty.T z49))) = true := (okH_node (okH_node (okH_node (okH_node q5_45_0 q5_45_1) (okH_node q5_45_2 (okH_node q5_45_3 q5_45_4))) (okH_node (okH_node q5_45_5 (okH_node q5_45_6 q5_45_7)) (okH_node q5_45_8 (okH_node q5_45_9 q5_45_10)))) (okH_node (okH_node (okH_node q5_45_11 q5_45_12) (okH_node q5_45_13 (okH_node q5_45_14 q5_45_15))) (okH_node (okH_node q5_45_16 (okH_node q5_45_17 q5_45_18)) (okH_node q5_45_19 (okH_node q5_45_20 q5_45_21)))))
def r5_45 : RowH := ⟨45, z48, z49, t5_45⟩
theorem a5_45 : AtRow Tryz.prog (Gt Tryz.prog) r5_45 := at_row p4 q5_45
def R5_45 : RowH := RowH.or r4_45 t5_45
theorem b5_45 : AtRow Tryz.prog (Gt Tryz.prog) R5_45 := at_or a4_45 a5_45
def r5_162 : RowH := ⟨162, z46, z46, t5_162⟩
theorem a5_162 : AtRow Tryz.prog (Gt Tryz.prog) r5_162 := at_row p4 q5_162
def rows5 : List RowH := [r1_34, r4_46, r4_48, R4_47, r4_49, R4_31, R5_45, r1_98, r3_52, r1_83, R2_86, R2_65, r2_135, r3_182, r4_33, R3_43, r1_158, r3_14, r4_38, r5_162, r1_56, r2_68, r1_84, R2_85, r3_187, r1_54, r1_102, r2_69, R2_87, r1_114, r2_62, r2_88, R4_17, r1_32, r1_89, r1_100, r1_133, R3_59, r2_66, R4_36, r4_25, r4_37, r5_12]
noncomputable def ext5 : PureT := firstR (extTabH rows5) ext0
theorem ext5_ok : PureOk Tryz.prog (Gt Tryz.prog) ext5 := layer_at (rows := rows5) ⟨a1_34, ⟨a4_46, ⟨a4_48, ⟨b4_47, ⟨a4_49, ⟨b4_31, ⟨b5_45, ⟨a1_98, ⟨a3_52, ⟨a1_83, ⟨b2_86, ⟨b2_65, ⟨a2_135, ⟨a3_182, ⟨a4_33, ⟨b3_43, ⟨a1_158, ⟨a3_14, ⟨a4_38, ⟨a5_162, ⟨a1_56, ⟨a2_68, ⟨a1_84, ⟨b2_85, ⟨a3_187, ⟨a1_54, ⟨a1_102, ⟨a2_69, ⟨b2_87, ⟨a1_114, ⟨a2_62, ⟨a2_88, ⟨b4_17, ⟨a1_32, ⟨a1_89, ⟨a1_100, ⟨a1_133, ⟨b3_59, ⟨a2_66, ⟨b4_36, ⟨a4_25, ⟨a4_37, ⟨a5_12, trivial⟩⟩⟩⟩⟩⟩⟩⟩⟩⟩⟩⟩⟩⟩⟩⟩⟩⟩⟩⟩⟩⟩⟩⟩⟩⟩⟩⟩⟩⟩⟩⟩⟩⟩⟩⟩⟩⟩⟩⟩⟩⟩⟩ ext0_ok
end Go.Vg
