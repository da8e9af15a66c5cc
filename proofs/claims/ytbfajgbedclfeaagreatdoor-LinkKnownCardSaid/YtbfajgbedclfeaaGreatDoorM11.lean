/- Calls that have been run: part 11. -/
import Derived.Test.YtbfajgbedclfeaaGreatDoorM7
import Derived.Test.YtbfajgbedclfeaaGreatDoorM8
import Derived.Test.YtbfajgbedclfeaaGreatDoorM9
import Derived.Test.YtbfajgbedclfeaaGreatDoorM10
namespace Go.Vg
open Go Go.Proofs
set_option maxRecDepth 1000000
set_option maxHeartbeats 0
def r5_22 : RowH := ⟨22, z42, z9, t5_22⟩
theorem a5_22 : AtRow Tryz.prog (Gt Tryz.prog) r5_22 := at_row p4 q5_22
def r5_51 : RowH := ⟨51, z50, z51, t5_51⟩
theorem a5_51 : AtRow Tryz.prog (Gt Tryz.prog) r5_51 := at_row p4 q5_51
def t5_77 : HTr (v61 × v51) := (.node 486948 (.node 212101 (.node 80000 (.node 38359 t5_77_0 t5_77_1) (.node 127810 t5_77_2 (.node 165537 t5_77_3 t5_77_4))) (.node 353592 (.node 268757 t5_77_5 (.node 303588 t5_77_6 t5_77_7)) (.node 396786 t5_77_8 (.node 432714 t5_77_9 t5_77_10)))) (.node 752405 (.node 618891 (.node 530142 t5_77_11 (.node 567395 t5_77_12 t5_77_13)) (.node 656460 t5_77_14 (.node 699338 t5_77_15 t5_77_16))) (.node 875353 (.node 788561 t5_77_17 (.node 832694 t5_77_18 t5_77_19)) (.node 911509 t5_77_20 (.node 957757 t5_77_21 t5_77_22)))))
theorem q5_77 : okH (pureKD Tryz.prog sigC 100000 ext4 40) 77 z61 z51 (t5_77 : HTr ((Ty.T z61) × (Ty.T z51))) = true := (okH_node (okH_node (okH_node (okH_node q5_77_0 q5_77_1) (okH_node q5_77_2 (okH_node q5_77_3 q5_77_4))) (okH_node (okH_node q5_77_5 (okH_node q5_77_6 q5_77_7)) (okH_node q5_77_8 (okH_node q5_77_9 q5_77_10)))) (okH_node (okH_node (okH_node q5_77_11 (okH_node q5_77_12 q5_77_13)) (okH_node q5_77_14 (okH_node q5_77_15 q5_77_16))) (okH_node (okH_node q5_77_17 (okH_node q5_77_18 q5_77_19)) (okH_node q5_77_20 (okH_node q5_77_21 q5_77_22)))))
def r5_77 : RowH := ⟨77, z61, z51, t5_77⟩
theorem a5_77 : AtRow Tryz.prog (Gt Tryz.prog) r5_77 := at_row p4 q5_77
def r5_92 : RowH := ⟨92, z62, z63, t5_92⟩
theorem a5_92 : AtRow Tryz.prog (Gt Tryz.prog) r5_92 := at_row p4 q5_92
def rows5 : List RowH := [r3_21, R4_85, r4_43, r4_78, r4_86, r4_87, r4_88, r5_77, r1_18, r1_29, r1_36, r1_37, r1_49, r1_82, r1_101, r1_102, R3_103, R2_104, r1_114, r1_115, R2_116, r1_118, R2_126, r1_155, r1_160, r1_162, r1_181, r2_16, r2_19, R3_57, r2_59, r2_68, r2_69, r2_73, r2_123, r2_127, r2_130, r2_180, r3_15, r3_54, r4_11, r4_30, r4_31, r4_98, r4_150, r5_22, r5_51, r5_92]
noncomputable def ext5 : PureT := firstR (extTabH rows5) ext0
theorem ext5_ok : PureOk Tryz.prog (Gt Tryz.prog) ext5 := layer_at (rows := rows5) ⟨a3_21, ⟨b4_85, ⟨a4_43, ⟨a4_78, ⟨a4_86, ⟨a4_87, ⟨a4_88, ⟨a5_77, ⟨a1_18, ⟨a1_29, ⟨a1_36, ⟨a1_37, ⟨a1_49, ⟨a1_82, ⟨a1_101, ⟨a1_102, ⟨b3_103, ⟨b2_104, ⟨a1_114, ⟨a1_115, ⟨b2_116, ⟨a1_118, ⟨b2_126, ⟨a1_155, ⟨a1_160, ⟨a1_162, ⟨a1_181, ⟨a2_16, ⟨a2_19, ⟨b3_57, ⟨a2_59, ⟨a2_68, ⟨a2_69, ⟨a2_73, ⟨a2_123, ⟨a2_127, ⟨a2_130, ⟨a2_180, ⟨a3_15, ⟨a3_54, ⟨a4_11, ⟨a4_30, ⟨a4_31, ⟨a4_98, ⟨a4_150, ⟨a5_22, ⟨a5_51, ⟨a5_92, trivial⟩⟩⟩⟩⟩⟩⟩⟩⟩⟩⟩⟩⟩⟩⟩⟩⟩⟩⟩⟩⟩⟩⟩⟩⟩⟩⟩⟩⟩⟩⟩⟩⟩⟩⟩⟩⟩⟩⟩⟩⟩⟩⟩⟩⟩⟩⟩⟩ ext0_ok
end Go.Vg
