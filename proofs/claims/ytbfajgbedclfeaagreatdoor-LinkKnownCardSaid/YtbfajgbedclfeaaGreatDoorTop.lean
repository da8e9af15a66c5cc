/- Long runs, and the law itself. -/
import Derived.Test.YtbfajgbedclfeaaGreatDoorPiaZ
import Derived.Test.YtbfajgbedclfeaaGreatDoorM12
import Derived.Test.YtbfajgbedclfeaaGreatDoorPibZ
namespace Go.Vg
open Go Go.Proofs
set_option maxRecDepth 1000000
set_option maxHeartbeats 0
def t6_22_0 : HTr (v42 × v9) := .leaf [(zOa, yOa)]
theorem q6_22_0 : okH (pureKD Tryz.prog sigC 100000 ext5 40) 22 z42 z9 (t6_22_0 : HTr ((Ty.T z42) × (Ty.T z9))) = true := okH_one (d := 39) (by kernel_rfl) runOa
end Go.Vg
namespace Go.Vg
open Go Go.Proofs
set_option maxRecDepth 1000000
set_option maxHeartbeats 0
def t6_22_1 : HTr (v42 × v9) := .leaf [(((((.ofNat 3), ([], ())), ((.ofNat 2), ((.ofNat 131070), (([48], ([49], ())), (([49], ([49], ())), (([54,53,53,51,53], ([49], ())), ())))))), ((.ofNat 3), ())), ((([(.ofNat 2), (.ofNat 2), (.ofNat 2)], ((.ofNat 3), ([(.ofNat 0), (.ofNat 0), (.ofNat 0), (.ofNat 0), (.ofNat 0), (.ofNat 65535), (.ofNat 0), (.ofNat 65535), (.ofNat 0), (.ofNat 0), (.ofNat 65535), (.ofNat 65535), (.ofNat 65535), (.ofNat 0), (.ofNat 0), (.ofNat 65535), (.ofNat 0), (.ofNat 65535), (.ofNat 65535), (.ofNat 65535), (.ofNat 0), (.ofNat 65535), (.ofNat 65535), (.ofNat 65535)], ()))), ((.ofNat 0), (([48], ([49], ())), ()))), ()))]
theorem q6_22_1 : okH (pureKD Tryz.prog sigC 100000 ext5 40) 22 z42 z9 (t6_22_1 : HTr ((Ty.T z42) × (Ty.T z9))) = true := by kernel_rfl
end Go.Vg
namespace Go.Vg
open Go Go.Proofs
set_option maxRecDepth 1000000
set_option maxHeartbeats 0
def t6_22_2 : HTr (v42 × v9) := .leaf [(zOb, yOb)]
theorem q6_22_2 : okH (pureKD Tryz.prog sigC 100000 ext5 40) 22 z42 z9 (t6_22_2 : HTr ((Ty.T z42) × (Ty.T z9))) = true := okH_one (d := 39) (by kernel_rfl) runOb
end Go.Vg
namespace Go.Vg
open Go Go.Proofs
set_option maxRecDepth 1000000
set_option maxHeartbeats 0
def t6_22 : HTr (v42 × v9) := (.node 57035 t6_22_0 (.node 668667 t6_22_1 t6_22_2))
theorem q6_22 : okH (pureKD Tryz.prog sigC 100000 ext5 40) 22 z42 z9 (t6_22 : HTr ((Ty.T z42) × (Ty.T z9))) = true := (okH_node q6_22_0 (okH_node q6_22_1 q6_22_2))
def r6_22 : RowH := ⟨22, z42, z9, t6_22⟩
theorem a6_22 : AtRow Tryz.prog (Gt Tryz.prog) r6_22 := at_row p5 q6_22
def R6_22 : RowH := RowH.or r5_22 t6_22
theorem b6_22 : AtRow Tryz.prog (Gt Tryz.prog) R6_22 := at_or a5_22 a6_22
def rows6 : List RowH := [r1_18, r1_29, r1_36, r1_37, r1_49, r1_82, r1_101, r1_102, R3_103, R2_104, r1_114, r1_115, R2_116, r1_118, R2_126, r1_155, r1_160, r1_162, r1_181, r2_16, r2_19, R3_57, r2_59, r2_68, r2_69, r2_73, r2_123, r2_127, r2_130, r2_180, r3_15, r3_21, r3_54, R4_85, r4_11, r4_30, r4_31, r4_43, r4_78, r4_86, r4_87, r4_88, r4_98, r4_150, R6_22, r5_51, r5_77, r5_92]
noncomputable def ext6 : PureT := firstR (extTabH rows6) ext0
theorem ext6_ok : PureOk Tryz.prog (Gt Tryz.prog) ext6 := layer_at (rows := rows6) ⟨a1_18, ⟨a1_29, ⟨a1_36, ⟨a1_37, ⟨a1_49, ⟨a1_82, ⟨a1_101, ⟨a1_102, ⟨b3_103, ⟨b2_104, ⟨a1_114, ⟨a1_115, ⟨b2_116, ⟨a1_118, ⟨b2_126, ⟨a1_155, ⟨a1_160, ⟨a1_162, ⟨a1_181, ⟨a2_16, ⟨a2_19, ⟨b3_57, ⟨a2_59, ⟨a2_68, ⟨a2_69, ⟨a2_73, ⟨a2_123, ⟨a2_127, ⟨a2_130, ⟨a2_180, ⟨a3_15, ⟨a3_21, ⟨a3_54, ⟨b4_85, ⟨a4_11, ⟨a4_30, ⟨a4_31, ⟨a4_43, ⟨a4_78, ⟨a4_86, ⟨a4_87, ⟨a4_88, ⟨a4_98, ⟨a4_150, ⟨b6_22, ⟨a5_51, ⟨a5_77, ⟨a5_92, trivial⟩⟩⟩⟩⟩⟩⟩⟩⟩⟩⟩⟩⟩⟩⟩⟩⟩⟩⟩⟩⟩⟩⟩⟩⟩⟩⟩⟩⟩⟩⟩⟩⟩⟩⟩⟩⟩⟩⟩⟩⟩⟩⟩⟩⟩⟩⟩⟩ ext0_ok
end Go.Vg
namespace Go.Vg
open Go Go.Proofs
set_option maxRecDepth 1000000
set_option maxHeartbeats 0
theorem p6 : PureOk Tryz.prog (Gt Tryz.prog) (pureKD Tryz.prog sigC 100000 ext6 40) := pure_at gmono mixed enterSig ext6_ok 100000 40
def rows7 : List RowH := [r3_21, r1_18, r1_49, r2_68, R2_116, r2_16, r3_54, r1_29, r1_101, r1_114, r1_115, r2_69, r2_73, R6_22, r2_19, r4_11, r1_37, r1_118, R2_126, r3_15, r4_30, r4_31, r1_36, R2_104, r2_59, r5_51, r5_92, r1_82, r1_102, R3_103, r1_155, r1_160, r1_162, r1_181, R3_57, r2_123, r2_127, r2_130, r2_180, R4_85, r4_43, r4_78, r4_86, r4_87, r4_88, r4_98, r4_150, r5_77]
noncomputable def ext7 : PureT := firstR (extTabH rows7) ext0
theorem ext7_ok : PureOk Tryz.prog (Gt Tryz.prog) ext7 := layer_at (rows := rows7) ⟨a3_21, ⟨a1_18, ⟨a1_49, ⟨a2_68, ⟨b2_116, ⟨a2_16, ⟨a3_54, ⟨a1_29, ⟨a1_101, ⟨a1_114, ⟨a1_115, ⟨a2_69, ⟨a2_73, ⟨b6_22, ⟨a2_19, ⟨a4_11, ⟨a1_37, ⟨a1_118, ⟨b2_126, ⟨a3_15, ⟨a4_30, ⟨a4_31, ⟨a1_36, ⟨b2_104, ⟨a2_59, ⟨a5_51, ⟨a5_92, ⟨a1_82, ⟨a1_102, ⟨b3_103, ⟨a1_155, ⟨a1_160, ⟨a1_162, ⟨a1_181, ⟨b3_57, ⟨a2_123, ⟨a2_127, ⟨a2_130, ⟨a2_180, ⟨b4_85, ⟨a4_43, ⟨a4_78, ⟨a4_86, ⟨a4_87, ⟨a4_88, ⟨a4_98, ⟨a4_150, ⟨a5_77, trivial⟩⟩⟩⟩⟩⟩⟩⟩⟩⟩⟩⟩⟩⟩⟩⟩⟩⟩⟩⟩⟩⟩⟩⟩⟩⟩⟩⟩⟩⟩⟩⟩⟩⟩⟩⟩⟩⟩⟩⟩⟩⟩⟩⟩⟩⟩⟩⟩ ext0_ok
end Go.Vg
namespace Go.Vg
open Go Go.Proofs
set_option maxRecDepth 1000000
set_option maxHeartbeats 0
theorem top_run : okRows (pureKD Tryz.prog sigC 100000 ext7 40) [⟨3, .unit, .pair .bool .unit, ([((), (true, ()))] : List (Unit × Bool × Unit))⟩] = true := by kernel_rfl
theorem top_at : At Tryz.prog (Gt Tryz.prog) 3 .unit (.pair .bool .unit) () (true, ()) := by
  have h := top_run
  rw [(runK_eq (P := Tryz.prog) (sig := sigC) 100000 ext7 40).1] at h
  exact (runD_ok gmono mixed ext7_ok enterSig 100000 40).1 _ _ _ _ _ (okL_mem (okRows_mem h _ List.mem_cons_self) () (true, ()) List.mem_cons_self)
end Go.Vg
