/-
  A runner over the evaluator, and calls that have been run. Own work; no condition.
-/
import Derived.Test.YtehaimkjedmjfaaGreatDoorClR6
import Derived.Test.YtehaimkjedmjfaaGreatDoorProg
import Derived.KernelRfl
set_option linter.unusedVariables false
set_option linter.unusedSimpArgs false
namespace Go.Vg
open Go
abbrev qZ0 : Ty := .int .u8
abbrev qZ1 : Ty := .int .i16
abbrev qZ2 : Ty := .pair .bool .unit
abbrev qZ3 : Ty := .pair qZ0 (.pair (.sl (.int .u16)) (.pair (.sl (.pair qZ0 (.pair qZ1 (.pair qZ1 (.pair qZ1 (.pair qZ0 (.pair qZ0 .unit))))))) (.pair .bool qZ2)))
abbrev qZ4 : Ty := .pair (.sl qZ0) (.pair qZ0 (.pair (.sl (.int .u16)) qZ2))
abbrev qZ5 : Ty := .pair (.pair qZ0 (.pair qZ0 (.pair (.sl (.pair qZ0 (.pair qZ1 .unit))) .unit))) .unit
abbrev qZ6 : Ty := .pair qZ4 qZ5
abbrev qZ7 : Ty := .int .i64
abbrev qZ8 : Ty := .pair qZ7 .unit
abbrev qZ9 : Ty := .pair qZ7 qZ8
abbrev qZa : Ty := .sl qZ7
abbrev qZb : Ty := .pair qZ7 qZ9
abbrev qZc : Ty := .pair qZ7 (.pair qZ7 (.pair qZ7 qZb))
abbrev qZd : Ty := .pair qZ7 (.pair qZa (.pair (.sl qZc) .unit))
abbrev qZe : Ty := .pair qZa .unit
abbrev qZf : Ty := .pair qZa (.pair qZ7 qZe)
abbrev qZg : Ty := .pair (.sl qZ9) qZ9
abbrev qZh : Ty := .pair qZ7 (.pair (.sl qZd) (.pair (.sl qZa) (.pair qZa (.pair qZf qZg))))
abbrev qZi : Ty := .pair (.sl qZh) .unit
abbrev qZj : Ty := .pair qZ7 qZi
abbrev qZk : Ty := .pair qZj .unit
abbrev qZl : Ty := .pair qZj qZk
abbrev qZm : Ty := .pair qZj qZ8
abbrev qZn : Ty := .pair .str .unit
abbrev qZo : Ty := .pair .str qZn
abbrev qZp : Ty := .pair (.sl qZo) .unit
abbrev qZq : Ty := .pair (.sl qZo) qZ8
abbrev qZr : Ty := .pair qZo .unit
abbrev qZs : Ty := .pair (.sl qZ9) .unit
abbrev qZt : Ty := .pair (.sl qZ9) qZ8
abbrev qZu : Ty := .pair qZh .unit
abbrev qZv : Ty := .pair (.sl qZ9) qZs
abbrev qZw : Ty := .pair qZ7 qZ2
abbrev qZx : Ty := .pair qZo qZr
abbrev qZy : Ty := .pair qZo qZ8
abbrev qZz : Ty := .pair qZ9 .unit
abbrev qZ00 : Ty := .pair qZd .unit
abbrev qZ01 : Ty := .pair qZf .unit
abbrev qZ02 : Ty := .pair qZa qZe
abbrev qZ03 : Ty := .sl (.int .u32)
abbrev qZ04 : Ty := .pair qZ03 qZ2
abbrev qZ05 : Ty := .pair qZ03 .unit
abbrev qZ06 : Ty := .pair qZ04 qZ05
abbrev qZ07 : Ty := .pair qZ04 .unit
abbrev qZ08 : Ty := .pair qZ06 .unit
abbrev qZ09 : Ty := .pair qZ06 qZ08
abbrev qZ0a : Ty := .pair qZu qZp
abbrev qZ0b : Ty := .pair (.pair .bool qZe) .unit
abbrev qZ0c : Ty := .pair (.pair .bool qZe) qZ0b
abbrev qZ0d : Ty := .pair qZ0c .unit
abbrev qZ0e : Ty := .pair qZu qZs
abbrev qZ0f : Ty := .pair qZa qZ8
abbrev qZ0g : Ty := .pair qZ03 qZ05
abbrev qZ0h : Ty := .pair qZ04 qZ07
abbrev qZ0i : Ty := .pair .str qZ8
abbrev qZ0j : Ty := .pair qZ9 qZ8
abbrev qZ0k : Ty := .pair qZ9 qZz
abbrev qZ0l : Ty := .pair .str qZ2
abbrev qZ0m : Ty := .pair (.int .u64) .unit
abbrev qZ0n : Ty := .pair (.int .u32) .unit
abbrev qZ0o : Ty := .pair (.int .u32) qZ0n
abbrev qZ0p : Ty := .pair qZf (.pair qZa (.pair qZa qZp))
abbrev qZ0q : Ty := .pair qZ9 qZ9
abbrev qZ0r : Ty := .pair qZ00 qZz
abbrev qZ0s : Ty := .pair qZ03 qZ0n
abbrev qZ0t : Ty := .pair (.int .u64) qZ0m
def ae6 : Sig := [
 (2, (.unit, .unit)),
 (3, ((.pair (.pair qZ0 (.pair (.sl (.pair qZ0 (.pair qZ0 (.pair (.arr 4 qZ3) (.pair (.arr 4 (.arr 4 qZ1)) (.pair (.arr 4 qZ1) qZ6)))))) qZ2)) (.pair (.pair qZ0 (.pair (.sl (.pair qZ0 (.pair qZ0 (.pair (.arr 4 qZ3) (.pair (.arr 4 (.arr 4 qZ1)) (.pair (.arr 4 qZ1) qZ6)))))) qZ2)) (.pair (.arr 2 (.pair qZ0 (.pair qZ0 (.pair qZ7 (.pair (.pair qZ0 (.pair qZ0 (.pair (.arr 4 qZ3) (.pair (.arr 4 (.arr 4 qZ1)) (.pair (.arr 4 qZ1) qZ6))))) .unit))))) qZ9))), qZ2)),
 (4, (.unit, qZ2)),
 (5, ((.pair (.pair qZ0 (.pair (.sl (.pair qZ0 (.pair qZ0 (.pair (.arr 4 qZ3) (.pair (.arr 4 (.arr 4 qZ1)) (.pair (.arr 4 qZ1) qZ6)))))) qZ2)) .unit), qZk)),
 (6, ((.pair (.pair qZ0 (.pair (.sl (.pair qZ0 (.pair qZ0 (.pair (.arr 4 qZ3) (.pair (.arr 4 (.arr 4 qZ1)) (.pair (.arr 4 qZ1) qZ6)))))) qZ2)) (.pair (.arr 2 (.pair qZ0 (.pair qZ0 (.pair qZ7 (.pair (.pair qZ0 (.pair qZ0 (.pair (.arr 4 qZ3) (.pair (.arr 4 (.arr 4 qZ1)) (.pair (.arr 4 qZ1) qZ6))))) .unit))))) .unit)), (.pair (.arr 3 qZj) .unit))),
 (7, (qZk, qZ9)),
 (8, ((.pair (.pair qZ0 (.pair (.sl (.pair qZ0 (.pair qZ0 (.pair (.arr 4 qZ3) (.pair (.arr 4 (.arr 4 qZ1)) (.pair (.arr 4 qZ1) qZ6)))))) qZ2)) qZ8), qZk)),
 (9, (qZl, qZm)),
 (10, (qZl, qZm)),
 (11, (qZl, qZ2)),
 (12, ((.pair qZj qZ9), qZm)),
 (13, ((.pair qZj qZ9), qZm)),
 (14, ((.pair qZj qZp), qZq)),
 (15, (.unit, qZk)),
 (16, (qZ9, qZr)),
 (17, (qZk, qZ9)),
 (18, ((.pair qZj qZs), qZt)),
 (19, ((.pair (.sl qZo) qZp), qZ2)),
 (20, (qZl, qZ2)),
 (21, (.unit, qZu)),
 (22, (qZv, qZ2)),
 (23, (qZk, qZ8)),
 (24, ((.pair (.pair qZ0 (.pair qZ0 (.pair qZ7 (.pair (.pair qZ0 (.pair qZ0 (.pair (.arr 4 qZ3) (.pair (.arr 4 (.arr 4 qZ1)) (.pair (.arr 4 qZ1) qZ6))))) .unit)))) qZk), qZk)),
 (25, (qZk, qZw)),
 (26, ((.pair (.pair qZ0 (.pair qZ0 (.pair (.arr 4 qZ3) (.pair (.arr 4 (.arr 4 qZ1)) (.pair (.arr 4 qZ1) qZ6))))) qZ8), qZu)),
 (27, (qZu, qZ9)),
 (28, ((.pair (.sl (.sl qZh)) .unit), qZi)),
 (29, (qZk, qZ2)),
 (30, ((.pair qZh qZu), qZ2)),
 (31, ((.pair qZk .unit), qZw)),
 (33, (qZr, qZ9)),
 (34, (qZx, qZ9)),
 (36, (qZr, qZ8)),
 (37, ((.pair qZh qZp), qZq)),
 (38, (.unit, qZu)),
 (39, (qZ9, qZy)),
 (40, (qZz, qZ2)),
 (42, (qZz, qZ8)),
 (43, ((.pair qZh qZs), qZt)),
 (45, ((.pair qZh qZu), qZ2)),
 (46, (qZi, qZi)),
 (47, ((.pair (.sl qZh) qZ9), qZi)),
 (48, (qZu, qZ9)),
 (49, ((.pair qZ3 .unit), qZ00)),
 (50, ((.pair qZ4 (.pair (.sl qZ0) qZ8)), qZ01)),
 (51, (qZ5, qZs)),
 (52, (qZ5, qZ8)),
 (53, (qZu, qZ2)),
 (54, (qZ02, qZ2)),
 (55, ((.pair qZf qZ01), qZ2)),
 (56, (qZv, qZ2)),
 (57, ((.pair qZd qZ00), qZ2)),
 (59, (qZu, qZ9)),
 (60, (qZu, qZ9)),
 (61, (qZr, (.pair qZ06 qZ2))),
 (62, (qZ07, qZ8)),
 (64, (qZ09, qZ8)),
 (67, (qZp, qZp)),
 (69, (qZ0a, qZq)),
 (70, (qZ0a, qZq)),
 (71, (qZ0a, qZq)),
 (72, (qZ0a, qZq)),
 (73, (qZ0d, qZy)),
 (74, (qZ9, qZ0d)),
 (77, (qZs, qZs)),
 (78, (qZ9, qZ2)),
 (80, (qZ0e, qZt)),
 (81, (qZ0e, qZt)),
 (82, (qZ0e, qZt)),
 (83, (qZ0e, qZt)),
 (85, ((.pair qZd qZ00), qZ2)),
 (87, (qZ02, qZ2)),
 (88, (qZ02, qZ2)),
 (89, ((.pair qZf qZ01), qZ2)),
 (90, (qZv, qZ2)),
 (91, ((.pair qZ3 .unit), qZ00)),
 (92, ((.pair qZ3 .unit), qZ00)),
 (93, ((.pair qZ4 qZ0f), qZ01)),
 (94, (qZ8, qZ8)),
 (95, (qZ5, qZ8)),
 (96, (qZ01, qZ2)),
 (97, ((.pair (.sl qZd) .unit), qZ2)),
 (98, (qZu, qZ2)),
 (99, (qZ01, qZ2)),
 (100, (qZg, qZ2)),
 (101, (qZu, qZ8)),
 (102, (qZn, qZ8)),
 (103, (qZn, qZ07)),
 (104, (qZ0g, qZ05)),
 (105, (qZ0g, qZ8)),
 (106, (qZ05, qZ2)),
 (107, (qZ06, qZ07)),
 (108, (qZ0h, qZ07)),
 (109, (qZ07, qZ07)),
 (113, ((.pair qZd qZr), qZy)),
 (115, (qZ8, qZy)),
 (116, (qZx, qZy)),
 (117, (qZx, qZy)),
 (118, ((.pair qZf qZp), qZq)),
 (119, ((.pair (.sl qZ9) qZq), qZq)),
 (120, (qZ0b, qZ0i)),
 (121, (qZ0c, qZ0d)),
 (122, (qZ8, qZ0b)),
 (126, ((.pair qZd qZz), qZ0j)),
 (128, (qZ8, qZ0j)),
 (129, (qZ0k, qZ0j)),
 (130, (qZ0k, qZ0j)),
 (131, ((.pair qZf qZs), qZt)),
 (132, ((.pair (.sl qZ9) qZt), qZt)),
 (133, ((.pair (.sl qZc) (.pair (.sl qZc) .unit)), qZ2)),
 (134, (qZ9, qZ2)),
 (135, (qZe, qZ8)),
 (136, (qZ0f, qZe)),
 (137, (qZ00, qZ2)),
 (138, (qZe, qZ2)),
 (139, (qZb, qZ2)),
 (140, (qZg, qZw)),
 (141, ((.pair (.sl qZd) .unit), qZ2)),
 (142, ((.pair (.sl qZa) qZe), qZ2)),
 (143, (qZ01, qZ8)),
 (144, (qZg, qZ8)),
 (145, (qZn, (.pair qZ04 qZ2))),
 (146, (qZo, qZ0l)),
 (147, (qZn, qZ05)),
 (148, (qZ05, qZ0m)),
 (149, (qZ0m, qZ05)),
 (150, (qZ0g, qZ0g)),
 (151, (qZ9, qZ8)),
 (152, (qZ0o, qZ8)),
 (153, (qZ04, qZ07)),
 (154, (qZ0g, qZ05)),
 (155, (qZ0g, qZ05)),
 (156, (qZ0g, qZ05)),
 (157, (qZ00, qZ8)),
 (158, ((.pair qZ00 qZr), qZy)),
 (159, ((.pair qZ00 qZr), qZy)),
 (160, ((.pair qZ00 qZr), qZy)),
 (161, (qZr, qZr)),
 (166, (qZ9, qZy)),
 (167, ((.pair qZ06 qZ8), qZy)),
 (169, (qZ09, qZ08)),
 (170, (qZ09, qZ08)),
 (171, ((.pair qZf qZp), (.pair qZ0p qZ8))),
 (172, ((.pair qZ0p .unit), qZq)),
 (175, (qZ0b, qZn)),
 (176, (qZ0b, qZ0b)),
 (177, (qZ0c, qZ0b)),
 (178, (qZ0c, qZ0c)),
 (179, ((.pair .bool qZe), qZ0b)),
 (180, (qZ0q, qZ0j)),
 (181, (qZ0r, qZ0j)),
 (182, (qZ0r, qZ0j)),
 (183, (qZ0r, qZ0j)),
 (188, (qZr, qZ0j)),
 (192, ((.pair qZ7 qZw), qZw)),
 (193, ((.pair qZ7 (.pair qZ7 qZw)), qZw)),
 (195, (qZ9, qZ0j)),
 (196, (qZ01, (.pair qZa qZ0f))),
 (199, (qZ9, qZr)),
 (200, (qZ01, (.pair (.sl qZa) qZ8))),
 (202, ((.pair qZa qZp), qZy)),
 (203, ((.pair qZo (.pair qZo qZx)), qZ0j)),
 (206, (qZb, qZ2)),
 (207, ((.pair qZc .unit), qZ2)),
 (208, (qZ0q, qZ2)),
 (210, (qZ00, qZ2)),
 (212, (qZ8, qZ2)),
 (213, (qZb, qZ2)),
 (214, (qZe, qZ8)),
 (215, (qZg, qZ9)),
 (216, (qZn, qZ05)),
 (217, (qZo, qZ0l)),
 (218, (qZ05, qZ05)),
 (219, (qZ0s, qZ0s)),
 (221, (qZ8, qZ2)),
 (222, (qZ0n, qZ2)),
 (223, (qZe, qZ2)),
 (224, (qZ00, qZ2)),
 (225, (qZ8, qZr)),
 (226, (qZr, qZ0i)),
 (229, (qZx, qZy)),
 (230, (qZx, qZy)),
 (232, (qZ9, qZr)),
 (233, ((.pair (.pair qZc qZw) qZr), qZy)),
 (236, (qZx, qZ8)),
 (237, (qZo, qZy)),
 (238, (qZ8, qZn)),
 (239, (qZ08, qZy)),
 (240, ((.pair qZf qZp), (.pair qZ0p qZ8))),
 (241, ((.pair qZ0p (.pair (.arr 4 qZ7) .unit)), qZ0f)),
 (246, (qZ8, qZr)),
 (247, (qZp, qZy)),
 (248, (qZ8, qZy)),
 (250, (qZx, qZy)),
 (251, (qZx, qZy)),
 (253, (qZr, qZy)),
 (254, (qZr, qZy)),
 (255, (qZp, qZy)),
 (256, (qZr, qZy)),
 (257, ((.pair qZo qZx), qZy)),
 (263, (qZ8, qZn)),
 (264, (qZ02, qZ02)),
 (265, (qZ0c, qZ0b)),
 (266, (qZ0c, qZ0b)),
 (267, (qZe, qZe)),
 (269, (qZb, qZ2)),
 (270, (qZp, qZ0j)),
 (271, ((.pair (.pair qZc qZw) qZ9), qZ0j)),
 (272, (qZs, qZ0j)),
 (273, (qZy, qZ9)),
 (274, (qZe, qZ8)),
 (275, (qZe, qZ8)),
 (276, (qZ0t, qZ0t)),
 (277, (qZ8, qZ0m)),
 (278, ((.pair (.int .u64) qZ0t), qZ0t)),
 (281, (qZ9, qZ2)),
 (282, (qZ9, qZ2)),
 (285, (qZ0k, qZ0j)),
 (286, (qZ9, qZ0j)),
 (287, (qZ8, qZ0j)),
 (289, (qZ0k, qZ0j)),
 (290, (qZ0k, qZ0j)),
 (291, (qZ0k, qZ0j)),
 (293, (qZz, qZ0j)),
 (294, (qZz, qZ0j)),
 (295, (qZs, qZ0j)),
 (296, (qZz, qZ0j)),
 (306, (qZ8, qZw)),
 (307, (qZ0q, qZ2)),
 (308, (qZ05, qZ05)),
 (309, (qZo, qZ2)),
 (310, ((.pair (.pair qZc qZw) .unit), qZ2)),
 (311, (qZ06, qZ07)),
 (312, (qZ07, qZn)),
 (315, (qZ09, qZ08)),
 (316, (qZ08, qZ08)),
 (318, (qZ06, qZ08)),
 (319, (qZ8, qZn)),
 (320, (qZ05, qZ8)),
 (321, (qZ05, qZn)),
 (323, (qZy, (.pair qZ7 qZy))),
 (329, (qZ09, qZ08)),
 (330, (qZ09, qZ08)),
 (332, (qZ08, qZ08)),
 (334, (qZp, qZ8)),
 (335, (qZ0f, qZ0f)),
 (336, (qZ02, qZ8)),
 (337, (qZ02, qZe)),
 (338, (qZ02, qZe)),
 (339, (qZ02, qZe)),
 (340, (qZ0q, qZ0j)),
 (341, (qZn, qZ9)),
 (342, ((.pair qZ06 qZ05), qZ07)),
 (343, (qZe, qZ8)),
 (344, (qZe, qZ8)),
 (345, (qZ0m, qZ8)),
 (346, (qZe, qZe)),
 (347, ((.pair qZ01 (.pair (.arr 4 qZ7) .unit)), qZe)),
 (350, ((.pair qZ7 qZ0k), qZ0j)),
 (357, (qZs, qZ8)),
 (363, (qZ8, qZn)),
 (369, ((.pair qZ01 qZe), (.pair (.arr 4 qZ7) qZ2))),
 (370, (qZz, qZ2)),
 (372, ((.pair qZz qZw), qZ9)),
 (374, (qZ0m, qZ8)),
 (375, ((.pair qZ01 (.pair (.arr 4 qZ7) .unit)), qZ8)),
 (379, (qZn, qZn)),
 (381, (qZ9, qZn)),
 (385, (qZ0i, qZ0i)),
 (386, (qZo, qZ0i)),
 (387, (qZ8, qZn)),
 (388, (qZo, (.pair .str qZ0i))),
 (389, (qZ0i, (.pair .str (.pair .bool qZ8)))),
 (390, (qZ0l, qZ9)),
 (391, ((.pair qZ0 .unit), (.pair qZ0 .unit))),
 (392, (qZn, qZ2)),
 (393, (qZ8, qZn)),
 (394, (qZ0m, qZ8)),
 (395, ((.pair (.sl qZ0) qZ0m), .unit)),
 (396, ((.pair (.sl qZ0) (.pair (.int .u64) (.pair qZ7 (.pair .bool qZ2)))), (.pair (.sl qZ0) qZn))),
 (399, (qZ07, qZ0i)),
 (400, (qZ04, qZ07)),
 (401, ((.pair qZ03 qZ8), qZ05)),
 (402, ((.pair qZ7 qZo), qZ0i)),
 (403, (qZ0i, qZn)),
 (404, (qZo, (.pair qZ04 (.pair qZ04 qZ8)))),
 (405, (qZ05, qZ2)),
 (406, (qZ0g, qZ0g)),
 (407, (qZ0g, qZ05)),
 (408, (qZ0g, qZ05)),
 (409, (qZ0i, qZ0i)),
 (410, (qZ8, qZ8)),
 (411, (qZ2, qZ8)),
 (412, (qZ8, qZ2)),
 (413, (qZ0m, qZ8)),
 (415, (qZ05, qZ8)),
 (416, (qZ05, qZn)),
 (417, (qZ0g, qZ05)),
 (418, (qZ0h, qZ07)),
 (419, (qZ0h, qZ07)),
 (420, (qZ0h, qZ07)),
 (421, (qZ0h, qZ07)),
 (422, (qZ0t, qZ0t)),
 (423, (qZo, qZ2)),
 (426, (qZ0g, qZ8)),
 (427, (qZ0s, qZ0s)),
 (428, (qZ0m, qZ05)),
 (430, ((.pair qZ03 qZ8), qZ05)),
 (431, (qZ0n, qZ8)),
 (432, (qZ0m, qZ8)),
 (434, (qZ07, qZ07)),
 (435, (qZ0g, qZ05)),
 (436, (qZ0o, qZ0o)),
 (438, (qZ8, qZ05)),
 (439, (qZ05, qZ0m)),
 (469, (.unit, .unit))]
open Go Go.Proofs
set_option maxRecDepth 1000000
theorem au0 : acQ (Gt Tryz.prog) := aI5 (by kernel_rfl)
theorem auU : Tryz.prog.follows .mixedOrders = true := by kernel_rfl
def awU (P : Program) : Sig → Bool
 | [] => true
 | x :: r => match acJ P x.1 with
  | true => awU P r
  | false => false
theorem apB {P : Program} : ∀ {s : Sig}, awU P s = true → ∀ x ∈ s, acJ P x.1 = true
 | [], _, _, h => by cases h
 | q :: r, hc, x, h => by
  simp only [awU] at hc
  split at hc
  ·rename_i hq
   rcases zp.1 h with e | h
   ·rw [e]; exact hq
   ·exact apB hc x h
  ·cases hc
theorem akL : ∀ x ∈ ae6, acJ Tryz.prog x.1 = true := apB (by kernel_rfl)
def an3 : abA := aGY 319 403
theorem aLd : aeC Tryz.prog (Gt Tryz.prog) an3 :=
 aMy 319 403 (by kernel_rfl) (by kernel_rfl) (fun n h0 h1 w h => Tryz.strconv_Itoa n h0 h1 w h) (fun s c w h1 h2 => Tryz.strings_Repeat s c w h1 h2)
open Go Go.Proofs
set_option maxRecDepth 1000000
set_option maxHeartbeats 0
def aMf : Row := ⟨19, (.pair (.sl qZo) qZp), qZ2, ([(([([51], ([56], ())), ([49], ([50], ()))], ([([51], ([56], ())), ([49], ([50], ()))], ())), (true, ()))] : List ((List (List UInt8 × (List UInt8 × Unit)) × (List (List UInt8 × (List UInt8 × Unit)) × Unit)) × (Bool × Unit)))⟩
def aKi : Row := ⟨101, qZu, qZ8, ([((((.ofNat 2), ([], ([[(.ofNat 500000), (.ofNat 500000)], [(.ofNat 1000000), (.negSucc 999999)]], ([(.ofNat 0), (.ofNat 250000)], (([], ((.ofNat 0), ([], ()))), ([], ((.ofNat 0), ((.ofNat 0), ())))))))), ()), ((.ofNat 0), ()))] : List (((Int × (List (Int × (List Int × (List (Int × (Int × (Int × (Int × (Int × (Int × Unit)))))) × Unit))) × (List (List Int) × (List Int × ((List Int × (Int × (List Int × Unit))) × (List (Int × (Int × Unit)) × (Int × (Int × Unit)))))))) × Unit) × (Int × Unit)))⟩
def aKh : Row := ⟨104, qZ0g, qZ05, ([(([(.ofNat 1)], ([(.ofNat 2)], ())), ([(.ofNat 1)], ())),
 (([(.ofNat 1)], ([(.ofNat 4)], ())), ([(.ofNat 1)], ())),
 (([(.ofNat 1)], ([(.ofNat 1)], ())), ([(.ofNat 1)], ())),
 (([], ([(.ofNat 1)], ())), ([(.ofNat 1)], ())),
 (([(.ofNat 3)], ([(.ofNat 4)], ())), ([(.ofNat 1)], ())),
 (([(.ofNat 1000000)], ([(.ofNat 1000000)], ())), ([(.ofNat 1000000)], ())),
 (([(.ofNat 3)], ([(.ofNat 2)], ())), ([(.ofNat 1)], ())),
 (([(.ofNat 65535)], ([(.ofNat 1)], ())), ([(.ofNat 1)], ())),
 (([(.ofNat 65535)], ([(.ofNat 2)], ())), ([(.ofNat 1)], ())),
 (([(.ofNat 65535)], ([(.ofNat 65535)], ())), ([(.ofNat 65535)], ())),
 (([(.ofNat 65535)], ([(.ofNat 4)], ())), ([(.ofNat 1)], ()))] : List ((List Int × (List Int × Unit)) × (List Int × Unit)))⟩
def aKg : Row := ⟨105, qZ0g, qZ8, ([(([(.ofNat 1)], ([(.ofNat 2)], ())), ((.negSucc 0), ())),
 (([(.ofNat 1)], ([(.ofNat 4)], ())), ((.negSucc 0), ())),
 (([(.ofNat 3)], ([(.ofNat 1)], ())), ((.ofNat 1), ()))] : List ((List Int × (List Int × Unit)) × (Int × Unit)))⟩
def aKf : Row := ⟨107, qZ06, qZ07, ([((([], (false, ())), ([(.ofNat 4)], ())), (([], (false, ())), ())),
 ((([], (false, ())), ([(.ofNat 2)], ())), (([], (false, ())), ())),
 ((([(.ofNat 3)], (false, ())), ([(.ofNat 4)], ())), (([(.ofNat 12)], (false, ())), ()))] : List (((List Int × (Bool × Unit)) × (List Int × Unit)) × ((List Int × (Bool × Unit)) × Unit)))⟩
def aKe : Row := ⟨108, qZ0h, qZ07, ([((([], (false, ())), (([(.ofNat 1)], (false, ())), ())), (([(.ofNat 1)], (false, ())), ())),
 ((([(.ofNat 1)], (false, ())), (([], (false, ())), ())), (([(.ofNat 1)], (false, ())), ())),
 ((([], (false, ())), (([], (false, ())), ())), (([], (false, ())), ()))] : List (((List Int × (Bool × Unit)) × ((List Int × (Bool × Unit)) × Unit)) × ((List Int × (Bool × Unit)) × Unit)))⟩
def aKd : Row := ⟨120, qZ0b, qZ0i, ([(((false, ([(.ofNat 1)], ())), ()), ([49], ((.ofNat 0), ()))),
 (((false, ([(.ofNat 2)], ())), ()), ([50], ((.ofNat 0), ()))),
 (((false, ([(.ofNat 3)], ())), ()), ([51], ((.ofNat 0), ())))] : List (((Bool × (List Int × Unit)) × Unit) × (List UInt8 × (Int × Unit))))⟩
def aKc : Row := ⟨122, qZ8, qZ0b, ([(((.ofNat 1), ()), ((false, ([(.ofNat 1)], ())), ())),
 (((.ofNat 2), ()), ((false, ([(.ofNat 2)], ())), ())),
 (((.ofNat 3), ()), ((false, ([(.ofNat 3)], ())), ()))] : List ((Int × Unit) × ((Bool × (List Int × Unit)) × Unit)))⟩
def aKb : Row := ⟨146, qZo, qZ0l, ([(([49], ([45], ())), ([49], (false, ()))),
 (([50], ([45], ())), ([50], (false, ()))),
 (([52], ([45], ())), ([52], (false, ()))),
 (([48], ([45], ())), ([48], (false, ()))),
 (([49,48,48,48,48,48,48], ([45], ())), ([49,48,48,48,48,48,48], (false, ()))),
 (([53,48,48,48,48,48], ([45], ())), ([53,48,48,48,48,48], (false, ()))),
 (([56], ([45], ())), ([56], (false, ()))),
 (([50,53,48,48,48,48], ([45], ())), ([50,53,48,48,48,48], (false, ()))),
 (([45,49,48,48,48,48,48,48], ([45], ())), ([49,48,48,48,48,48,48], (true, ()))),
 (([45,49], ([45], ())), ([49], (true, ()))),
 (([51], ([45], ())), ([51], (false, ()))),
 (([45,54,53,53,51,53], ([45], ())), ([54,53,53,51,53], (true, ()))),
 (([54,53,53,51,53], ([45], ())), ([54,53,53,51,53], (false, ()))),
 (([49,48,48,48,48,48,48,48,48,48,48,48,48], ([45], ())), ([49,48,48,48,48,48,48,48,48,48,48,48,48], (false, ()))),
 (([53,48,48,48,48,48,48,48,48,48,48,48], ([45], ())), ([53,48,48,48,48,48,48,48,48,48,48,48], (false, ()))),
 (([50,53,48,48,48,48,48,48,48,48,48,48], ([45], ())), ([50,53,48,48,48,48,48,48,48,48,48,48], (false, ()))),
 (([45,49,48,48,48,48,48,48,48,48,48,48,48,48], ([45], ())), ([49,48,48,48,48,48,48,48,48,48,48,48,48], (true, ()))),
 (([49,57,54,54,48,53], ([45], ())), ([49,57,54,54,48,53], (false, ()))),
 (([55,53,48,48,48,48,48,48,48,48,48,48], ([45], ())), ([55,53,48,48,48,48,48,48,48,48,48,48], (false, ())))] : List ((List UInt8 × (List UInt8 × Unit)) × (List UInt8 × (Bool × Unit))))⟩
def aKa : Row := ⟨147, qZn, qZ05, ([(([49], ()), ([(.ofNat 1)], ())),
 (([49,48,48,48,48,48,48], ()), ([(.ofNat 1000000)], ())),
 (([54,53,53,51,53], ()), ([(.ofNat 65535)], ())),
 (([49,48,48,48,48,48,48,48,48,48,48,48,48], ()), ([(.ofNat 0), (.ofNat 1000)], ()))] : List ((List UInt8 × Unit) × (List Int × Unit)))⟩
def aJ9 : Row := ⟨148, qZ05, qZ0m, ([(([(.ofNat 0), (.ofNat 1000)], ()), ((.ofNat 1000000000000), ()))] : List ((List Int × Unit) × (Int × Unit)))⟩
def aJ8 : Row := ⟨149, qZ0m, qZ05, ([(((.ofNat 1000000000000), ()), ([(.ofNat 0), (.ofNat 1000)], ())),
 (((.ofNat 250000000000), ()), ([(.ofNat 0), (.ofNat 250)], ()))] : List ((Int × Unit) × (List Int × Unit)))⟩
def aJ7 : Row := ⟨150, qZ0g, qZ0g, ([(([(.ofNat 1000000)], ([(.ofNat 1000000)], ())), ([(.ofNat 1)], ([], ()))),
 (([(.ofNat 1)], ([(.ofNat 1)], ())), ([(.ofNat 1)], ([], ()))),
 (([(.ofNat 2)], ([(.ofNat 1)], ())), ([(.ofNat 2)], ([], ()))),
 (([(.ofNat 4)], ([(.ofNat 1)], ())), ([(.ofNat 4)], ([], ()))),
 (([(.ofNat 4)], ([(.ofNat 4)], ())), ([(.ofNat 1)], ([], ()))),
 (([(.ofNat 2)], ([(.ofNat 2)], ())), ([(.ofNat 1)], ([], ()))),
 (([(.ofNat 4)], ([(.ofNat 2)], ())), ([(.ofNat 2)], ([], ()))),
 (([], ([(.ofNat 1)], ())), ([], ([], ()))),
 (([(.ofNat 65535)], ([(.ofNat 1)], ())), ([(.ofNat 65535)], ([], ()))),
 (([(.ofNat 65535)], ([(.ofNat 65535)], ())), ([(.ofNat 1)], ([], ())))] : List ((List Int × (List Int × Unit)) × (List Int × (List Int × Unit))))⟩
def aJ6 : Row := ⟨154, qZ0g, qZ05, ([(([(.ofNat 1)], ([(.ofNat 1)], ())), ([(.ofNat 1)], ())),
 (([(.ofNat 3)], ([(.ofNat 1)], ())), ([(.ofNat 3)], ())),
 (([(.ofNat 65535)], ([(.ofNat 1)], ())), ([(.ofNat 65535)], ())),
 (([(.ofNat 0), (.ofNat 1000)], ([(.ofNat 999000)], ())), ([(.ofNat 0), (.ofNat 999000000)], ())),
 (([], ([(.ofNat 1)], ())), ([], ())),
 (([(.ofNat 0), (.ofNat 500)], ([(.ofNat 1996007)], ())), ([(.ofNat 0), (.ofNat 998003500)], ())),
 (([(.ofNat 0), (.ofNat 250)], ([(.ofNat 3984063)], ())), ([(.ofNat 0), (.ofNat 996015750)], ()))] : List ((List Int × (List Int × Unit)) × (List Int × Unit)))⟩
def aJ5 : Row := ⟨156, qZ0g, qZ05, ([(([(.ofNat 1)], ([(.ofNat 1)], ())), ([], ()))] : List ((List Int × (List Int × Unit)) × (List Int × Unit)))⟩
def aJ4 : Row := ⟨157, qZ00, qZ8, ([((((.ofNat 2), ([(.ofNat 65535), (.ofNat 0)], ([], ()))), ()), ((.ofNat 0), ()))] : List (((Int × (List Int × (List (Int × (Int × (Int × (Int × (Int × (Int × Unit)))))) × Unit))) × Unit) × (Int × Unit)))⟩
def aJ3 : Row := ⟨178, qZ0c, qZ0c, ([(((false, ([(.ofNat 1)], ())), ((false, ([(.ofNat 1)], ())), ())), ((false, ([(.ofNat 1)], ())), ((false, ([], ())), ()))),
 (((false, ([(.ofNat 3)], ())), ((false, ([(.ofNat 1)], ())), ())), ((false, ([(.ofNat 3)], ())), ((false, ([], ())), ())))] : List (((Bool × (List Int × Unit)) × ((Bool × (List Int × Unit)) × Unit)) × ((Bool × (List Int × Unit)) × ((Bool × (List Int × Unit)) × Unit))))⟩
def aJ2 : Row := ⟨216, qZn, qZ05, ([(([49], ()), ([(.ofNat 1)], ())),
 (([49,48,48,48,48,48,48], ()), ([(.ofNat 1000000)], ())),
 (([54,53,53,51,53], ()), ([(.ofNat 65535)], ())),
 (([49,48,48,48,48,48,48,48,48,48,48,48,48], ()), ([(.ofNat 0), (.ofNat 1000)], ()))] : List ((List UInt8 × Unit) × (List Int × Unit)))⟩
def aJ1 : Row := ⟨218, qZ05, qZ05, ([(([(.ofNat 2), (.ofNat 0)], ()), ([(.ofNat 2)], ())),
 (([(.ofNat 4), (.ofNat 0)], ()), ([(.ofNat 4)], ())),
 (([(.ofNat 8), (.ofNat 0)], ()), ([(.ofNat 8)], ())),
 (([(.ofNat 0), (.ofNat 2000), (.ofNat 0)], ()), ([(.ofNat 0), (.ofNat 2000)], ())),
 (([(.ofNat 0), (.ofNat 0)], ()), ([], ()))] : List ((List Int × Unit) × (List Int × Unit)))⟩
def aJ0 : Row := ⟨264, qZ02, qZ02, ([(([(.ofNat 2)], ([(.ofNat 1)], ())), ([(.ofNat 2)], ([], ()))),
 (([(.ofNat 4)], ([(.ofNat 1)], ())), ([(.ofNat 4)], ([], ()))),
 (([(.ofNat 3)], ([(.ofNat 2)], ())), ([(.ofNat 1)], ([(.ofNat 1)], ()))),
 (([], ([(.ofNat 1)], ())), ([], ([], ())))] : List ((List Int × (List Int × Unit)) × (List Int × (List Int × Unit))))⟩
def aJZ : Row := ⟨276, qZ0t, qZ0t, ([(((.ofNat 500000000000), ((.ofNat 0), ())), ((.ofNat 0), ((.ofNat 0), ()))),
 (((.ofNat 500000000000), ((.ofNat 1000000000000), ())), ((.ofNat 27105), ((.ofNat 1001882102603448320), ()))),
 (((.ofNat 1000000000000), ((.ofNat 0), ())), ((.ofNat 0), ((.ofNat 0), ()))),
 (((.ofNat 1000000000000), ((.ofNat 1000000000000), ())), ((.ofNat 54210), ((.ofNat 2003764205206896640), ())))] : List ((Int × (Int × Unit)) × (Int × (Int × Unit))))⟩
def aJY : Row := ⟨278, (.pair (.int .u64) qZ0t), qZ0t, ([(((.ofNat 27105), ((.ofNat 1001882102603448320), ((.ofNat 1000000000000), ()))), ((.ofNat 500000000000), ((.ofNat 0), ()))),
 (((.ofNat 54210), ((.ofNat 2003764205206896640), ((.ofNat 1000000000000), ()))), ((.ofNat 1000000000000), ((.ofNat 0), ())))] : List ((Int × (Int × (Int × Unit))) × (Int × (Int × Unit))))⟩
def aJX : Row := ⟨312, qZ07, qZn, ([((([(.ofNat 3)], (false, ())), ()), ([51], ()))] : List (((List Int × (Bool × Unit)) × Unit) × (List UInt8 × Unit)))⟩
def aJW : Row := ⟨321, qZ05, qZn, ([(([(.ofNat 1)], ()), ([49], ())),
 (([(.ofNat 2)], ()), ([50], ())),
 (([(.ofNat 4)], ()), ([52], ())),
 (([(.ofNat 8)], ()), ([56], ())),
 (([(.ofNat 65535)], ()), ([54,53,53,51,53], ())),
 (([(.ofNat 0), (.ofNat 1000)], ()), ([49,48,48,48,48,48,48,48,48,48,48,48,48], ()))] : List ((List Int × Unit) × (List UInt8 × Unit)))⟩
def aJV : Row := ⟨332, qZ08, qZ08, ([(((([], (false, ())), ([(.ofNat 1)], ())), ()), ((([], (false, ())), ([(.ofNat 1)], ())), ()))] : List ((((List Int × (Bool × Unit)) × (List Int × Unit)) × Unit) × (((List Int × (Bool × Unit)) × (List Int × Unit)) × Unit)))⟩
def aNo : List Row := [aMf, aKi, aKh, aKg, aKf, aKe, aKd, aKc, aKb, aKa, aJ9, aJ8, aJ7, aJ6, aJ5, aJ4, aJ3, aJ2, aJ1, aJ0, aJZ, aJY, aJX, aJW, aJV]
theorem aIF : aaR (aaT Tryz.prog ae6 100000 an3 40) [aMf] = true := by kernel_rfl
theorem aGf : aaR (aaT Tryz.prog ae6 100000 an3 40) [aKi] = true := by kernel_rfl
theorem aGe : aaR (aaT Tryz.prog ae6 100000 an3 40) [aKh] = true := by kernel_rfl
theorem aGd : aaR (aaT Tryz.prog ae6 100000 an3 40) [aKg] = true := by kernel_rfl
theorem aGc : aaR (aaT Tryz.prog ae6 100000 an3 40) [aKf] = true := by kernel_rfl
theorem aGb : aaR (aaT Tryz.prog ae6 100000 an3 40) [aKe] = true := by kernel_rfl
theorem aGa : aaR (aaT Tryz.prog ae6 100000 an3 40) [aKd] = true := by kernel_rfl
theorem aF9 : aaR (aaT Tryz.prog ae6 100000 an3 40) [aKc] = true := by kernel_rfl
theorem aF8 : aaR (aaT Tryz.prog ae6 100000 an3 40) [aKb] = true := by kernel_rfl
theorem aF7 : aaR (aaT Tryz.prog ae6 100000 an3 40) [aKa] = true := by kernel_rfl
theorem aF6 : aaR (aaT Tryz.prog ae6 100000 an3 40) [aJ9] = true := by kernel_rfl
theorem aF5 : aaR (aaT Tryz.prog ae6 100000 an3 40) [aJ8] = true := by kernel_rfl
theorem aF4 : aaR (aaT Tryz.prog ae6 100000 an3 40) [aJ7] = true := by kernel_rfl
theorem aF3 : aaR (aaT Tryz.prog ae6 100000 an3 40) [aJ6] = true := by kernel_rfl
theorem aF2 : aaR (aaT Tryz.prog ae6 100000 an3 40) [aJ5] = true := by kernel_rfl
theorem aF1 : aaR (aaT Tryz.prog ae6 100000 an3 40) [aJ4] = true := by kernel_rfl
theorem aF0 : aaR (aaT Tryz.prog ae6 100000 an3 40) [aJ3] = true := by kernel_rfl
theorem aFZ : aaR (aaT Tryz.prog ae6 100000 an3 40) [aJ2] = true := by kernel_rfl
theorem aFY : aaR (aaT Tryz.prog ae6 100000 an3 40) [aJ1] = true := by kernel_rfl
theorem aFX : aaR (aaT Tryz.prog ae6 100000 an3 40) [aJ0] = true := by kernel_rfl
theorem aFW : aaR (aaT Tryz.prog ae6 100000 an3 40) [aJZ] = true := by kernel_rfl
theorem aFV : aaR (aaT Tryz.prog ae6 100000 an3 40) [aJY] = true := by kernel_rfl
theorem aFU : aaR (aaT Tryz.prog ae6 100000 an3 40) [aJX] = true := by kernel_rfl
theorem aFT : aaR (aaT Tryz.prog ae6 100000 an3 40) [aJW] = true := by kernel_rfl
theorem aFS : aaR (aaT Tryz.prog ae6 100000 an3 40) [aJV] = true := by kernel_rfl
theorem aaC {pf : abA} {r : Row} {rs : List Row} (h1 : aaR pf [r] = true) (h2 : aaR pf rs = true) : aaR pf (r :: rs) = true := by
 simp only [aaR] at h1 ⊢
 split at h1
 ·exact h2
 ·cases h1
def aCP : abA := ak7 (ao9 aNo) an3
theorem aLc : aeC Tryz.prog (Gt Tryz.prog) aCP := amQ au0 auU akL aLd 100000 40 (aaC aIF (aaC aGf (aaC aGe (aaC aGd (aaC aGc (aaC aGb (aaC aGa (aaC aF9 (aaC aF8 (aaC aF7 (aaC aF6 (aaC aF5 (aaC aF4 (aaC aF3 (aaC aF2 (aaC aF1 (aaC aF0 (aaC aFZ (aaC aFY (aaC aFX (aaC aFW (aaC aFV (aaC aFU (aaC aFT (aaC aFS (rfl))))))))))))))))))))))))))
open Go Go.Proofs
set_option maxRecDepth 1000000
set_option maxHeartbeats 0
def aMe : Row := ⟨16, qZ9, qZr, ([(((.ofNat 3), ((.ofNat 8), ())), (([51], ([56], ())), ()))] : List ((Int × (Int × Unit)) × ((List UInt8 × (List UInt8 × Unit)) × Unit)))⟩
def aJU : Row := ⟨101, qZu, qZ8, ([((((.ofNat 1), ([((.ofNat 1), ([], ([], ()))), ((.ofNat 2), ([(.ofNat 65535), (.ofNat 0)], ([], ())))], ([], ([], (([], ((.ofNat 0), ([], ()))), ([], ((.ofNat 0), ((.ofNat 0), ())))))))), ()), ((.ofNat 0), ()))] : List (((Int × (List (Int × (List Int × (List (Int × (Int × (Int × (Int × (Int × (Int × Unit)))))) × Unit))) × (List (List Int) × (List Int × ((List Int × (Int × (List Int × Unit))) × (List (Int × (Int × Unit)) × (Int × (Int × Unit)))))))) × Unit) × (Int × Unit)))⟩
def aJT : Row := ⟨102, qZn, qZ8, ([(([49], ()), ((.ofNat 0), ())),
 (([50], ()), ((.ofNat 0), ())),
 (([52], ()), ((.ofNat 0), ())),
 (([48], ()), ((.ofNat 0), ())),
 (([49,48,48,48,48,48,48], ()), ((.ofNat 0), ())),
 (([56], ()), ((.ofNat 0), ())),
 (([45,49], ()), ((.ofNat 0), ())),
 (([51], ()), ((.ofNat 0), ())),
 (([45,54,53,53,51,53], ()), ((.ofNat 0), ())),
 (([54,53,53,51,53], ()), ((.ofNat 0), ())),
 (([49,48,48,48,48,48,48,48,48,48,48,48,48], ()), ((.ofNat 0), ())),
 (([53,48,48,48,48,48,48,48,48,48,48,48], ()), ((.ofNat 0), ())),
 (([50,53,48,48,48,48,48,48,48,48,48,48], ()), ((.ofNat 0), ())),
 (([45,49,48,48,48,48,48,48,48,48,48,48,48,48], ()), ((.ofNat 0), ())),
 (([55,53,48,48,48,48,48,48,48,48,48,48], ()), ((.ofNat 0), ()))] : List ((List UInt8 × Unit) × (Int × Unit)))⟩
def aJS : Row := ⟨103, qZn, qZ07, ([(([50], ()), (([(.ofNat 2)], (false, ())), ())),
 (([52], ()), (([(.ofNat 4)], (false, ())), ())),
 (([48], ()), (([], (false, ())), ())),
 (([56], ()), (([(.ofNat 8)], (false, ())), ())),
 (([51], ()), (([(.ofNat 3)], (false, ())), ()))] : List ((List UInt8 × Unit) × ((List Int × (Bool × Unit)) × Unit)))⟩
def aJR : Row := ⟨104, qZ0g, qZ05, ([(([(.ofNat 0), (.ofNat 1000)], ([(.ofNat 0), (.ofNat 1000)], ())), ([(.ofNat 0), (.ofNat 1000)], ()))] : List ((List Int × (List Int × Unit)) × (List Int × Unit)))⟩
def aJQ : Row := ⟨107, qZ06, qZ07, ([((([(.ofNat 1)], (true, ())), ([(.ofNat 1)], ())), (([(.ofNat 1)], (true, ())), ())),
 ((([(.ofNat 65535)], (true, ())), ([(.ofNat 1)], ())), (([(.ofNat 65535)], (true, ())), ()))] : List (((List Int × (Bool × Unit)) × (List Int × Unit)) × ((List Int × (Bool × Unit)) × Unit)))⟩
def aJP : Row := ⟨150, qZ0g, qZ0g, ([(([(.ofNat 3)], ([(.ofNat 1)], ())), ([(.ofNat 3)], ([], ()))),
 (([(.ofNat 0), (.ofNat 1000)], ([(.ofNat 0), (.ofNat 1000)], ())), ([(.ofNat 1)], ([], ()))),
 (([(.ofNat 0), (.ofNat 1000)], ([(.ofNat 0), (.ofNat 250)], ())), ([(.ofNat 4)], ([], ())))] : List ((List Int × (List Int × Unit)) × (List Int × (List Int × Unit))))⟩
def aJO : Row := ⟨154, qZ0g, qZ05, ([(([(.ofNat 1)], ([(.ofNat 2)], ())), ([(.ofNat 2)], ())),
 (([(.ofNat 1)], ([(.ofNat 4)], ())), ([(.ofNat 4)], ())),
 (([(.ofNat 2)], ([(.ofNat 2)], ())), ([(.ofNat 4)], ())),
 (([(.ofNat 1)], ([(.ofNat 8)], ())), ([(.ofNat 8)], ())),
 (([(.ofNat 2)], ([(.ofNat 1)], ())), ([(.ofNat 2)], ())),
 (([(.ofNat 0), (.ofNat 1000)], ([(.ofNat 2)], ())), ([(.ofNat 0), (.ofNat 2000)], ())),
 (([(.ofNat 1)], ([(.ofNat 0), (.ofNat 2000)], ())), ([(.ofNat 0), (.ofNat 2000)], ())),
 (([(.ofNat 4)], ([(.ofNat 2)], ())), ([(.ofNat 8)], ())),
 (([(.ofNat 4)], ([(.ofNat 1)], ())), ([(.ofNat 4)], ()))] : List ((List Int × (List Int × Unit)) × (List Int × Unit)))⟩
def aJN : Row := ⟨178, qZ0c, qZ0c, ([(((false, ([(.ofNat 2)], ())), ((false, ([(.ofNat 1)], ())), ())), ((false, ([(.ofNat 2)], ())), ((false, ([], ())), ())))] : List (((Bool × (List Int × Unit)) × ((Bool × (List Int × Unit)) × Unit)) × ((Bool × (List Int × Unit)) × ((Bool × (List Int × Unit)) × Unit))))⟩
def aJM : Row := ⟨192, (.pair qZ7 qZw), qZw, ([(((.ofNat 500000000000), ((.ofNat 0), (false, ()))), ((.ofNat 0), (true, ()))),
 (((.ofNat 500000000000), ((.ofNat 0), (true, ()))), ((.ofNat 0), (true, ()))),
 (((.ofNat 500000000000), ((.ofNat 1000000000000), (false, ()))), ((.ofNat 500000000000), (true, ()))),
 (((.ofNat 500000000000), ((.ofNat 1000000000000), (true, ()))), ((.ofNat 500000000000), (true, ()))),
 (((.ofNat 1000000000000), ((.ofNat 0), (false, ()))), ((.ofNat 0), (true, ()))),
 (((.ofNat 1000000000000), ((.ofNat 0), (true, ()))), ((.ofNat 0), (true, ()))),
 (((.ofNat 1000000000000), ((.ofNat 1000000000000), (false, ()))), ((.ofNat 1000000000000), (true, ()))),
 (((.ofNat 1000000000000), ((.ofNat 1000000000000), (true, ()))), ((.ofNat 1000000000000), (true, ()))),
 (((.negSucc 999999999999), ((.ofNat 1000000000000), (false, ()))), ((.negSucc 999999999999), (true, ()))),
 (((.negSucc 999999999999), ((.ofNat 1000000000000), (true, ()))), ((.negSucc 999999999999), (true, ())))] : List ((Int × (Int × (Bool × Unit))) × (Int × (Bool × Unit))))⟩
def aJL : Row := ⟨239, qZ08, qZy, ([(((([], (false, ())), ([(.ofNat 1)], ())), ()), (([48], ([49], ())), ((.ofNat 0), ()))),
 (((([(.ofNat 1)], (false, ())), ([(.ofNat 2)], ())), ()), (([49], ([50], ())), ((.ofNat 0), ()))),
 (((([(.ofNat 1)], (false, ())), ([(.ofNat 4)], ())), ()), (([49], ([52], ())), ((.ofNat 0), ()))),
 (((([(.ofNat 1)], (false, ())), ([(.ofNat 1)], ())), ()), (([49], ([49], ())), ((.ofNat 0), ()))),
 (((([(.ofNat 3)], (false, ())), ([(.ofNat 4)], ())), ()), (([51], ([52], ())), ((.ofNat 0), ()))),
 (((([(.ofNat 1)], (true, ())), ([(.ofNat 1)], ())), ()), (([45,49], ([49], ())), ((.ofNat 0), ()))),
 (((([(.ofNat 65535)], (false, ())), ([(.ofNat 1)], ())), ()), (([54,53,53,51,53], ([49], ())), ((.ofNat 0), ())))] : List ((((List Int × (Bool × Unit)) × (List Int × Unit)) × Unit) × ((List UInt8 × (List UInt8 × Unit)) × (Int × Unit))))⟩
def aJK : Row := ⟨311, qZ06, qZ07, ([((([(.ofNat 1)], (false, ())), ([(.ofNat 2)], ())), (([], (false, ())), ()))] : List (((List Int × (Bool × Unit)) × (List Int × Unit)) × ((List Int × (Bool × Unit)) × Unit)))⟩
def aNn : List Row := [aMe, aJU, aJT, aJS, aJR, aJQ, aJP, aJO, aJN, aJM, aJL, aJK]
theorem aIE : aaR (aaT Tryz.prog ae6 100000 aCP 40) [aMe] = true := by kernel_rfl
theorem aFR : aaR (aaT Tryz.prog ae6 100000 aCP 40) [aJU] = true := by kernel_rfl
theorem aFQ : aaR (aaT Tryz.prog ae6 100000 aCP 40) [aJT] = true := by kernel_rfl
theorem aFP : aaR (aaT Tryz.prog ae6 100000 aCP 40) [aJS] = true := by kernel_rfl
theorem aFO : aaR (aaT Tryz.prog ae6 100000 aCP 40) [aJR] = true := by kernel_rfl
theorem aFN : aaR (aaT Tryz.prog ae6 100000 aCP 40) [aJQ] = true := by kernel_rfl
theorem aFM : aaR (aaT Tryz.prog ae6 100000 aCP 40) [aJP] = true := by kernel_rfl
theorem aFL : aaR (aaT Tryz.prog ae6 100000 aCP 40) [aJO] = true := by kernel_rfl
theorem aFK : aaR (aaT Tryz.prog ae6 100000 aCP 40) [aJN] = true := by kernel_rfl
theorem aFJ : aaR (aaT Tryz.prog ae6 100000 aCP 40) [aJM] = true := by kernel_rfl
theorem aFI : aaR (aaT Tryz.prog ae6 100000 aCP 40) [aJL] = true := by kernel_rfl
theorem aFH : aaR (aaT Tryz.prog ae6 100000 aCP 40) [aJK] = true := by kernel_rfl
def aKr : abA := ak7 (ao9 aNn) aCP
theorem aLb : aeC Tryz.prog (Gt Tryz.prog) aKr := amQ au0 auU akL aLc 100000 40 (aaC aIE (aaC aFR (aaC aFQ (aaC aFP (aaC aFO (aaC aFN (aaC aFM (aaC aFL (aaC aFK (aaC aFJ (aaC aFI (aaC aFH (rfl)))))))))))))
open Go Go.Proofs
set_option maxRecDepth 1000000
set_option maxHeartbeats 0
def aMd : Row := ⟨16, qZ9, qZr, ([(((.ofNat 1), ((.ofNat 2), ())), (([49], ([50], ())), ()))] : List ((Int × (Int × Unit)) × ((List UInt8 × (List UInt8 × Unit)) × Unit)))⟩
def aMc : Row := ⟨17, qZk, qZ9, ([((((.ofNat 2), ([((.ofNat 2), ([], ([[(.ofNat 500000), (.ofNat 500000)], [(.ofNat 1000000), (.negSucc 999999)]], ([(.ofNat 0), (.ofNat 250000)], (([], ((.ofNat 0), ([], ()))), ([], ((.ofNat 0), ((.ofNat 0), ())))))))), ((.ofNat 1), ([((.ofNat 1), ([], ([], ()))), ((.ofNat 2), ([(.ofNat 65535), (.ofNat 0)], ([], ())))], ([], ([], (([], ((.ofNat 0), ([], ()))), ([], ((.ofNat 0), ((.ofNat 0), ()))))))))], ())), ()), ((.ofNat 2), ((.ofNat 0), ())))] : List (((Int × (List (Int × (List (Int × (List Int × (List (Int × (Int × (Int × (Int × (Int × (Int × Unit)))))) × Unit))) × (List (List Int) × (List Int × ((List Int × (Int × (List Int × Unit))) × (List (Int × (Int × Unit)) × (Int × (Int × Unit)))))))) × Unit)) × Unit) × (Int × (Int × Unit))))⟩
def aMb : Row := ⟨61, qZr, (.pair qZ06 qZ2), ([((([49], ([50], ())), ()), ((([(.ofNat 1)], (false, ())), ([(.ofNat 2)], ())), (true, ()))),
 ((([49], ([52], ())), ()), ((([(.ofNat 1)], (false, ())), ([(.ofNat 4)], ())), (true, ()))),
 ((([49], ([49], ())), ()), ((([(.ofNat 1)], (false, ())), ([(.ofNat 1)], ())), (true, ()))),
 ((([48], ([49], ())), ()), ((([], (false, ())), ([(.ofNat 1)], ())), (true, ()))),
 ((([45,49], ([49], ())), ()), ((([(.ofNat 1)], (true, ())), ([(.ofNat 1)], ())), (true, ()))),
 ((([51], ([52], ())), ()), ((([(.ofNat 3)], (false, ())), ([(.ofNat 4)], ())), (true, ()))),
 ((([51], ([56], ())), ()), ((([(.ofNat 3)], (false, ())), ([(.ofNat 8)], ())), (true, ()))),
 ((([45,54,53,53,51,53], ([49], ())), ()), ((([(.ofNat 65535)], (true, ())), ([(.ofNat 1)], ())), (true, ()))),
 ((([54,53,53,51,53], ([49], ())), ()), ((([(.ofNat 65535)], (false, ())), ([(.ofNat 1)], ())), (true, ()))),
 ((([51], ([50], ())), ()), ((([(.ofNat 3)], (false, ())), ([(.ofNat 2)], ())), (true, ())))] : List (((List UInt8 × (List UInt8 × Unit)) × Unit) × (((List Int × (Bool × Unit)) × (List Int × Unit)) × (Bool × Unit))))⟩
def aJJ : Row := ⟨115, qZ8, qZy, ([(((.ofNat 0), ()), (([48], ([49], ())), ((.ofNat 0), ()))),
 (((.ofNat 500000), ()), (([49], ([50], ())), ((.ofNat 0), ()))),
 (((.ofNat 250000), ()), (([49], ([52], ())), ((.ofNat 0), ()))),
 (((.ofNat 1000000), ()), (([49], ([49], ())), ((.ofNat 0), ()))),
 (((.negSucc 999999), ()), (([45,49], ([49], ())), ((.ofNat 0), ())))] : List ((Int × Unit) × ((List UInt8 × (List UInt8 × Unit)) × (Int × Unit))))⟩
def aJI : Row := ⟨166, qZ9, qZy, ([(((.ofNat 0), ((.ofNat 1000000000000), ())), (([48], ([49], ())), ((.ofNat 0), ()))),
 (((.ofNat 250000000000), ((.ofNat 1000000000000), ())), (([49], ([52], ())), ((.ofNat 0), ())))] : List ((Int × (Int × Unit)) × ((List UInt8 × (List UInt8 × Unit)) × (Int × Unit))))⟩
def aJH : Row := ⟨225, qZ8, qZr, ([(((.ofNat 0), ()), (([48], ([49], ())), ())),
 (((.ofNat 1), ()), (([49], ([49], ())), ())),
 (((.negSucc 65534), ()), (([45,54,53,53,51,53], ([49], ())), ())),
 (((.ofNat 65535), ()), (([54,53,53,51,53], ([49], ())), ()))] : List ((Int × Unit) × ((List UInt8 × (List UInt8 × Unit)) × Unit)))⟩
def aNm : List Row := [aMd, aMc, aMb, aJJ, aJI, aJH]
theorem aID : aaR (aaT Tryz.prog ae6 100000 aKr 40) [aMd] = true := by kernel_rfl
theorem aIC : aaR (aaT Tryz.prog ae6 100000 aKr 40) [aMc] = true := by kernel_rfl
theorem aIB : aaR (aaT Tryz.prog ae6 100000 aKr 40) [aMb] = true := by kernel_rfl
theorem aFG : aaR (aaT Tryz.prog ae6 100000 aKr 40) [aJJ] = true := by kernel_rfl
theorem aFF : aaR (aaT Tryz.prog ae6 100000 aKr 40) [aJI] = true := by kernel_rfl
theorem aFE : aaR (aaT Tryz.prog ae6 100000 aKr 40) [aJH] = true := by kernel_rfl
def aLF : abA := ak7 (ao9 aNm) aKr
theorem aLa : aeC Tryz.prog (Gt Tryz.prog) aLF := amQ au0 auU akL aLb 100000 40 (aaC aID (aaC aIC (aaC aIB (aaC aFG (aaC aFF (aaC aFE (rfl)))))))
open Go Go.Proofs
set_option maxRecDepth 1000000
set_option maxHeartbeats 0
def aMa : Row := ⟨34, qZx, qZ9, ([((([49], ([50], ())), (([49], ([49], ())), ())), ((.negSucc 0), ((.ofNat 0), ())))] : List (((List UInt8 × (List UInt8 × Unit)) × ((List UInt8 × (List UInt8 × Unit)) × Unit)) × (Int × (Int × Unit))))⟩
def aL9 : Row := ⟨70, qZ0a, qZq, ([(((((.ofNat 2), ([], ([[(.ofNat 500000), (.ofNat 500000)], [(.ofNat 1000000), (.negSucc 999999)]], ([(.ofNat 0), (.ofNat 250000)], (([], ((.ofNat 0), ([], ()))), ([], ((.ofNat 0), ((.ofNat 0), ())))))))), ()), ([([49], ([50], ())), ([49], ([52], ()))], ())), ([([51], ([56], ())), ([49], ([50], ()))], ((.ofNat 0), ())))] : List ((((Int × (List (Int × (List Int × (List (Int × (Int × (Int × (Int × (Int × (Int × Unit)))))) × Unit))) × (List (List Int) × (List Int × ((List Int × (Int × (List Int × Unit))) × (List (Int × (Int × Unit)) × (Int × (Int × Unit)))))))) × Unit) × (List (List UInt8 × (List UInt8 × Unit)) × Unit)) × (List (List UInt8 × (List UInt8 × Unit)) × (Int × Unit))))⟩
def aJG : Row := ⟨128, qZ8, qZ0j, ([(((.ofNat 500000), ()), (((.ofNat 500000000000), ((.ofNat 500000000000), ())), ((.ofNat 0), ())))] : List ((Int × Unit) × ((Int × (Int × Unit)) × (Int × Unit))))⟩
def aJF : Row := ⟨188, qZr, qZ0j, ([((([49], ([49], ())), ()), (((.ofNat 1000000000000), ((.ofNat 1000000000000), ())), ((.ofNat 0), ())))] : List (((List UInt8 × (List UInt8 × Unit)) × Unit) × ((Int × (Int × Unit)) × (Int × Unit))))⟩
def aNl : List Row := [aMa, aL9, aJG, aJF]
theorem aIA : aaR (aaT Tryz.prog ae6 100000 aLF 40) [aMa] = true := by kernel_rfl
theorem aIz : aaR (aaT Tryz.prog ae6 100000 aLF 40) [aL9] = true := by kernel_rfl
theorem aFD : aaR (aaT Tryz.prog ae6 100000 aLF 40) [aJG] = true := by kernel_rfl
theorem aFC : aaR (aaT Tryz.prog ae6 100000 aLF 40) [aJF] = true := by kernel_rfl
def aMz : abA := ak7 (ao9 aNl) aLF
theorem aK9 : aeC Tryz.prog (Gt Tryz.prog) aMz := amQ au0 auU akL aLa 100000 40 (aaC aIA (aaC aIz (aaC aFD (aaC aFC (rfl)))))
open Go Go.Proofs
set_option maxRecDepth 1000000
set_option maxHeartbeats 0
def aL8 : Row := ⟨14, (.pair qZj qZp), qZq, ([((((.ofNat 2), ([((.ofNat 2), ([], ([[(.ofNat 500000), (.ofNat 500000)], [(.ofNat 1000000), (.negSucc 999999)]], ([(.ofNat 0), (.ofNat 250000)], (([], ((.ofNat 0), ([], ()))), ([], ((.ofNat 0), ((.ofNat 0), ())))))))), ((.ofNat 1), ([((.ofNat 1), ([], ([], ()))), ((.ofNat 2), ([(.ofNat 65535), (.ofNat 0)], ([], ())))], ([], ([], (([], ((.ofNat 0), ([], ()))), ([], ((.ofNat 0), ((.ofNat 0), ()))))))))], ())), ([([49], ([50], ())), ([49], ([52], ()))], ())), ([([51], ([56], ())), ([49], ([50], ()))], ((.ofNat 0), ())))] : List (((Int × (List (Int × (List (Int × (List Int × (List (Int × (Int × (Int × (Int × (Int × (Int × Unit)))))) × Unit))) × (List (List Int) × (List Int × ((List Int × (Int × (List Int × Unit))) × (List (Int × (Int × Unit)) × (Int × (Int × Unit)))))))) × Unit)) × (List (List UInt8 × (List UInt8 × Unit)) × Unit)) × (List (List UInt8 × (List UInt8 × Unit)) × (Int × Unit))))⟩
def aL7 : Row := ⟨81, qZ0e, qZt, ([(((((.ofNat 2), ([], ([[(.ofNat 500000), (.ofNat 500000)], [(.ofNat 1000000), (.negSucc 999999)]], ([(.ofNat 0), (.ofNat 250000)], (([], ((.ofNat 0), ([], ()))), ([], ((.ofNat 0), ((.ofNat 0), ())))))))), ()), ([((.ofNat 0), ((.ofNat 1000000000000), ())), ((.ofNat 1000000000000), ((.ofNat 1000000000000), ()))], ())), ([((.ofNat 500000000000), ((.ofNat 1000000000000), ())), ((.negSucc 749999999999), ((.ofNat 250000000000), ()))], ((.ofNat 0), ())))] : List ((((Int × (List (Int × (List Int × (List (Int × (Int × (Int × (Int × (Int × (Int × Unit)))))) × Unit))) × (List (List Int) × (List Int × ((List Int × (Int × (List Int × Unit))) × (List (Int × (Int × Unit)) × (Int × (Int × Unit)))))))) × Unit) × (List (Int × (Int × Unit)) × Unit)) × (List (Int × (Int × Unit)) × (Int × Unit))))⟩
def aJE : Row := ⟨182, qZ0r, qZ0j, ([(((((.ofNat 2), ([(.ofNat 65535), (.ofNat 0)], ([], ()))), ()), (((.ofNat 0), ((.ofNat 250000000000), ())), ())), (((.ofNat 750000000000), ((.ofNat 1000000000000), ())), ((.ofNat 0), ())))] : List ((((Int × (List Int × (List (Int × (Int × (Int × (Int × (Int × (Int × Unit)))))) × Unit))) × Unit) × ((Int × (Int × Unit)) × Unit)) × ((Int × (Int × Unit)) × (Int × Unit))))⟩
def aNk : List Row := [aL8, aL7, aJE]
theorem aIy : aaR (aaT Tryz.prog ae6 100000 aMz 40) [aL8] = true := by kernel_rfl
theorem aIx : aaR (aaT Tryz.prog ae6 100000 aMz 40) [aL7] = true := by kernel_rfl
theorem aFB : aaR (aaT Tryz.prog ae6 100000 aMz 40) [aJE] = true := by kernel_rfl
def aNI : abA := ak7 (ao9 aNk) aMz
theorem aK8 : aeC Tryz.prog (Gt Tryz.prog) aNI := amQ au0 auU akL aK9 100000 40 (aaC aIy (aaC aIx (aaC aFB (rfl))))
open Go Go.Proofs
set_option maxRecDepth 1000000
set_option maxHeartbeats 0
theorem aKO : aaR (aaT Tryz.prog ae6 100000 aNI 40) [⟨4, .unit, .pair .bool .unit, ([((), (true, ()))] : List (Unit × Bool × Unit))⟩] = true := by kernel_rfl
theorem top_at : At Tryz.prog (Gt Tryz.prog) 4 .unit qZ2 () (true, ()) := by
 have h := aKO
 rw [(aAL (P := Tryz.prog) (sig := ae6) 100000 aNI 40).1] at h
 exact (aAM au0 auU aK8 akL 100000 40).1 _ _ _ _ _ (aA9 (anU h _ zy) () (true, ()) zy)
end Go.Vg
