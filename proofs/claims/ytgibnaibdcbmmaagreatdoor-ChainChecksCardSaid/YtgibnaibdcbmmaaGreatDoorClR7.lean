/-
  A runner over the evaluator, and calls that have been run. Own work; no condition.
-/
import Derived.Test.YtgibnaibdcbmmaaGreatDoorClR6
import Derived.Test.YtgibnaibdcbmmaaGreatDoorProg
import Derived.KernelRfl
set_option linter.unusedVariables false
set_option linter.unusedSimpArgs false
namespace Go.Vg
open Go
abbrev qZ0 : Ty := .int .u8
abbrev qZ1 : Ty := .int .i16
abbrev qZ2 : Ty := .pair .bool .unit
abbrev qZ3 : Ty := .pair qZ0 (.pair (.sl (.int .u16)) (.pair (.sl (.pair qZ0 (.pair qZ1 (.pair qZ1 (.pair qZ1 (.pair qZ0 (.pair qZ0 .unit))))))) (.pair .bool qZ2)))
abbrev qZ4 : Ty := .pair (.sl qZ0) (.pair qZ0 (.pair (.sl (.int .u16)) qZ2))
abbrev qZ5 : Ty := .pair (.pair qZ0 (.pair qZ0 (.pair (.sl (.pair qZ0 (.pair qZ1 .unit))) .unit))) .unit
abbrev qZ6 : Ty := .pair qZ4 qZ5
abbrev qZ7 : Ty := .int .i64
abbrev qZ8 : Ty := .pair qZ7 .unit
abbrev qZ9 : Ty := .sl qZ7
abbrev qZa : Ty := .pair qZ7 qZ8
abbrev qZb : Ty := .pair qZ7 qZa
abbrev qZc : Ty := .pair qZ7 (.pair qZ7 (.pair qZ7 qZb))
abbrev qZd : Ty := .pair qZ7 (.pair qZ9 (.pair (.sl qZc) .unit))
abbrev qZe : Ty := .pair qZ9 .unit
abbrev qZf : Ty := .pair qZ9 (.pair qZ7 qZe)
abbrev qZg : Ty := .pair (.sl qZa) qZa
abbrev qZh : Ty := .pair qZ7 (.pair (.sl qZd) (.pair (.sl qZ9) (.pair qZ9 (.pair qZf qZg))))
abbrev qZi : Ty := .pair (.sl qZh) .unit
abbrev qZj : Ty := .pair qZ7 qZi
abbrev qZk : Ty := .pair (.sl qZj) .unit
abbrev qZl : Ty := .pair qZj .unit
abbrev qZm : Ty := .pair .str .unit
abbrev qZn : Ty := .pair .str qZm
abbrev qZo : Ty := .pair (.sl qZn) .unit
abbrev qZp : Ty := .pair (.sl qZn) qZ8
abbrev qZq : Ty := .pair qZn .unit
abbrev qZr : Ty := .pair (.sl qZa) .unit
abbrev qZs : Ty := .pair (.sl qZa) qZ8
abbrev qZt : Ty := .pair qZh .unit
abbrev qZu : Ty := .pair (.sl qZa) qZr
abbrev qZv : Ty := .pair qZ7 qZ2
abbrev qZw : Ty := .pair qZn qZq
abbrev qZx : Ty := .pair qZn qZ8
abbrev qZy : Ty := .pair qZa .unit
abbrev qZz : Ty := .pair qZd .unit
abbrev qZ00 : Ty := .pair qZ9 qZe
abbrev qZ01 : Ty := .pair qZf .unit
abbrev qZ02 : Ty := .sl (.int .u32)
abbrev qZ03 : Ty := .pair qZ02 qZ2
abbrev qZ04 : Ty := .pair qZ02 .unit
abbrev qZ05 : Ty := .pair qZ03 qZ04
abbrev qZ06 : Ty := .pair qZ03 .unit
abbrev qZ07 : Ty := .pair qZ05 .unit
abbrev qZ08 : Ty := .pair qZ05 qZ07
abbrev qZ09 : Ty := .pair qZt qZo
abbrev qZ0a : Ty := .pair (.pair .bool qZe) .unit
abbrev qZ0b : Ty := .pair (.pair .bool qZe) qZ0a
abbrev qZ0c : Ty := .pair qZ0b .unit
abbrev qZ0d : Ty := .pair qZt qZr
abbrev qZ0e : Ty := .pair qZ02 qZ04
abbrev qZ0f : Ty := .pair qZ03 qZ06
abbrev qZ0g : Ty := .pair .str qZ8
abbrev qZ0h : Ty := .pair qZa qZ8
abbrev qZ0i : Ty := .pair qZa qZy
abbrev qZ0j : Ty := .pair .str qZ2
abbrev qZ0k : Ty := .pair (.int .u64) .unit
abbrev qZ0l : Ty := .pair (.int .u32) .unit
abbrev qZ0m : Ty := .pair (.int .u32) qZ0l
abbrev qZ0n : Ty := .pair qZf (.pair qZ9 (.pair qZ9 qZo))
abbrev qZ0o : Ty := .pair qZa qZa
abbrev qZ0p : Ty := .pair qZz qZy
abbrev qZ0q : Ty := .pair qZ9 qZ8
abbrev qZ0r : Ty := .pair qZ02 qZ0l
abbrev qZ0s : Ty := .pair (.int .u64) qZ0k
def ae5 : Sig := [
 (2, (.unit, .unit)),
 (3, ((.pair (.pair qZ0 (.pair (.sl (.pair qZ0 (.pair qZ0 (.pair (.arr 4 qZ3) (.pair (.arr 4 (.arr 4 qZ1)) (.pair (.arr 4 qZ1) qZ6)))))) qZ2)) (.pair (.arr 2 (.pair qZ0 (.pair qZ0 (.pair qZ7 (.pair (.pair qZ0 (.pair qZ0 (.pair (.arr 4 qZ3) (.pair (.arr 4 (.arr 4 qZ1)) (.pair (.arr 4 qZ1) qZ6))))) .unit))))) qZ8)), qZ2)),
 (4, (.unit, qZ2)),
 (5, (qZk, qZk)),
 (6, ((.pair (.pair qZ0 (.pair (.sl (.pair qZ0 (.pair qZ0 (.pair (.arr 4 qZ3) (.pair (.arr 4 (.arr 4 qZ1)) (.pair (.arr 4 qZ1) qZ6)))))) qZ2)) (.pair (.arr 2 (.pair qZ0 (.pair qZ0 (.pair qZ7 (.pair (.pair qZ0 (.pair qZ0 (.pair (.arr 4 qZ3) (.pair (.arr 4 (.arr 4 qZ1)) (.pair (.arr 4 qZ1) qZ6))))) .unit))))) .unit)), qZk)),
 (7, (qZl, qZa)),
 (8, (qZl, qZa)),
 (9, (qZl, qZ8)),
 (10, (qZl, qZ8)),
 (11, (qZl, qZ2)),
 (12, (qZl, qZ2)),
 (13, ((.pair qZj qZl), qZ2)),
 (14, ((.pair qZj qZl), qZ2)),
 (15, ((.pair qZj qZo), qZp)),
 (16, (.unit, qZl)),
 (17, (qZa, qZq)),
 (18, ((.pair qZj qZl), (.pair qZj qZ8))),
 (19, ((.pair qZj qZa), (.pair qZj qZ8))),
 (20, ((.pair qZj qZr), qZs)),
 (21, ((.pair (.sl qZn) qZo), qZ2)),
 (22, (.unit, qZt)),
 (23, (qZu, qZ2)),
 (24, ((.pair (.pair qZ0 (.pair (.sl (.pair qZ0 (.pair qZ0 (.pair (.arr 4 qZ3) (.pair (.arr 4 (.arr 4 qZ1)) (.pair (.arr 4 qZ1) qZ6)))))) qZ2)) (.pair (.arr 2 (.pair qZ0 (.pair qZ0 (.pair qZ7 (.pair (.pair qZ0 (.pair qZ0 (.pair (.arr 4 qZ3) (.pair (.arr 4 (.arr 4 qZ1)) (.pair (.arr 4 qZ1) qZ6))))) .unit))))) .unit)), (.pair (.arr 3 qZj) .unit))),
 (25, ((.pair qZl .unit), qZv)),
 (26, (qZl, qZv)),
 (27, (qZl, qZ2)),
 (29, (qZt, qZ2)),
 (30, (qZt, qZ2)),
 (31, (qZt, qZ2)),
 (33, ((.pair qZh qZt), qZ2)),
 (34, ((.pair qZh qZt), qZ2)),
 (36, (qZq, qZa)),
 (37, (qZw, qZa)),
 (39, (qZq, qZ8)),
 (40, ((.pair qZh qZo), qZp)),
 (41, (.unit, qZt)),
 (42, (qZa, qZx)),
 (43, ((.pair (.sl (.sl qZh)) .unit), qZi)),
 (44, (qZy, qZ2)),
 (46, (qZy, qZ8)),
 (47, ((.pair qZh qZr), qZs)),
 (48, ((.pair (.pair qZ0 (.pair (.sl (.pair qZ0 (.pair qZ0 (.pair (.arr 4 qZ3) (.pair (.arr 4 (.arr 4 qZ1)) (.pair (.arr 4 qZ1) qZ6)))))) qZ2)) .unit), qZl)),
 (49, ((.pair (.pair qZ0 (.pair qZ0 (.pair qZ7 (.pair (.pair qZ0 (.pair qZ0 (.pair (.arr 4 qZ3) (.pair (.arr 4 (.arr 4 qZ1)) (.pair (.arr 4 qZ1) qZ6))))) .unit)))) qZl), qZl)),
 (51, (qZt, qZa)),
 (52, (qZt, qZa)),
 (53, (qZt, qZa)),
 (54, (qZt, qZa)),
 (56, (qZt, qZ8)),
 (58, (qZz, qZ2)),
 (59, (qZz, qZ2)),
 (60, (qZt, qZ2)),
 (61, (qZz, qZ2)),
 (63, ((.pair qZd qZz), qZ2)),
 (65, (qZ00, qZ2)),
 (66, (qZ00, qZ2)),
 (67, ((.pair qZf qZ01), qZ2)),
 (68, (qZu, qZ2)),
 (69, (qZ00, qZ2)),
 (70, ((.pair qZf qZ01), qZ2)),
 (71, (qZu, qZ2)),
 (72, ((.pair qZd qZz), qZ2)),
 (73, (qZq, (.pair qZ05 qZ2))),
 (74, (qZ06, qZ8)),
 (76, (qZ08, qZ8)),
 (79, (qZo, qZo)),
 (81, (qZ09, qZp)),
 (82, (qZ09, qZp)),
 (83, (qZ09, qZp)),
 (84, (qZ09, qZp)),
 (85, (qZ0c, qZx)),
 (86, (qZa, qZ0c)),
 (89, (qZr, qZr)),
 (90, (qZa, qZ2)),
 (92, (qZ0d, qZs)),
 (93, (qZ0d, qZs)),
 (94, (qZ0d, qZs)),
 (95, (qZ0d, qZs)),
 (96, ((.pair (.pair qZ0 (.pair (.sl (.pair qZ0 (.pair qZ0 (.pair (.arr 4 qZ3) (.pair (.arr 4 (.arr 4 qZ1)) (.pair (.arr 4 qZ1) qZ6)))))) qZ2)) qZ8), qZl)),
 (97, (qZi, qZi)),
 (98, ((.pair (.pair qZ0 (.pair qZ0 (.pair (.arr 4 qZ3) (.pair (.arr 4 (.arr 4 qZ1)) (.pair (.arr 4 qZ1) qZ6))))) qZ8), qZt)),
 (99, ((.pair (.sl qZh) qZa), qZi)),
 (100, ((.pair (.sl qZd) .unit), qZ2)),
 (101, ((.pair (.sl qZ9) qZe), qZ2)),
 (102, (qZ01, qZ8)),
 (103, (qZg, qZ8)),
 (105, (qZz, qZ8)),
 (107, (qZ01, qZ2)),
 (108, ((.pair (.sl qZd) .unit), qZ2)),
 (109, (qZt, qZ2)),
 (110, (qZ01, qZ2)),
 (111, (qZg, qZ2)),
 (112, (qZz, qZ2)),
 (113, ((.pair (.sl qZc) (.pair (.sl qZc) .unit)), qZ2)),
 (114, (qZm, qZ8)),
 (115, (qZm, qZ06)),
 (116, (qZ0e, qZ04)),
 (117, (qZ0e, qZ8)),
 (118, (qZ04, qZ2)),
 (119, (qZ05, qZ06)),
 (120, (qZ0f, qZ06)),
 (121, (qZ06, qZ06)),
 (125, ((.pair qZd qZq), qZx)),
 (127, (qZ8, qZx)),
 (128, (qZw, qZx)),
 (129, (qZw, qZx)),
 (130, ((.pair qZf qZo), qZp)),
 (131, ((.pair (.sl qZa) qZp), qZp)),
 (132, (qZ0a, qZ0g)),
 (133, (qZ0b, qZ0c)),
 (134, (qZ8, qZ0a)),
 (138, ((.pair qZd qZy), qZ0h)),
 (140, (qZ8, qZ0h)),
 (141, (qZ0i, qZ0h)),
 (142, (qZ0i, qZ0h)),
 (143, ((.pair qZf qZr), qZs)),
 (144, ((.pair (.sl qZa) qZs), qZs)),
 (145, ((.pair qZ3 .unit), qZz)),
 (146, ((.pair qZ4 (.pair (.sl qZ0) qZ8)), qZ01)),
 (147, (qZ5, qZr)),
 (148, (qZ5, qZ8)),
 (149, (qZz, qZ2)),
 (151, (qZ8, qZ2)),
 (152, (qZb, qZ2)),
 (153, (qZe, qZ8)),
 (154, (qZg, qZa)),
 (155, (qZe, qZ2)),
 (156, (qZz, qZ2)),
 (158, (qZe, qZ2)),
 (159, (qZb, qZ2)),
 (160, (qZe, qZ8)),
 (161, (qZg, qZv)),
 (162, (qZb, qZ2)),
 (163, ((.pair qZc .unit), qZ2)),
 (164, (qZm, (.pair qZ03 qZ2))),
 (165, (qZn, qZ0j)),
 (166, (qZm, qZ04)),
 (167, (qZ04, qZ0k)),
 (168, (qZ0k, qZ04)),
 (169, (qZ0e, qZ0e)),
 (170, (qZa, qZ8)),
 (171, (qZ0m, qZ8)),
 (172, (qZ03, qZ06)),
 (173, (qZ0e, qZ04)),
 (174, (qZ0e, qZ04)),
 (175, (qZ0e, qZ04)),
 (176, ((.pair qZz qZq), qZx)),
 (177, ((.pair qZz qZq), qZx)),
 (178, ((.pair qZz qZq), qZx)),
 (179, (qZq, qZq)),
 (184, (qZa, qZx)),
 (185, ((.pair qZ05 qZ8), qZx)),
 (187, (qZ08, qZ07)),
 (188, (qZ08, qZ07)),
 (189, ((.pair qZf qZo), (.pair qZ0n qZ8))),
 (190, ((.pair qZ0n .unit), qZp)),
 (193, (qZ0a, qZm)),
 (194, (qZ0a, qZ0a)),
 (195, (qZ0b, qZ0a)),
 (196, (qZ0b, qZ0b)),
 (197, ((.pair .bool qZe), qZ0a)),
 (198, (qZ0o, qZ0h)),
 (199, (qZ0p, qZ0h)),
 (200, (qZ0p, qZ0h)),
 (201, (qZ0p, qZ0h)),
 (206, (qZq, qZ0h)),
 (210, ((.pair qZ7 qZv), qZv)),
 (211, ((.pair qZ7 (.pair qZ7 qZv)), qZv)),
 (213, (qZa, qZ0h)),
 (214, (qZ01, (.pair qZ9 qZ0q))),
 (217, (qZa, qZq)),
 (218, (qZ01, (.pair (.sl qZ9) qZ8))),
 (220, ((.pair qZ9 qZo), qZx)),
 (221, ((.pair qZn (.pair qZn qZw)), qZ0h)),
 (224, ((.pair qZ3 .unit), qZz)),
 (225, ((.pair qZ3 .unit), qZz)),
 (226, ((.pair qZ4 qZ0q), qZ01)),
 (227, (qZ8, qZ8)),
 (228, (qZ5, qZ8)),
 (232, (qZ8, qZv)),
 (233, (qZ0o, qZ2)),
 (234, (qZb, qZ2)),
 (235, ((.pair (.pair qZc qZv) .unit), qZ2)),
 (236, (qZ0o, qZ2)),
 (237, (qZa, qZ2)),
 (238, (qZm, qZ04)),
 (239, (qZn, qZ0j)),
 (240, (qZ04, qZ04)),
 (241, (qZ0r, qZ0r)),
 (243, (qZ8, qZ2)),
 (244, (qZ0l, qZ2)),
 (245, (qZ8, qZq)),
 (246, (qZq, qZ0g)),
 (249, (qZw, qZx)),
 (250, (qZw, qZx)),
 (251, (qZa, qZq)),
 (252, ((.pair (.pair qZc qZv) qZq), qZx)),
 (255, (qZw, qZ8)),
 (256, (qZn, qZx)),
 (257, (qZ8, qZm)),
 (258, (qZ07, qZx)),
 (259, ((.pair qZf qZo), (.pair qZ0n qZ8))),
 (260, ((.pair qZ0n (.pair (.arr 4 qZ7) .unit)), qZ0q)),
 (265, (qZ8, qZq)),
 (266, (qZo, qZx)),
 (267, (qZ8, qZx)),
 (269, (qZw, qZx)),
 (270, (qZw, qZx)),
 (272, (qZq, qZx)),
 (273, (qZq, qZx)),
 (274, (qZo, qZx)),
 (275, (qZq, qZx)),
 (276, ((.pair qZn qZw), qZx)),
 (282, (qZ8, qZm)),
 (283, (qZ00, qZ00)),
 (284, (qZ0b, qZ0a)),
 (285, (qZ0b, qZ0a)),
 (286, (qZe, qZe)),
 (288, (qZo, qZ0h)),
 (289, ((.pair (.pair qZc qZv) qZa), qZ0h)),
 (290, (qZr, qZ0h)),
 (291, (qZx, qZa)),
 (292, (qZe, qZ8)),
 (293, (qZe, qZ8)),
 (294, (qZ0s, qZ0s)),
 (295, (qZ8, qZ0k)),
 (296, ((.pair (.int .u64) qZ0s), qZ0s)),
 (299, (qZa, qZ2)),
 (300, (qZa, qZ2)),
 (303, (qZ0i, qZ0h)),
 (304, (qZa, qZ0h)),
 (305, (qZ8, qZ0h)),
 (307, (qZ0i, qZ0h)),
 (308, (qZ0i, qZ0h)),
 (309, (qZ0i, qZ0h)),
 (311, (qZy, qZ0h)),
 (312, (qZy, qZ0h)),
 (313, (qZr, qZ0h)),
 (314, (qZy, qZ0h)),
 (320, (qZ0q, qZe)),
 (321, (qZ04, qZ04)),
 (322, (qZn, qZ2)),
 (323, (qZ05, qZ06)),
 (324, (qZ06, qZm)),
 (327, (qZ08, qZ07)),
 (328, (qZ07, qZ07)),
 (329, (qZ05, qZ07)),
 (330, (qZ8, qZm)),
 (331, (qZ04, qZ8)),
 (332, (qZ04, qZm)),
 (334, (qZx, (.pair qZ7 qZx))),
 (340, (qZ08, qZ07)),
 (341, (qZ08, qZ07)),
 (343, (qZ07, qZ07)),
 (345, (qZo, qZ8)),
 (346, (qZ0q, qZ0q)),
 (347, (qZ00, qZ8)),
 (348, (qZ00, qZe)),
 (349, (qZ00, qZe)),
 (350, (qZ00, qZe)),
 (351, (qZ0o, qZ0h)),
 (352, (qZm, qZa)),
 (353, ((.pair qZ05 qZ04), qZ06)),
 (354, (qZe, qZ8)),
 (355, (qZe, qZ8)),
 (356, (qZ0k, qZ8)),
 (357, (qZe, qZe)),
 (358, ((.pair qZ01 (.pair (.arr 4 qZ7) .unit)), qZe)),
 (361, ((.pair qZ7 qZ0i), qZ0h)),
 (368, (qZr, qZ8)),
 (374, (qZ8, qZm)),
 (380, ((.pair qZ01 qZe), (.pair (.arr 4 qZ7) qZ2))),
 (381, (qZy, qZ2)),
 (383, ((.pair qZy qZv), qZa)),
 (385, (qZ0k, qZ8)),
 (386, ((.pair qZ01 (.pair (.arr 4 qZ7) .unit)), qZ8)),
 (390, (qZm, qZm)),
 (392, (qZa, qZm)),
 (396, (qZ0g, qZ0g)),
 (397, (qZn, qZ0g)),
 (398, (qZ8, qZm)),
 (399, (qZn, (.pair .str qZ0g))),
 (400, (qZ0g, (.pair .str (.pair .bool qZ8)))),
 (401, (qZ0j, qZa)),
 (402, ((.pair qZ0 .unit), (.pair qZ0 .unit))),
 (403, (qZm, qZ2)),
 (404, (qZ8, qZm)),
 (405, (qZ0k, qZ8)),
 (406, ((.pair (.sl qZ0) qZ0k), .unit)),
 (407, ((.pair (.sl qZ0) (.pair (.int .u64) (.pair qZ7 (.pair .bool qZ2)))), (.pair (.sl qZ0) qZm))),
 (410, (qZ06, qZ0g)),
 (411, (qZ03, qZ06)),
 (412, ((.pair qZ02 qZ8), qZ04)),
 (413, ((.pair qZ7 qZn), qZ0g)),
 (414, (qZ0g, qZm)),
 (415, (qZn, (.pair qZ03 (.pair qZ03 qZ8)))),
 (416, (qZ04, qZ2)),
 (417, (qZ0e, qZ0e)),
 (418, (qZ0e, qZ04)),
 (419, (qZ0e, qZ04)),
 (420, (qZ0g, qZ0g)),
 (421, (qZ8, qZ8)),
 (422, (qZ2, qZ8)),
 (423, (qZ8, qZ2)),
 (424, (qZ0k, qZ8)),
 (426, (qZ04, qZ8)),
 (427, (qZ04, qZm)),
 (428, (qZ0e, qZ04)),
 (429, (qZ0f, qZ06)),
 (430, (qZ0f, qZ06)),
 (431, (qZ0f, qZ06)),
 (432, (qZ0f, qZ06)),
 (433, (qZ0s, qZ0s)),
 (434, (qZn, qZ2)),
 (437, (qZ0e, qZ8)),
 (438, (qZ0r, qZ0r)),
 (439, (qZ0k, qZ04)),
 (441, ((.pair qZ02 qZ8), qZ04)),
 (442, (qZ0l, qZ8)),
 (443, (qZ0k, qZ8)),
 (445, (qZ06, qZ06)),
 (446, (qZ0e, qZ04)),
 (447, (qZ0m, qZ0m)),
 (449, (qZ8, qZ04)),
 (450, (qZ04, qZ0k)),
 (480, (.unit, .unit))]
open Go Go.Proofs
set_option maxRecDepth 1000000
theorem avM : acS (Gt Tryz.prog) := aJK (by kernel_rfl)
theorem avG : Tryz.prog.follows .mixedOrders = true := by kernel_rfl
def axI (P : Program) : Sig → Bool
 | [] => true
 | x :: r => match acL P x.1 with
  | true => axI P r
  | false => false
theorem apU {P : Program} : ∀ {s : Sig}, axI P s = true → ∀ x ∈ s, acL P x.1 = true
 | [], _, _, h => by cases h
 | q :: r, hc, x, h => by
  simp only [axI] at hc
  split at hc
  ·rename_i hq
   rcases zp.1 h with e | h
   ·rw [e]; exact hq
   ·exact apU hc x h
  ·cases hc
theorem akU : ∀ x ∈ ae5, acL Tryz.prog x.1 = true := apU (by kernel_rfl)
def aoH : abC := aHy 330 414
theorem aLY : aeD Tryz.prog (Gt Tryz.prog) aoH :=
 aNc 330 414 (by kernel_rfl) (by kernel_rfl) (fun n h0 h1 w h => Tryz.strconv_Itoa n h0 h1 w h) (fun s c w h1 h2 => Tryz.strings_Repeat s c w h1 h2)
open Go Go.Proofs
set_option maxRecDepth 1000000
set_option maxHeartbeats 0
def aMT : Row := ⟨21, (.pair (.sl qZn) qZo), qZ2, ([(([([51], ([56], ())), ([49], ([50], ()))], ([([51], ([56], ())), ([49], ([50], ()))], ())), (true, ()))] : List ((List (List UInt8 × (List UInt8 × Unit)) × (List (List UInt8 × (List UInt8 × Unit)) × Unit)) × (Bool × Unit)))⟩
def aMS : Row := ⟨56, qZt, qZ8, ([((((.ofNat 2), ([], ([[(.ofNat 500000), (.ofNat 500000)], [(.ofNat 1000000), (.negSucc 999999)]], ([(.ofNat 0), (.ofNat 250000)], (([], ((.ofNat 0), ([], ()))), ([], ((.ofNat 0), ((.ofNat 0), ())))))))), ()), ((.ofNat 0), ()))] : List (((Int × (List (Int × (List Int × (List (Int × (Int × (Int × (Int × (Int × (Int × Unit)))))) × Unit))) × (List (List Int) × (List Int × ((List Int × (Int × (List Int × Unit))) × (List (Int × (Int × Unit)) × (Int × (Int × Unit)))))))) × Unit) × (Int × Unit)))⟩
def aKW : Row := ⟨105, qZz, qZ8, ([((((.ofNat 2), ([(.ofNat 65535), (.ofNat 0)], ([], ()))), ()), ((.ofNat 0), ()))] : List (((Int × (List Int × (List (Int × (Int × (Int × (Int × (Int × (Int × Unit)))))) × Unit))) × Unit) × (Int × Unit)))⟩
def aKV : Row := ⟨116, qZ0e, qZ04, ([(([(.ofNat 1)], ([(.ofNat 2)], ())), ([(.ofNat 1)], ())),
 (([(.ofNat 1)], ([(.ofNat 4)], ())), ([(.ofNat 1)], ())),
 (([(.ofNat 1)], ([(.ofNat 1)], ())), ([(.ofNat 1)], ())),
 (([], ([(.ofNat 1)], ())), ([(.ofNat 1)], ())),
 (([(.ofNat 3)], ([(.ofNat 4)], ())), ([(.ofNat 1)], ())),
 (([(.ofNat 1000000)], ([(.ofNat 1000000)], ())), ([(.ofNat 1000000)], ())),
 (([(.ofNat 3)], ([(.ofNat 2)], ())), ([(.ofNat 1)], ())),
 (([(.ofNat 65535)], ([(.ofNat 1)], ())), ([(.ofNat 1)], ())),
 (([(.ofNat 65535)], ([(.ofNat 2)], ())), ([(.ofNat 1)], ())),
 (([(.ofNat 65535)], ([(.ofNat 65535)], ())), ([(.ofNat 65535)], ())),
 (([(.ofNat 65535)], ([(.ofNat 4)], ())), ([(.ofNat 1)], ()))] : List ((List Int × (List Int × Unit)) × (List Int × Unit)))⟩
def aKU : Row := ⟨117, qZ0e, qZ8, ([(([(.ofNat 1)], ([(.ofNat 2)], ())), ((.negSucc 0), ())),
 (([(.ofNat 1)], ([(.ofNat 4)], ())), ((.negSucc 0), ())),
 (([(.ofNat 3)], ([(.ofNat 1)], ())), ((.ofNat 1), ()))] : List ((List Int × (List Int × Unit)) × (Int × Unit)))⟩
def aKT : Row := ⟨119, qZ05, qZ06, ([((([], (false, ())), ([(.ofNat 4)], ())), (([], (false, ())), ())),
 ((([], (false, ())), ([(.ofNat 2)], ())), (([], (false, ())), ())),
 ((([(.ofNat 3)], (false, ())), ([(.ofNat 4)], ())), (([(.ofNat 12)], (false, ())), ()))] : List (((List Int × (Bool × Unit)) × (List Int × Unit)) × ((List Int × (Bool × Unit)) × Unit)))⟩
def aKS : Row := ⟨120, qZ0f, qZ06, ([((([], (false, ())), (([(.ofNat 1)], (false, ())), ())), (([(.ofNat 1)], (false, ())), ())),
 ((([(.ofNat 1)], (false, ())), (([], (false, ())), ())), (([(.ofNat 1)], (false, ())), ())),
 ((([], (false, ())), (([], (false, ())), ())), (([], (false, ())), ()))] : List (((List Int × (Bool × Unit)) × ((List Int × (Bool × Unit)) × Unit)) × ((List Int × (Bool × Unit)) × Unit)))⟩
def aKR : Row := ⟨132, qZ0a, qZ0g, ([(((false, ([(.ofNat 1)], ())), ()), ([49], ((.ofNat 0), ()))),
 (((false, ([(.ofNat 2)], ())), ()), ([50], ((.ofNat 0), ()))),
 (((false, ([(.ofNat 3)], ())), ()), ([51], ((.ofNat 0), ())))] : List (((Bool × (List Int × Unit)) × Unit) × (List UInt8 × (Int × Unit))))⟩
def aKQ : Row := ⟨134, qZ8, qZ0a, ([(((.ofNat 1), ()), ((false, ([(.ofNat 1)], ())), ())),
 (((.ofNat 2), ()), ((false, ([(.ofNat 2)], ())), ())),
 (((.ofNat 3), ()), ((false, ([(.ofNat 3)], ())), ()))] : List ((Int × Unit) × ((Bool × (List Int × Unit)) × Unit)))⟩
def aKP : Row := ⟨165, qZn, qZ0j, ([(([49], ([45], ())), ([49], (false, ()))),
 (([50], ([45], ())), ([50], (false, ()))),
 (([52], ([45], ())), ([52], (false, ()))),
 (([48], ([45], ())), ([48], (false, ()))),
 (([49,48,48,48,48,48,48], ([45], ())), ([49,48,48,48,48,48,48], (false, ()))),
 (([53,48,48,48,48,48], ([45], ())), ([53,48,48,48,48,48], (false, ()))),
 (([56], ([45], ())), ([56], (false, ()))),
 (([50,53,48,48,48,48], ([45], ())), ([50,53,48,48,48,48], (false, ()))),
 (([45,49,48,48,48,48,48,48], ([45], ())), ([49,48,48,48,48,48,48], (true, ()))),
 (([45,49], ([45], ())), ([49], (true, ()))),
 (([51], ([45], ())), ([51], (false, ()))),
 (([45,54,53,53,51,53], ([45], ())), ([54,53,53,51,53], (true, ()))),
 (([54,53,53,51,53], ([45], ())), ([54,53,53,51,53], (false, ()))),
 (([49,48,48,48,48,48,48,48,48,48,48,48,48], ([45], ())), ([49,48,48,48,48,48,48,48,48,48,48,48,48], (false, ()))),
 (([53,48,48,48,48,48,48,48,48,48,48,48], ([45], ())), ([53,48,48,48,48,48,48,48,48,48,48,48], (false, ()))),
 (([50,53,48,48,48,48,48,48,48,48,48,48], ([45], ())), ([50,53,48,48,48,48,48,48,48,48,48,48], (false, ()))),
 (([45,49,48,48,48,48,48,48,48,48,48,48,48,48], ([45], ())), ([49,48,48,48,48,48,48,48,48,48,48,48,48], (true, ()))),
 (([49,57,54,54,48,53], ([45], ())), ([49,57,54,54,48,53], (false, ()))),
 (([55,53,48,48,48,48,48,48,48,48,48,48], ([45], ())), ([55,53,48,48,48,48,48,48,48,48,48,48], (false, ())))] : List ((List UInt8 × (List UInt8 × Unit)) × (List UInt8 × (Bool × Unit))))⟩
def aKO : Row := ⟨166, qZm, qZ04, ([(([49], ()), ([(.ofNat 1)], ())),
 (([49,48,48,48,48,48,48], ()), ([(.ofNat 1000000)], ())),
 (([54,53,53,51,53], ()), ([(.ofNat 65535)], ())),
 (([49,48,48,48,48,48,48,48,48,48,48,48,48], ()), ([(.ofNat 0), (.ofNat 1000)], ()))] : List ((List UInt8 × Unit) × (List Int × Unit)))⟩
def aKN : Row := ⟨167, qZ04, qZ0k, ([(([(.ofNat 0), (.ofNat 1000)], ()), ((.ofNat 1000000000000), ()))] : List ((List Int × Unit) × (Int × Unit)))⟩
def aKM : Row := ⟨168, qZ0k, qZ04, ([(((.ofNat 1000000000000), ()), ([(.ofNat 0), (.ofNat 1000)], ())),
 (((.ofNat 250000000000), ()), ([(.ofNat 0), (.ofNat 250)], ()))] : List ((Int × Unit) × (List Int × Unit)))⟩
def aKL : Row := ⟨169, qZ0e, qZ0e, ([(([(.ofNat 1000000)], ([(.ofNat 1000000)], ())), ([(.ofNat 1)], ([], ()))),
 (([(.ofNat 1)], ([(.ofNat 1)], ())), ([(.ofNat 1)], ([], ()))),
 (([(.ofNat 2)], ([(.ofNat 1)], ())), ([(.ofNat 2)], ([], ()))),
 (([(.ofNat 4)], ([(.ofNat 1)], ())), ([(.ofNat 4)], ([], ()))),
 (([(.ofNat 4)], ([(.ofNat 4)], ())), ([(.ofNat 1)], ([], ()))),
 (([(.ofNat 2)], ([(.ofNat 2)], ())), ([(.ofNat 1)], ([], ()))),
 (([(.ofNat 4)], ([(.ofNat 2)], ())), ([(.ofNat 2)], ([], ()))),
 (([], ([(.ofNat 1)], ())), ([], ([], ()))),
 (([(.ofNat 65535)], ([(.ofNat 1)], ())), ([(.ofNat 65535)], ([], ()))),
 (([(.ofNat 65535)], ([(.ofNat 65535)], ())), ([(.ofNat 1)], ([], ())))] : List ((List Int × (List Int × Unit)) × (List Int × (List Int × Unit))))⟩
def aKK : Row := ⟨173, qZ0e, qZ04, ([(([(.ofNat 1)], ([(.ofNat 1)], ())), ([(.ofNat 1)], ())),
 (([(.ofNat 3)], ([(.ofNat 1)], ())), ([(.ofNat 3)], ())),
 (([(.ofNat 65535)], ([(.ofNat 1)], ())), ([(.ofNat 65535)], ())),
 (([(.ofNat 0), (.ofNat 1000)], ([(.ofNat 999000)], ())), ([(.ofNat 0), (.ofNat 999000000)], ())),
 (([], ([(.ofNat 1)], ())), ([], ())),
 (([(.ofNat 0), (.ofNat 500)], ([(.ofNat 1996007)], ())), ([(.ofNat 0), (.ofNat 998003500)], ())),
 (([(.ofNat 0), (.ofNat 250)], ([(.ofNat 3984063)], ())), ([(.ofNat 0), (.ofNat 996015750)], ()))] : List ((List Int × (List Int × Unit)) × (List Int × Unit)))⟩
def aKJ : Row := ⟨175, qZ0e, qZ04, ([(([(.ofNat 1)], ([(.ofNat 1)], ())), ([], ()))] : List ((List Int × (List Int × Unit)) × (List Int × Unit)))⟩
def aKI : Row := ⟨196, qZ0b, qZ0b, ([(((false, ([(.ofNat 1)], ())), ((false, ([(.ofNat 1)], ())), ())), ((false, ([(.ofNat 1)], ())), ((false, ([], ())), ()))),
 (((false, ([(.ofNat 3)], ())), ((false, ([(.ofNat 1)], ())), ())), ((false, ([(.ofNat 3)], ())), ((false, ([], ())), ())))] : List (((Bool × (List Int × Unit)) × ((Bool × (List Int × Unit)) × Unit)) × ((Bool × (List Int × Unit)) × ((Bool × (List Int × Unit)) × Unit))))⟩
def aKH : Row := ⟨238, qZm, qZ04, ([(([49], ()), ([(.ofNat 1)], ())),
 (([49,48,48,48,48,48,48], ()), ([(.ofNat 1000000)], ())),
 (([54,53,53,51,53], ()), ([(.ofNat 65535)], ())),
 (([49,48,48,48,48,48,48,48,48,48,48,48,48], ()), ([(.ofNat 0), (.ofNat 1000)], ()))] : List ((List UInt8 × Unit) × (List Int × Unit)))⟩
def aKG : Row := ⟨240, qZ04, qZ04, ([(([(.ofNat 2), (.ofNat 0)], ()), ([(.ofNat 2)], ())),
 (([(.ofNat 4), (.ofNat 0)], ()), ([(.ofNat 4)], ())),
 (([(.ofNat 8), (.ofNat 0)], ()), ([(.ofNat 8)], ())),
 (([(.ofNat 0), (.ofNat 2000), (.ofNat 0)], ()), ([(.ofNat 0), (.ofNat 2000)], ())),
 (([(.ofNat 0), (.ofNat 0)], ()), ([], ()))] : List ((List Int × Unit) × (List Int × Unit)))⟩
def aKF : Row := ⟨283, qZ00, qZ00, ([(([(.ofNat 2)], ([(.ofNat 1)], ())), ([(.ofNat 2)], ([], ()))),
 (([(.ofNat 4)], ([(.ofNat 1)], ())), ([(.ofNat 4)], ([], ()))),
 (([(.ofNat 3)], ([(.ofNat 2)], ())), ([(.ofNat 1)], ([(.ofNat 1)], ()))),
 (([], ([(.ofNat 1)], ())), ([], ([], ())))] : List ((List Int × (List Int × Unit)) × (List Int × (List Int × Unit))))⟩
def aKE : Row := ⟨294, qZ0s, qZ0s, ([(((.ofNat 500000000000), ((.ofNat 0), ())), ((.ofNat 0), ((.ofNat 0), ()))),
 (((.ofNat 500000000000), ((.ofNat 1000000000000), ())), ((.ofNat 27105), ((.ofNat 1001882102603448320), ()))),
 (((.ofNat 1000000000000), ((.ofNat 0), ())), ((.ofNat 0), ((.ofNat 0), ()))),
 (((.ofNat 1000000000000), ((.ofNat 1000000000000), ())), ((.ofNat 54210), ((.ofNat 2003764205206896640), ())))] : List ((Int × (Int × Unit)) × (Int × (Int × Unit))))⟩
def aKD : Row := ⟨296, (.pair (.int .u64) qZ0s), qZ0s, ([(((.ofNat 27105), ((.ofNat 1001882102603448320), ((.ofNat 1000000000000), ()))), ((.ofNat 500000000000), ((.ofNat 0), ()))),
 (((.ofNat 54210), ((.ofNat 2003764205206896640), ((.ofNat 1000000000000), ()))), ((.ofNat 1000000000000), ((.ofNat 0), ())))] : List ((Int × (Int × (Int × Unit))) × (Int × (Int × Unit))))⟩
def aKC : Row := ⟨324, qZ06, qZm, ([((([(.ofNat 3)], (false, ())), ()), ([51], ()))] : List (((List Int × (Bool × Unit)) × Unit) × (List UInt8 × Unit)))⟩
def aKB : Row := ⟨332, qZ04, qZm, ([(([(.ofNat 1)], ()), ([49], ())),
 (([(.ofNat 2)], ()), ([50], ())),
 (([(.ofNat 4)], ()), ([52], ())),
 (([(.ofNat 8)], ()), ([56], ())),
 (([(.ofNat 65535)], ()), ([54,53,53,51,53], ())),
 (([(.ofNat 0), (.ofNat 1000)], ()), ([49,48,48,48,48,48,48,48,48,48,48,48,48], ()))] : List ((List Int × Unit) × (List UInt8 × Unit)))⟩
def aKA : Row := ⟨343, qZ07, qZ07, ([(((([], (false, ())), ([(.ofNat 1)], ())), ()), ((([], (false, ())), ([(.ofNat 1)], ())), ()))] : List ((((List Int × (Bool × Unit)) × (List Int × Unit)) × Unit) × (((List Int × (Bool × Unit)) × (List Int × Unit)) × Unit)))⟩
def aN6 : List Row := [aMT, aMS, aKW, aKV, aKU, aKT, aKS, aKR, aKQ, aKP, aKO, aKN, aKM, aKL, aKK, aKJ, aKI, aKH, aKG, aKF, aKE, aKD, aKC, aKB, aKA]
theorem aJj : aaR (aaT Tryz.prog ae5 100000 aoH 40) [aMT] = true := by kernel_rfl
theorem aJi : aaR (aaT Tryz.prog ae5 100000 aoH 40) [aMS] = true := by kernel_rfl
theorem aGN : aaR (aaT Tryz.prog ae5 100000 aoH 40) [aKW] = true := by kernel_rfl
theorem aGM : aaR (aaT Tryz.prog ae5 100000 aoH 40) [aKV] = true := by kernel_rfl
theorem aGL : aaR (aaT Tryz.prog ae5 100000 aoH 40) [aKU] = true := by kernel_rfl
theorem aGK : aaR (aaT Tryz.prog ae5 100000 aoH 40) [aKT] = true := by kernel_rfl
theorem aGJ : aaR (aaT Tryz.prog ae5 100000 aoH 40) [aKS] = true := by kernel_rfl
theorem aGI : aaR (aaT Tryz.prog ae5 100000 aoH 40) [aKR] = true := by kernel_rfl
theorem aGH : aaR (aaT Tryz.prog ae5 100000 aoH 40) [aKQ] = true := by kernel_rfl
theorem aGG : aaR (aaT Tryz.prog ae5 100000 aoH 40) [aKP] = true := by kernel_rfl
theorem aGF : aaR (aaT Tryz.prog ae5 100000 aoH 40) [aKO] = true := by kernel_rfl
theorem aGE : aaR (aaT Tryz.prog ae5 100000 aoH 40) [aKN] = true := by kernel_rfl
theorem aGD : aaR (aaT Tryz.prog ae5 100000 aoH 40) [aKM] = true := by kernel_rfl
theorem aGC : aaR (aaT Tryz.prog ae5 100000 aoH 40) [aKL] = true := by kernel_rfl
theorem aGB : aaR (aaT Tryz.prog ae5 100000 aoH 40) [aKK] = true := by kernel_rfl
theorem aGA : aaR (aaT Tryz.prog ae5 100000 aoH 40) [aKJ] = true := by kernel_rfl
theorem aGz : aaR (aaT Tryz.prog ae5 100000 aoH 40) [aKI] = true := by kernel_rfl
theorem aGy : aaR (aaT Tryz.prog ae5 100000 aoH 40) [aKH] = true := by kernel_rfl
theorem aGx : aaR (aaT Tryz.prog ae5 100000 aoH 40) [aKG] = true := by kernel_rfl
theorem aGw : aaR (aaT Tryz.prog ae5 100000 aoH 40) [aKF] = true := by kernel_rfl
theorem aGv : aaR (aaT Tryz.prog ae5 100000 aoH 40) [aKE] = true := by kernel_rfl
theorem aGu : aaR (aaT Tryz.prog ae5 100000 aoH 40) [aKD] = true := by kernel_rfl
theorem aGt : aaR (aaT Tryz.prog ae5 100000 aoH 40) [aKC] = true := by kernel_rfl
theorem aGs : aaR (aaT Tryz.prog ae5 100000 aoH 40) [aKB] = true := by kernel_rfl
theorem aGr : aaR (aaT Tryz.prog ae5 100000 aoH 40) [aKA] = true := by kernel_rfl
theorem aaC {pf : abC} {r : Row} {rs : List Row} (h1 : aaR pf [r] = true) (h2 : aaR pf rs = true) : aaR pf (r :: rs) = true := by
 simp only [aaR] at h1 ⊢
 split at h1
 ·exact h2
 ·cases h1
def aDk : abC := alH (apS aN6) aoH
theorem aLX : aeD Tryz.prog (Gt Tryz.prog) aDk := am8 avM avG akU aLY 100000 40 (aaC aJj (aaC aJi (aaC aGN (aaC aGM (aaC aGL (aaC aGK (aaC aGJ (aaC aGI (aaC aGH (aaC aGG (aaC aGF (aaC aGE (aaC aGD (aaC aGC (aaC aGB (aaC aGA (aaC aGz (aaC aGy (aaC aGx (aaC aGw (aaC aGv (aaC aGu (aaC aGt (aaC aGs (aaC aGr (rfl))))))))))))))))))))))))))
open Go Go.Proofs
set_option maxRecDepth 1000000
set_option maxHeartbeats 0
def aMR : Row := ⟨17, qZa, qZq, ([(((.ofNat 3), ((.ofNat 8), ())), (([51], ([56], ())), ()))] : List ((Int × (Int × Unit)) × ((List UInt8 × (List UInt8 × Unit)) × Unit)))⟩
def aMQ : Row := ⟨56, qZt, qZ8, ([((((.ofNat 1), ([((.ofNat 1), ([], ([], ()))), ((.ofNat 2), ([(.ofNat 65535), (.ofNat 0)], ([], ())))], ([], ([], (([], ((.ofNat 0), ([], ()))), ([], ((.ofNat 0), ((.ofNat 0), ())))))))), ()), ((.ofNat 0), ()))] : List (((Int × (List (Int × (List Int × (List (Int × (Int × (Int × (Int × (Int × (Int × Unit)))))) × Unit))) × (List (List Int) × (List Int × ((List Int × (Int × (List Int × Unit))) × (List (Int × (Int × Unit)) × (Int × (Int × Unit)))))))) × Unit) × (Int × Unit)))⟩
def aKz : Row := ⟨114, qZm, qZ8, ([(([49], ()), ((.ofNat 0), ())),
 (([50], ()), ((.ofNat 0), ())),
 (([52], ()), ((.ofNat 0), ())),
 (([48], ()), ((.ofNat 0), ())),
 (([49,48,48,48,48,48,48], ()), ((.ofNat 0), ())),
 (([56], ()), ((.ofNat 0), ())),
 (([45,49], ()), ((.ofNat 0), ())),
 (([51], ()), ((.ofNat 0), ())),
 (([45,54,53,53,51,53], ()), ((.ofNat 0), ())),
 (([54,53,53,51,53], ()), ((.ofNat 0), ())),
 (([49,48,48,48,48,48,48,48,48,48,48,48,48], ()), ((.ofNat 0), ())),
 (([53,48,48,48,48,48,48,48,48,48,48,48], ()), ((.ofNat 0), ())),
 (([50,53,48,48,48,48,48,48,48,48,48,48], ()), ((.ofNat 0), ())),
 (([45,49,48,48,48,48,48,48,48,48,48,48,48,48], ()), ((.ofNat 0), ())),
 (([55,53,48,48,48,48,48,48,48,48,48,48], ()), ((.ofNat 0), ()))] : List ((List UInt8 × Unit) × (Int × Unit)))⟩
def aKy : Row := ⟨115, qZm, qZ06, ([(([50], ()), (([(.ofNat 2)], (false, ())), ())),
 (([52], ()), (([(.ofNat 4)], (false, ())), ())),
 (([48], ()), (([], (false, ())), ())),
 (([56], ()), (([(.ofNat 8)], (false, ())), ())),
 (([51], ()), (([(.ofNat 3)], (false, ())), ()))] : List ((List UInt8 × Unit) × ((List Int × (Bool × Unit)) × Unit)))⟩
def aKx : Row := ⟨116, qZ0e, qZ04, ([(([(.ofNat 0), (.ofNat 1000)], ([(.ofNat 0), (.ofNat 1000)], ())), ([(.ofNat 0), (.ofNat 1000)], ()))] : List ((List Int × (List Int × Unit)) × (List Int × Unit)))⟩
def aKw : Row := ⟨119, qZ05, qZ06, ([((([(.ofNat 1)], (true, ())), ([(.ofNat 1)], ())), (([(.ofNat 1)], (true, ())), ())),
 ((([(.ofNat 65535)], (true, ())), ([(.ofNat 1)], ())), (([(.ofNat 65535)], (true, ())), ()))] : List (((List Int × (Bool × Unit)) × (List Int × Unit)) × ((List Int × (Bool × Unit)) × Unit)))⟩
def aKv : Row := ⟨169, qZ0e, qZ0e, ([(([(.ofNat 3)], ([(.ofNat 1)], ())), ([(.ofNat 3)], ([], ()))),
 (([(.ofNat 0), (.ofNat 1000)], ([(.ofNat 0), (.ofNat 1000)], ())), ([(.ofNat 1)], ([], ()))),
 (([(.ofNat 0), (.ofNat 1000)], ([(.ofNat 0), (.ofNat 250)], ())), ([(.ofNat 4)], ([], ())))] : List ((List Int × (List Int × Unit)) × (List Int × (List Int × Unit))))⟩
def aKu : Row := ⟨173, qZ0e, qZ04, ([(([(.ofNat 1)], ([(.ofNat 2)], ())), ([(.ofNat 2)], ())),
 (([(.ofNat 1)], ([(.ofNat 4)], ())), ([(.ofNat 4)], ())),
 (([(.ofNat 2)], ([(.ofNat 2)], ())), ([(.ofNat 4)], ())),
 (([(.ofNat 1)], ([(.ofNat 8)], ())), ([(.ofNat 8)], ())),
 (([(.ofNat 2)], ([(.ofNat 1)], ())), ([(.ofNat 2)], ())),
 (([(.ofNat 0), (.ofNat 1000)], ([(.ofNat 2)], ())), ([(.ofNat 0), (.ofNat 2000)], ())),
 (([(.ofNat 1)], ([(.ofNat 0), (.ofNat 2000)], ())), ([(.ofNat 0), (.ofNat 2000)], ())),
 (([(.ofNat 4)], ([(.ofNat 2)], ())), ([(.ofNat 8)], ())),
 (([(.ofNat 4)], ([(.ofNat 1)], ())), ([(.ofNat 4)], ()))] : List ((List Int × (List Int × Unit)) × (List Int × Unit)))⟩
def aKt : Row := ⟨196, qZ0b, qZ0b, ([(((false, ([(.ofNat 2)], ())), ((false, ([(.ofNat 1)], ())), ())), ((false, ([(.ofNat 2)], ())), ((false, ([], ())), ())))] : List (((Bool × (List Int × Unit)) × ((Bool × (List Int × Unit)) × Unit)) × ((Bool × (List Int × Unit)) × ((Bool × (List Int × Unit)) × Unit))))⟩
def aKs : Row := ⟨210, (.pair qZ7 qZv), qZv, ([(((.ofNat 500000000000), ((.ofNat 0), (false, ()))), ((.ofNat 0), (true, ()))),
 (((.ofNat 500000000000), ((.ofNat 0), (true, ()))), ((.ofNat 0), (true, ()))),
 (((.ofNat 500000000000), ((.ofNat 1000000000000), (false, ()))), ((.ofNat 500000000000), (true, ()))),
 (((.ofNat 500000000000), ((.ofNat 1000000000000), (true, ()))), ((.ofNat 500000000000), (true, ()))),
 (((.ofNat 1000000000000), ((.ofNat 0), (false, ()))), ((.ofNat 0), (true, ()))),
 (((.ofNat 1000000000000), ((.ofNat 0), (true, ()))), ((.ofNat 0), (true, ()))),
 (((.ofNat 1000000000000), ((.ofNat 1000000000000), (false, ()))), ((.ofNat 1000000000000), (true, ()))),
 (((.ofNat 1000000000000), ((.ofNat 1000000000000), (true, ()))), ((.ofNat 1000000000000), (true, ()))),
 (((.negSucc 999999999999), ((.ofNat 1000000000000), (false, ()))), ((.negSucc 999999999999), (true, ()))),
 (((.negSucc 999999999999), ((.ofNat 1000000000000), (true, ()))), ((.negSucc 999999999999), (true, ())))] : List ((Int × (Int × (Bool × Unit))) × (Int × (Bool × Unit))))⟩
def aKr : Row := ⟨258, qZ07, qZx, ([(((([], (false, ())), ([(.ofNat 1)], ())), ()), (([48], ([49], ())), ((.ofNat 0), ()))),
 (((([(.ofNat 1)], (false, ())), ([(.ofNat 2)], ())), ()), (([49], ([50], ())), ((.ofNat 0), ()))),
 (((([(.ofNat 1)], (false, ())), ([(.ofNat 4)], ())), ()), (([49], ([52], ())), ((.ofNat 0), ()))),
 (((([(.ofNat 1)], (false, ())), ([(.ofNat 1)], ())), ()), (([49], ([49], ())), ((.ofNat 0), ()))),
 (((([(.ofNat 3)], (false, ())), ([(.ofNat 4)], ())), ()), (([51], ([52], ())), ((.ofNat 0), ()))),
 (((([(.ofNat 1)], (true, ())), ([(.ofNat 1)], ())), ()), (([45,49], ([49], ())), ((.ofNat 0), ()))),
 (((([(.ofNat 65535)], (false, ())), ([(.ofNat 1)], ())), ()), (([54,53,53,51,53], ([49], ())), ((.ofNat 0), ())))] : List ((((List Int × (Bool × Unit)) × (List Int × Unit)) × Unit) × ((List UInt8 × (List UInt8 × Unit)) × (Int × Unit))))⟩
def aKq : Row := ⟨323, qZ05, qZ06, ([((([(.ofNat 1)], (false, ())), ([(.ofNat 2)], ())), (([], (false, ())), ()))] : List (((List Int × (Bool × Unit)) × (List Int × Unit)) × ((List Int × (Bool × Unit)) × Unit)))⟩
def aN5 : List Row := [aMR, aMQ, aKz, aKy, aKx, aKw, aKv, aKu, aKt, aKs, aKr, aKq]
theorem aJh : aaR (aaT Tryz.prog ae5 100000 aDk 40) [aMR] = true := by kernel_rfl
theorem aJg : aaR (aaT Tryz.prog ae5 100000 aDk 40) [aMQ] = true := by kernel_rfl
theorem aGq : aaR (aaT Tryz.prog ae5 100000 aDk 40) [aKz] = true := by kernel_rfl
theorem aGp : aaR (aaT Tryz.prog ae5 100000 aDk 40) [aKy] = true := by kernel_rfl
theorem aGo : aaR (aaT Tryz.prog ae5 100000 aDk 40) [aKx] = true := by kernel_rfl
theorem aGn : aaR (aaT Tryz.prog ae5 100000 aDk 40) [aKw] = true := by kernel_rfl
theorem aGm : aaR (aaT Tryz.prog ae5 100000 aDk 40) [aKv] = true := by kernel_rfl
theorem aGl : aaR (aaT Tryz.prog ae5 100000 aDk 40) [aKu] = true := by kernel_rfl
theorem aGk : aaR (aaT Tryz.prog ae5 100000 aDk 40) [aKt] = true := by kernel_rfl
theorem aGj : aaR (aaT Tryz.prog ae5 100000 aDk 40) [aKs] = true := by kernel_rfl
theorem aGi : aaR (aaT Tryz.prog ae5 100000 aDk 40) [aKr] = true := by kernel_rfl
theorem aGh : aaR (aaT Tryz.prog ae5 100000 aDk 40) [aKq] = true := by kernel_rfl
def aK5 : abC := alH (apS aN5) aDk
theorem aLW : aeD Tryz.prog (Gt Tryz.prog) aK5 := am8 avM avG akU aLX 100000 40 (aaC aJh (aaC aJg (aaC aGq (aaC aGp (aaC aGo (aaC aGn (aaC aGm (aaC aGl (aaC aGk (aaC aGj (aaC aGi (aaC aGh (rfl)))))))))))))
open Go Go.Proofs
set_option maxRecDepth 1000000
set_option maxHeartbeats 0
def aOG : Row := ⟨7, qZl, qZa, ([((((.ofNat 2), ([((.ofNat 2), ([], ([[(.ofNat 500000), (.ofNat 500000)], [(.ofNat 1000000), (.negSucc 999999)]], ([(.ofNat 0), (.ofNat 250000)], (([], ((.ofNat 0), ([], ()))), ([], ((.ofNat 0), ((.ofNat 0), ())))))))), ((.ofNat 1), ([((.ofNat 1), ([], ([], ()))), ((.ofNat 2), ([(.ofNat 65535), (.ofNat 0)], ([], ())))], ([], ([], (([], ((.ofNat 0), ([], ()))), ([], ((.ofNat 0), ((.ofNat 0), ()))))))))], ())), ()), ((.ofNat 2), ((.ofNat 0), ())))] : List (((Int × (List (Int × (List (Int × (List Int × (List (Int × (Int × (Int × (Int × (Int × (Int × Unit)))))) × Unit))) × (List (List Int) × (List Int × ((List Int × (Int × (List Int × Unit))) × (List (Int × (Int × Unit)) × (Int × (Int × Unit)))))))) × Unit)) × Unit) × (Int × (Int × Unit))))⟩
def aMP : Row := ⟨17, qZa, qZq, ([(((.ofNat 1), ((.ofNat 2), ())), (([49], ([50], ())), ()))] : List ((Int × (Int × Unit)) × ((List UInt8 × (List UInt8 × Unit)) × Unit)))⟩
def aMO : Row := ⟨73, qZq, (.pair qZ05 qZ2), ([((([49], ([50], ())), ()), ((([(.ofNat 1)], (false, ())), ([(.ofNat 2)], ())), (true, ()))),
 ((([49], ([52], ())), ()), ((([(.ofNat 1)], (false, ())), ([(.ofNat 4)], ())), (true, ()))),
 ((([49], ([49], ())), ()), ((([(.ofNat 1)], (false, ())), ([(.ofNat 1)], ())), (true, ()))),
 ((([48], ([49], ())), ()), ((([], (false, ())), ([(.ofNat 1)], ())), (true, ()))),
 ((([45,49], ([49], ())), ()), ((([(.ofNat 1)], (true, ())), ([(.ofNat 1)], ())), (true, ()))),
 ((([51], ([52], ())), ()), ((([(.ofNat 3)], (false, ())), ([(.ofNat 4)], ())), (true, ()))),
 ((([51], ([56], ())), ()), ((([(.ofNat 3)], (false, ())), ([(.ofNat 8)], ())), (true, ()))),
 ((([45,54,53,53,51,53], ([49], ())), ()), ((([(.ofNat 65535)], (true, ())), ([(.ofNat 1)], ())), (true, ()))),
 ((([54,53,53,51,53], ([49], ())), ()), ((([(.ofNat 65535)], (false, ())), ([(.ofNat 1)], ())), (true, ()))),
 ((([51], ([50], ())), ()), ((([(.ofNat 3)], (false, ())), ([(.ofNat 2)], ())), (true, ())))] : List (((List UInt8 × (List UInt8 × Unit)) × Unit) × (((List Int × (Bool × Unit)) × (List Int × Unit)) × (Bool × Unit))))⟩
def aKp : Row := ⟨127, qZ8, qZx, ([(((.ofNat 0), ()), (([48], ([49], ())), ((.ofNat 0), ()))),
 (((.ofNat 500000), ()), (([49], ([50], ())), ((.ofNat 0), ()))),
 (((.ofNat 250000), ()), (([49], ([52], ())), ((.ofNat 0), ()))),
 (((.ofNat 1000000), ()), (([49], ([49], ())), ((.ofNat 0), ()))),
 (((.negSucc 999999), ()), (([45,49], ([49], ())), ((.ofNat 0), ())))] : List ((Int × Unit) × ((List UInt8 × (List UInt8 × Unit)) × (Int × Unit))))⟩
def aKo : Row := ⟨184, qZa, qZx, ([(((.ofNat 0), ((.ofNat 1000000000000), ())), (([48], ([49], ())), ((.ofNat 0), ()))),
 (((.ofNat 250000000000), ((.ofNat 1000000000000), ())), (([49], ([52], ())), ((.ofNat 0), ())))] : List ((Int × (Int × Unit)) × ((List UInt8 × (List UInt8 × Unit)) × (Int × Unit))))⟩
def aKn : Row := ⟨245, qZ8, qZq, ([(((.ofNat 0), ()), (([48], ([49], ())), ())),
 (((.ofNat 1), ()), (([49], ([49], ())), ())),
 (((.negSucc 65534), ()), (([45,54,53,53,51,53], ([49], ())), ())),
 (((.ofNat 65535), ()), (([54,53,53,51,53], ([49], ())), ()))] : List ((Int × Unit) × ((List UInt8 × (List UInt8 × Unit)) × Unit)))⟩
def aN4 : List Row := [aOG, aMP, aMO, aKp, aKo, aKn]
theorem aLH : aaR (aaT Tryz.prog ae5 100000 aK5 40) [aOG] = true := by kernel_rfl
theorem aJf : aaR (aaT Tryz.prog ae5 100000 aK5 40) [aMP] = true := by kernel_rfl
theorem aJe : aaR (aaT Tryz.prog ae5 100000 aK5 40) [aMO] = true := by kernel_rfl
theorem aGg : aaR (aaT Tryz.prog ae5 100000 aK5 40) [aKp] = true := by kernel_rfl
theorem aGf : aaR (aaT Tryz.prog ae5 100000 aK5 40) [aKo] = true := by kernel_rfl
theorem aGe : aaR (aaT Tryz.prog ae5 100000 aK5 40) [aKn] = true := by kernel_rfl
def aMm : abC := alH (apS aN4) aK5
theorem aLV : aeD Tryz.prog (Gt Tryz.prog) aMm := am8 avM avG akU aLW 100000 40 (aaC aLH (aaC aJf (aaC aJe (aaC aGg (aaC aGf (aaC aGe (rfl)))))))
open Go Go.Proofs
set_option maxRecDepth 1000000
set_option maxHeartbeats 0
def aMN : Row := ⟨37, qZw, qZa, ([((([49], ([50], ())), (([49], ([49], ())), ())), ((.negSucc 0), ((.ofNat 0), ())))] : List (((List UInt8 × (List UInt8 × Unit)) × ((List UInt8 × (List UInt8 × Unit)) × Unit)) × (Int × (Int × Unit))))⟩
def aMM : Row := ⟨82, qZ09, qZp, ([(((((.ofNat 2), ([], ([[(.ofNat 500000), (.ofNat 500000)], [(.ofNat 1000000), (.negSucc 999999)]], ([(.ofNat 0), (.ofNat 250000)], (([], ((.ofNat 0), ([], ()))), ([], ((.ofNat 0), ((.ofNat 0), ())))))))), ()), ([([49], ([50], ())), ([49], ([52], ()))], ())), ([([51], ([56], ())), ([49], ([50], ()))], ((.ofNat 0), ())))] : List ((((Int × (List (Int × (List Int × (List (Int × (Int × (Int × (Int × (Int × (Int × Unit)))))) × Unit))) × (List (List Int) × (List Int × ((List Int × (Int × (List Int × Unit))) × (List (Int × (Int × Unit)) × (Int × (Int × Unit)))))))) × Unit) × (List (List UInt8 × (List UInt8 × Unit)) × Unit)) × (List (List UInt8 × (List UInt8 × Unit)) × (Int × Unit))))⟩
def aKm : Row := ⟨140, qZ8, qZ0h, ([(((.ofNat 500000), ()), (((.ofNat 500000000000), ((.ofNat 500000000000), ())), ((.ofNat 0), ())))] : List ((Int × Unit) × ((Int × (Int × Unit)) × (Int × Unit))))⟩
def aKl : Row := ⟨206, qZq, qZ0h, ([((([49], ([49], ())), ()), (((.ofNat 1000000000000), ((.ofNat 1000000000000), ())), ((.ofNat 0), ())))] : List (((List UInt8 × (List UInt8 × Unit)) × Unit) × ((Int × (Int × Unit)) × (Int × Unit))))⟩
def aN3 : List Row := [aMN, aMM, aKm, aKl]
theorem aJd : aaR (aaT Tryz.prog ae5 100000 aMm 40) [aMN] = true := by kernel_rfl
theorem aJc : aaR (aaT Tryz.prog ae5 100000 aMm 40) [aMM] = true := by kernel_rfl
theorem aGd : aaR (aaT Tryz.prog ae5 100000 aMm 40) [aKm] = true := by kernel_rfl
theorem aGc : aaR (aaT Tryz.prog ae5 100000 aMm 40) [aKl] = true := by kernel_rfl
def aNe : abC := alH (apS aN3) aMm
theorem aLU : aeD Tryz.prog (Gt Tryz.prog) aNe := am8 avM avG akU aLV 100000 40 (aaC aJd (aaC aJc (aaC aGd (aaC aGc (rfl)))))
open Go Go.Proofs
set_option maxRecDepth 1000000
set_option maxHeartbeats 0
def aML : Row := ⟨15, (.pair qZj qZo), qZp, ([((((.ofNat 2), ([((.ofNat 2), ([], ([[(.ofNat 500000), (.ofNat 500000)], [(.ofNat 1000000), (.negSucc 999999)]], ([(.ofNat 0), (.ofNat 250000)], (([], ((.ofNat 0), ([], ()))), ([], ((.ofNat 0), ((.ofNat 0), ())))))))), ((.ofNat 1), ([((.ofNat 1), ([], ([], ()))), ((.ofNat 2), ([(.ofNat 65535), (.ofNat 0)], ([], ())))], ([], ([], (([], ((.ofNat 0), ([], ()))), ([], ((.ofNat 0), ((.ofNat 0), ()))))))))], ())), ([([49], ([50], ())), ([49], ([52], ()))], ())), ([([51], ([56], ())), ([49], ([50], ()))], ((.ofNat 0), ())))] : List (((Int × (List (Int × (List (Int × (List Int × (List (Int × (Int × (Int × (Int × (Int × (Int × Unit)))))) × Unit))) × (List (List Int) × (List Int × ((List Int × (Int × (List Int × Unit))) × (List (Int × (Int × Unit)) × (Int × (Int × Unit)))))))) × Unit)) × (List (List UInt8 × (List UInt8 × Unit)) × Unit)) × (List (List UInt8 × (List UInt8 × Unit)) × (Int × Unit))))⟩
def aMK : Row := ⟨93, qZ0d, qZs, ([(((((.ofNat 2), ([], ([[(.ofNat 500000), (.ofNat 500000)], [(.ofNat 1000000), (.negSucc 999999)]], ([(.ofNat 0), (.ofNat 250000)], (([], ((.ofNat 0), ([], ()))), ([], ((.ofNat 0), ((.ofNat 0), ())))))))), ()), ([((.ofNat 0), ((.ofNat 1000000000000), ())), ((.ofNat 1000000000000), ((.ofNat 1000000000000), ()))], ())), ([((.ofNat 500000000000), ((.ofNat 1000000000000), ())), ((.negSucc 749999999999), ((.ofNat 250000000000), ()))], ((.ofNat 0), ())))] : List ((((Int × (List (Int × (List Int × (List (Int × (Int × (Int × (Int × (Int × (Int × Unit)))))) × Unit))) × (List (List Int) × (List Int × ((List Int × (Int × (List Int × Unit))) × (List (Int × (Int × Unit)) × (Int × (Int × Unit)))))))) × Unit) × (List (Int × (Int × Unit)) × Unit)) × (List (Int × (Int × Unit)) × (Int × Unit))))⟩
def aKk : Row := ⟨200, qZ0p, qZ0h, ([(((((.ofNat 2), ([(.ofNat 65535), (.ofNat 0)], ([], ()))), ()), (((.ofNat 0), ((.ofNat 250000000000), ())), ())), (((.ofNat 750000000000), ((.ofNat 1000000000000), ())), ((.ofNat 0), ())))] : List ((((Int × (List Int × (List (Int × (Int × (Int × (Int × (Int × (Int × Unit)))))) × Unit))) × Unit) × ((Int × (Int × Unit)) × Unit)) × ((Int × (Int × Unit)) × (Int × Unit))))⟩
def aN2 : List Row := [aML, aMK, aKk]
theorem aJb : aaR (aaT Tryz.prog ae5 100000 aNe 40) [aML] = true := by kernel_rfl
theorem aJa : aaR (aaT Tryz.prog ae5 100000 aNe 40) [aMK] = true := by kernel_rfl
theorem aGb : aaR (aaT Tryz.prog ae5 100000 aNe 40) [aKk] = true := by kernel_rfl
def aOo : abC := alH (apS aN2) aNe
theorem aLT : aeD Tryz.prog (Gt Tryz.prog) aOo := am8 avM avG akU aLU 100000 40 (aaC aJb (aaC aJa (aaC aGb (rfl))))
open Go Go.Proofs
set_option maxRecDepth 1000000
set_option maxHeartbeats 0
theorem aLs : aaR (aaT Tryz.prog ae5 100000 aOo 40) [⟨4, .unit, .pair .bool .unit, ([((), (true, ()))] : List (Unit × Bool × Unit))⟩] = true := by kernel_rfl
theorem top_at : At Tryz.prog (Gt Tryz.prog) 4 .unit qZ2 () (true, ()) := by
 have h := aLs
 rw [(aA9 (P := Tryz.prog) (sig := ae5) 100000 aOo 40).1] at h
 exact (aBa avM avG aLT akU 100000 40).1 _ _ _ _ _ (aBA (an9 h _ zy) () (true, ()) zy)
end Go.Vg
