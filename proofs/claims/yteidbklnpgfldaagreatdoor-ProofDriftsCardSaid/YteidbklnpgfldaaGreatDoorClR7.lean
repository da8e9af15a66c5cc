/-
  A runner over the evaluator, and calls that have been run. Own work; no condition.
-/
import Derived.Test.YteidbklnpgfldaaGreatDoorClR6
import Derived.Test.YteidbklnpgfldaaGreatDoorProg
import Derived.KernelRfl
set_option linter.unusedVariables false
set_option linter.unusedSimpArgs false
namespace Go.Vg
open Go
abbrev qZ0 : Ty := .int .u8
abbrev qZ1 : Ty := .int .i16
abbrev qZ2 : Ty := .pair qZ0 .unit
abbrev qZ3 : Ty := .pair .bool .unit
abbrev qZ4 : Ty := .int .i64
abbrev qZ5 : Ty := .sl qZ4
abbrev qZ6 : Ty := .pair qZ4 .unit
abbrev qZ7 : Ty := .pair .str .unit
abbrev qZ8 : Ty := .pair .str qZ7
abbrev qZ9 : Ty := .pair qZ8 qZ6
abbrev qZa : Ty := .pair qZ8 .unit
abbrev qZb : Ty := .pair qZ8 qZa
abbrev qZc : Ty := .pair (.pair qZ4 (.pair qZ8 (.pair qZ8 qZb))) .unit
abbrev qZd : Ty := .pair qZ4 qZ6
abbrev qZe : Ty := .pair qZd qZ6
abbrev qZf : Ty := .pair qZ5 qZ6
abbrev qZg : Ty := .pair qZ5 .unit
abbrev qZh : Ty := .pair qZ5 qZg
abbrev qZi : Ty := .pair qZd qZd
abbrev qZj : Ty := .pair .bool (.pair .bool qZ6)
abbrev qZk : Ty := .pair qZd .unit
abbrev qZl : Ty := .pair qZd qZk
abbrev qZm : Ty := .pair qZ4 qZ3
abbrev qZn : Ty := .pair (.pair .bool qZg) .unit
abbrev qZo : Ty := .pair (.pair .bool qZg) qZn
abbrev qZp : Ty := .pair .str qZ6
abbrev qZq : Ty := .sl (.int .u32)
abbrev qZr : Ty := .pair qZq qZ3
abbrev qZs : Ty := .pair qZr .unit
abbrev qZt : Ty := .pair qZq .unit
abbrev qZu : Ty := .pair qZr qZt
abbrev qZv : Ty := .pair qZu .unit
abbrev qZw : Ty := .pair (.int .u64) .unit
abbrev qZx : Ty := .pair (.int .u64) qZw
abbrev qZy : Ty := .pair qZu qZv
abbrev qZz : Ty := .pair .str qZ3
abbrev qZ00 : Ty := .pair qZq qZt
abbrev qZ01 : Ty := .pair qZd qZl
abbrev qZ02 : Ty := .pair (.sl qZd) .unit
abbrev qZ03 : Ty := .pair (.pair qZl qZ01) .unit
abbrev qZ04 : Ty := .pair qZr qZs
abbrev qZ05 : Ty := .pair qZ8 (.pair qZ8 qZ3)
abbrev qZ06 : Ty := .pair (.int .u32) .unit
abbrev qZ07 : Ty := .pair qZq qZ06
abbrev qZ08 : Ty := .pair (.int .u32) qZ06
abbrev qZ09 : Ty := .pair .str (.pair .bool qZ6)
abbrev qZ0a : Ty := .pair qZq qZ6
abbrev qZ0b : Ty := .pair .str qZ2
abbrev qZ0c : Ty := .pair (.int .i32) qZ6
abbrev qZ0d : Ty := .pair .str (.pair (.int .i32) .unit)
def acL : Sig := [
 (2, (.unit, .unit)),
 (3, ((.pair (.pair (.pair qZ0 (.pair (.sl (.arr 7 qZ1)) .unit)) (.pair qZ0 (.pair (.sl (.arr 3 (.int .i8))) (.pair qZ0 qZ2)))) (.pair (.pair qZ0 (.pair (.sl (.arr 7 qZ1)) .unit)) .unit)), qZ3)),
 (4, (.unit, qZ3)),
 (5, ((.pair (.pair (.pair qZ0 (.pair (.sl (.arr 7 qZ1)) .unit)) (.pair qZ0 (.pair (.sl (.arr 3 (.int .i8))) (.pair qZ0 qZ2)))) .unit), (.pair (.sl (.pair .str (.pair qZ5 (.pair (.arr 3 qZ4) .unit)))) (.pair (.sl (.pair .str (.pair qZ5 (.pair (.arr 3 qZ4) .unit)))) .unit)))),
 (6, ((.pair (.sl (.pair .str (.pair qZ5 (.pair (.arr 3 qZ4) .unit)))) .unit), (.pair (.sl (.pair .str (.pair qZ5 (.pair (.arr 3 qZ4) .unit)))) .unit))),
 (7, ((.pair (.pair qZ0 (.pair (.sl (.arr 7 qZ1)) .unit)) .unit), (.pair (.sl (.pair .str (.pair qZ5 (.pair (.arr 3 qZ4) .unit)))) .unit))),
 (8, ((.pair (.sl (.pair .str (.pair qZ5 (.pair (.arr 3 qZ4) .unit)))) (.pair (.sl (.pair .str (.pair qZ5 (.pair (.arr 3 qZ4) .unit)))) .unit)), (.pair (.sl (.arr 2 qZ4)) qZ6))),
 (9, ((.pair (.sl (.pair .str (.pair qZ5 (.pair (.arr 3 qZ4) .unit)))) (.pair (.sl (.pair .str (.pair qZ5 (.pair (.arr 3 qZ4) .unit)))) .unit)), (.pair (.sl (.arr 2 qZ4)) qZ6))),
 (10, ((.pair (.sl (.pair .str (.pair qZ5 (.pair (.arr 3 qZ4) .unit)))) (.pair (.sl (.pair .str (.pair qZ5 (.pair (.arr 3 qZ4) .unit)))) .unit)), (.pair (.pair qZ4 (.pair (.arr 3 qZ8) (.pair qZ8 qZ9))) qZ6))),
 (11, ((.pair (.sl (.pair .str (.pair qZ5 (.pair (.arr 3 qZ4) .unit)))) (.pair (.sl (.pair .str (.pair qZ5 (.pair (.arr 3 qZ4) .unit)))) .unit)), (.pair (.pair qZ4 (.pair (.arr 3 qZ8) (.pair qZ8 qZ9))) qZ6))),
 (12, ((.pair (.sl (.arr 2 qZ4)) (.pair (.sl (.arr 2 qZ4)) .unit)), qZ3)),
 (14, (.unit, (.pair (.sl (.pair .str (.pair qZ5 (.pair (.arr 3 qZ4) .unit)))) .unit))),
 (15, ((.pair (.sl (.pair .str (.pair qZ5 (.pair (.arr 3 qZ4) .unit)))) (.pair (.sl (.pair .str (.pair qZ5 (.pair (.arr 3 qZ4) .unit)))) qZc)), (.pair (.pair qZ4 (.pair qZ4 (.pair qZ4 qZe))) qZ6))),
 (16, (qZb, qZc)),
 (17, (qZd, qZa)),
 (18, ((.pair (.pair (.sl (.arr 3 qZ4)) (.pair (.sl (.arr 3 qZ4)) .unit)) (.pair (.sl (.arr 3 qZ4)) .unit)), qZf)),
 (19, (.unit, (.pair (.pair (.sl (.arr 3 qZ4)) (.pair (.sl (.arr 3 qZ4)) .unit)) .unit))),
 (20, (qZh, qZ3)),
 (21, (qZg, qZg)),
 (22, ((.pair (.pair qZ0 (.pair (.sl (.arr 7 qZ1)) .unit)) qZd), (.pair (.pair .str (.pair qZ5 (.pair (.arr 3 qZ4) .unit))) .unit))),
 (23, ((.pair (.sl (.pair .str (.pair qZ5 (.pair (.arr 3 qZ4) .unit)))) (.pair (.sl (.pair .str (.pair qZ5 (.pair (.arr 3 qZ4) .unit)))) .unit)), qZ3)),
 (25, ((.pair (.sl (.pair .str (.pair qZ5 (.pair (.arr 3 qZ4) .unit)))) .unit), qZ3)),
 (26, (qZg, qZd)),
 (29, (qZd, qZ9)),
 (31, (qZ6, qZ6)),
 (32, (qZd, qZa)),
 (33, (qZc, qZ6)),
 (35, (qZi, qZe)),
 (36, ((.pair qZd qZa), qZj)),
 (37, (qZd, qZ9)),
 (38, ((.pair (.pair (.sl (.arr 3 qZ4)) (.pair (.sl (.arr 3 qZ4)) .unit)) .unit), qZ6)),
 (39, ((.pair (.pair (.sl (.arr 3 qZ4)) (.pair (.sl (.arr 3 qZ4)) .unit)) (.pair (.arr 3 qZ4) .unit)), qZd)),
 (40, (qZ6, qZ7)),
 (41, ((.pair (.sl (.pair .str (.pair qZ5 (.pair (.arr 3 qZ4) .unit)))) .unit), qZ6)),
 (43, ((.pair (.pair .str (.pair qZ5 (.pair (.arr 3 qZ4) .unit))) qZ6), qZ3)),
 (44, (qZ8, qZ9)),
 (45, (qZ6, qZ7)),
 (46, (qZa, qZd)),
 (47, ((.pair (.pair .str (.pair qZ5 (.pair (.arr 3 qZ4) .unit))) .unit), (.pair (.arr 3 qZ8) qZ6))),
 (48, ((.pair qZ4 (.pair (.arr 3 qZ8) (.pair (.arr 3 qZ8) qZb))), qZe)),
 (49, (qZl, qZe)),
 (54, ((.pair qZ4 (.pair qZ4 qZm)), qZm)),
 (55, (qZk, qZ9)),
 (56, (qZk, qZ9)),
 (57, (qZb, qZd)),
 (58, ((.pair qZo .unit), qZ9)),
 (59, (qZd, (.pair qZo .unit))),
 (60, ((.pair (.pair (.sl (.arr 3 qZ4)) (.pair (.sl (.arr 3 qZ4)) .unit)) .unit), qZd)),
 (63, (qZ6, .unit)),
 (64, ((.pair (.arr 3 qZ4) .unit), qZ3)),
 (65, ((.pair (.pair (.sl (.arr 3 qZ4)) (.pair (.sl (.arr 3 qZ4)) .unit)) (.pair (.arr 3 qZ4) .unit)), qZ3)),
 (66, ((.pair (.pair (.sl (.arr 3 qZ4)) (.pair (.sl (.arr 3 qZ4)) .unit)) (.pair (.arr 3 qZ4) .unit)), qZ6)),
 (67, (qZn, qZp)),
 (68, (qZ6, qZn)),
 (69, ((.pair (.pair .str (.pair qZ5 (.pair (.arr 3 qZ4) .unit))) .unit), qZ3)),
 (70, (qZ7, qZ3)),
 (71, (qZ7, qZ6)),
 (72, (qZ7, qZs)),
 (73, (qZt, qZ3)),
 (74, (qZu, qZv)),
 (75, (qZr, qZs)),
 (76, (qZv, qZ9)),
 (77, (qZ6, qZ7)),
 (78, (qZa, (.pair qZu qZ3))),
 (79, (qZs, qZ6)),
 (82, (qZ6, .unit)),
 (83, ((.pair qZ4 (.pair (.arr 3 qZ8) (.pair (.arr 3 qZ8) qZb))), qZ6)),
 (84, ((.pair qZ4 (.pair (.arr 3 qZ8) (.pair (.arr 3 qZ8) qZb))), qZk)),
 (86, (qZd, qZe)),
 (87, (qZd, qZ3)),
 (88, (qZg, qZ6)),
 (89, (qZg, qZ6)),
 (90, (qZx, qZx)),
 (91, (qZ6, qZw)),
 (92, ((.pair (.int .u64) qZx), qZx)),
 (95, (qZ6, qZ9)),
 (98, (qZy, qZ6)),
 (99, (qZo, (.pair qZo .unit))),
 (109, ((.pair (.arr 3 (.arr 3 qZ4)) .unit), qZ3)),
 (110, ((.pair (.pair (.sl (.arr 3 qZ4)) (.pair (.sl (.arr 3 qZ4)) .unit)) (.pair (.arr 3 qZ4) (.pair (.arr 3 qZ4) .unit))), qZm)),
 (111, (qZn, qZ7)),
 (112, ((.pair .bool qZg), qZn)),
 (113, (qZ7, qZ3)),
 (114, (qZ6, qZd)),
 (115, (qZ7, (.pair qZr qZ3))),
 (116, (qZ8, qZz)),
 (117, (qZ7, qZt)),
 (118, (qZ00, qZt)),
 (119, (qZ00, qZ00)),
 (120, (qZt, qZ6)),
 (121, (qZs, qZ7)),
 (122, (qZt, qZ7)),
 (123, (qZ6, qZ7)),
 (124, (qZ00, qZ6)),
 (126, (qZa, qZ6)),
 (127, ((.pair (.arr 3 qZ8) (.pair (.arr 3 qZ8) .unit)), (.pair (.pair qZl (.pair (.arr 3 qZ8) (.pair (.arr 3 qZ8) qZ01))) .unit))),
 (128, (qZe, qZk)),
 (129, (qZ02, qZe)),
 (130, ((.pair (.pair qZl (.pair (.arr 3 qZ8) (.pair (.arr 3 qZ8) qZ01))) .unit), qZ03)),
 (131, ((.pair (.pair qZl (.pair (.arr 3 qZ8) (.pair (.arr 3 qZ8) qZ01))) .unit), qZ03)),
 (132, ((.pair (.pair qZl (.pair (.arr 3 qZ8) (.pair (.arr 3 qZ8) qZ01))) .unit), qZ03)),
 (133, (qZl, qZk)),
 (134, (qZl, qZk)),
 (135, (qZk, qZk)),
 (136, (qZl, qZe)),
 (137, (qZl, qZk)),
 (138, (qZl, qZk)),
 (139, (qZa, qZk)),
 (140, (qZe, qZe)),
 (141, ((.pair qZd qZ02), qZk)),
 (142, (qZg, qZ6)),
 (143, (qZg, qZ6)),
 (144, (qZw, qZ6)),
 (145, (qZu, qZs)),
 (146, (qZ04, qZs)),
 (147, (qZs, qZs)),
 (148, (qZn, qZn)),
 (149, (qZo, qZn)),
 (150, (qZo, qZo)),
 (151, ((.pair (.arr 3 qZ4) (.pair (.arr 3 qZ4) .unit)), (.pair (.arr 3 qZ4) .unit))),
 (152, ((.pair (.arr 3 qZ4) (.pair (.arr 3 qZ4) .unit)), (.pair (.arr 3 qZ4) .unit))),
 (154, ((.pair (.arr 2 qZ4) .unit), (.pair (.arr 2 qZ4) .unit))),
 (155, ((.pair (.sl .bool) qZ3), qZ6)),
 (157, ((.pair (.arr 3 qZ4) (.pair (.arr 3 qZ4) .unit)), (.pair (.arr 3 qZ4) .unit))),
 (158, ((.pair (.arr 3 (.arr 3 qZ4)) .unit), qZ6)),
 (159, ((.pair (.arr 3 (.arr 3 qZ4)) (.pair qZ05 (.pair (.arr 3 qZ4) .unit))), (.pair qZ05 qZ3))),
 (160, (qZ3, (.pair qZ05 .unit))),
 (161, (qZ6, qZ6)),
 (162, ((.pair (.arr 3 (.arr 3 qZ4)) (.pair (.arr 3 qZ4) .unit)), (.pair (.arr 3 qZ4) .unit))),
 (163, (qZ6, qZ7)),
 (164, (qZg, qZg)),
 (165, (qZ7, qZt)),
 (166, (qZ8, qZz)),
 (167, (qZt, qZt)),
 (168, (qZt, qZw)),
 (169, (qZw, qZt)),
 (170, (qZ07, qZ07)),
 (171, (qZ00, qZt)),
 (177, (qZd, qZ7)),
 (178, (qZd, qZ6)),
 (179, (qZ08, qZ6)),
 (181, (qZ9, qZa)),
 (182, (qZb, qZ9)),
 (183, ((.pair (.arr 3 qZ8) .unit), qZk)),
 (184, (qZk, qZ6)),
 (186, (qZp, qZp)),
 (188, (qZz, qZd)),
 (189, (qZp, qZ09)),
 (190, (qZz, qZd)),
 (191, (qZ7, qZk)),
 (192, ((.pair .str qZk), qZk)),
 (193, (qZd, qZ6)),
 (194, (qZb, qZ9)),
 (195, (qZ7, qZ9)),
 (196, (qZb, qZ9)),
 (197, (qZb, qZ9)),
 (198, (qZi, qZk)),
 (199, (qZi, qZk)),
 (200, (qZl, qZk)),
 (201, ((.pair (.arr 3 qZ8) .unit), qZl)),
 (202, (qZl, qZk)),
 (203, (qZl, qZe)),
 (204, (qZk, qZe)),
 (205, ((.pair qZ4 qZl), qZe)),
 (206, (qZl, qZe)),
 (207, (qZl, qZe)),
 (208, (qZa, qZe)),
 (209, (qZi, qZe)),
 (210, (qZw, qZ6)),
 (211, (qZ00, qZt)),
 (212, (qZ00, qZt)),
 (213, (qZh, qZh)),
 (214, (qZo, qZn)),
 (215, (qZo, qZn)),
 (217, ((.pair (.arr 3 qZ4) (.pair (.arr 3 qZ4) (.pair (.arr 3 qZ4) .unit))), qZ6)),
 (219, ((.pair qZ05 qZd), (.pair qZ05 qZ3))),
 (220, (qZ9, qZa)),
 (221, (qZt, qZt)),
 (222, (qZ8, qZ3)),
 (224, (qZ6, qZ7)),
 (225, (qZw, qZ6)),
 (226, ((.pair (.sl qZ0) qZw), .unit)),
 (227, ((.pair (.sl qZ0) (.pair (.int .u64) (.pair qZ4 (.pair .bool qZ3)))), (.pair (.sl qZ0) qZ7))),
 (228, (qZ6, qZ3)),
 (229, (qZ06, qZ3)),
 (230, ((.pair qZu qZ6), qZ9)),
 (232, (qZy, qZv)),
 (234, (qZk, qZe)),
 (235, (qZp, qZp)),
 (236, (qZ8, qZp)),
 (237, (qZd, qZe)),
 (238, (qZp, qZp)),
 (239, (qZ7, qZd)),
 (240, (qZy, qZv)),
 (241, (qZ8, (.pair .str qZz))),
 (242, (qZ7, qZ3)),
 (243, (qZ8, qZ7)),
 (244, (qZp, qZ7)),
 (245, (qZy, qZv)),
 (246, (qZv, qZv)),
 (247, (qZi, qZe)),
 (248, (qZl, qZe)),
 (249, ((.pair (.arr 3 qZd) .unit), (.pair qZd (.pair (.arr 2 qZd) qZ6)))),
 (253, ((.pair qZ4 qZm), qZm)),
 (255, ((.pair qZ4 qZm), qZm)),
 (256, (qZ9, qZd)),
 (257, (qZk, qZ3)),
 (259, ((.pair qZk qZm), qZd)),
 (260, (qZf, qZf)),
 (261, (qZh, qZ6)),
 (262, (qZh, qZg)),
 (263, (qZh, qZg)),
 (264, (qZh, qZg)),
 (265, ((.pair (.arr 3 qZ4) (.pair (.arr 3 qZ4) .unit)), (.pair (.arr 3 qZ4) .unit))),
 (266, ((.pair (.arr 3 (.arr 3 qZ4)) .unit), (.pair (.arr 3 qZ4) .unit))),
 (268, (qZd, qZ6)),
 (270, (qZ6, qZ6)),
 (271, (qZ3, qZ6)),
 (272, (qZ6, qZ3)),
 (273, (qZw, qZ6)),
 (274, (qZv, qZv)),
 (276, (qZs, qZp)),
 (277, (qZr, qZs)),
 (278, (qZ0a, qZt)),
 (279, ((.pair qZ4 qZ8), qZp)),
 (280, (qZ0a, qZt)),
 (282, (qZ8, (.pair .str qZz))),
 (283, (qZ0b, qZ7)),
 (284, (qZ0b, qZ7)),
 (285, (qZ7, (.pair (.arr 256 .bool) qZ3))),
 (288, (qZ8, qZ7)),
 (289, (qZ8, qZ7)),
 (290, (qZx, qZx)),
 (291, (qZ8, qZ3)),
 (295, ((.pair (.arr 3 qZd) .unit), qZ6)),
 (298, (qZ6, qZk)),
 (299, (qZe, qZk)),
 (301, ((.pair qZu qZt), qZs)),
 (302, (qZ8, qZp)),
 (303, (qZ6, qZ7)),
 (304, (qZ8, (.pair .str qZp))),
 (305, (qZ06, qZ6)),
 (306, (qZw, qZ6)),
 (307, (qZt, qZ6)),
 (308, (qZt, qZ7)),
 (309, (qZt, qZ3)),
 (310, (qZ00, qZt)),
 (311, (qZ8, (.pair qZr (.pair qZr qZ6)))),
 (312, (qZ04, qZs)),
 (313, (qZ04, qZs)),
 (314, (qZ04, qZs)),
 (315, (qZ04, qZs)),
 (316, (qZ6, qZt)),
 (317, (qZ00, qZ00)),
 (318, (qZw, qZt)),
 (319, (qZ00, qZt)),
 (320, (qZ07, qZ07)),
 (321, (qZ00, qZ6)),
 (324, (qZ8, qZ6)),
 (326, (qZ7, qZ0c)),
 (327, (qZ0d, qZ3)),
 (328, (qZ7, qZ0c)),
 (329, (qZ08, qZ08)),
 (332, (qZ6, qZe)),
 (333, (qZu, qZs)),
 (334, (qZ00, qZt)),
 (336, (qZs, qZs)),
 (337, (qZ00, qZt)),
 (344, (qZ0b, qZ6)),
 (346, (qZ6, qZ6)),
 (347, (qZ8, qZ6)),
 (348, (qZ7, qZ0c)),
 (349, (qZ0d, qZ6)),
 (350, (qZ2, qZ3)),
 (352, (qZt, qZw)),
 (353, (qZ2, qZ2)),
 (354, (qZ7, qZ3)),
 (355, (qZ7, qZ7)),
 (358, (qZ7, qZ08)),
 (359, (qZ0b, qZ6)),
 (360, ((.pair (.int .i32) .unit), qZ3)),
 (390, (.unit, .unit))]
open Go Go.Proofs
set_option maxRecDepth 1000000
theorem amR : acS (Gt Tryz.prog) := aLI (by kernel_rfl)
theorem amO : Tryz.prog.follows .mixedOrders = true := by kernel_rfl
def axZ (P : Program) : Sig → Bool
 | [] => true
 | x :: r => match acM P x.1 with
  | true => axZ P r
  | false => false
theorem apE {P : Program} : ∀ {s : Sig}, axZ P s = true → ∀ x ∈ s, acM P x.1 = true
 | [], _, _, h => by cases h
 | q :: r, hc, x, h => by
  simp only [axZ] at hc
  split at hc
  ·rename_i hq
   rcases zq.1 h with e | h
   ·rw [e]; exact hq
   ·exact apE hc x h
  ·cases hc
theorem afA : ∀ x ∈ acL, acM Tryz.prog x.1 = true := apE (by kernel_rfl)
def akT : aa4 := aIN 77 244
theorem aOD : adP Tryz.prog (Gt Tryz.prog) akT :=
 aQl 77 244 (by kernel_rfl) (by kernel_rfl) (fun n h0 h1 w h => Tryz.strconv_Itoa n h0 h1 w h) (fun s c w h1 h2 => Tryz.strings_Repeat s c w h1 h2)
open Go Go.Proofs
set_option maxRecDepth 1000000
set_option maxHeartbeats 0
def aPP : Row := ⟨49, qZl, qZe, ([((((.ofNat 2000000000000), ((.ofNat 2000000000000), ())), (((.ofNat 1000000000000), ((.ofNat 1000000000000), ())), ())), (((.ofNat 3000000000000), ((.ofNat 3000000000000), ())), ((.ofNat 0), ())))] : List (((Int × (Int × Unit)) × ((Int × (Int × Unit)) × Unit)) × ((Int × (Int × Unit)) × (Int × Unit))))⟩
def aPO : Row := ⟨67, qZn, qZp, ([(((false, ([(.ofNat 2)], ())), ()), ([50], ((.ofNat 0), ()))),
 (((false, ([(.ofNat 1)], ())), ()), ([49], ((.ofNat 0), ())))] : List (((Bool × (List Int × Unit)) × Unit) × (List UInt8 × (Int × Unit))))⟩
def aPN : Row := ⟨68, qZ6, qZn, ([(((.ofNat 2), ()), ((false, ([(.ofNat 2)], ())), ())),
 (((.ofNat 1), ()), ((false, ([(.ofNat 1)], ())), ()))] : List ((Int × Unit) × ((Bool × (List Int × Unit)) × Unit)))⟩
def aPM : Row := ⟨69, (.pair (.pair .str (.pair qZ5 (.pair (.arr 3 qZ4) .unit))) .unit), qZ3, ([((([99], ([(.ofNat 0)], ([(.ofNat 100), (.ofNat 100), (.ofNat 100)], ()))), ()), (true, ()))] : List (((List UInt8 × (List Int × (List Int × Unit))) × Unit) × (Bool × Unit)))⟩
def aPL : Row := ⟨90, qZx, qZx, ([(((.ofNat 3000000000000), ((.ofNat 1), ())), ((.ofNat 0), ((.ofNat 3000000000000), ())))] : List ((Int × (Int × Unit)) × (Int × (Int × Unit))))⟩
def aNb : Row := ⟨113, qZ7, qZ3, ([(([97], ()), (true, ())),
 (([98], ()), (true, ()))] : List ((List UInt8 × Unit) × (Bool × Unit)))⟩
def aNa : Row := ⟨115, qZ7, (.pair qZr qZ3), ([(([52,48,48,48,48,48,48,48,48,48,48,48,48,48,48,48,48,48,48,48,48,48,48,48,48], ()), (([(.ofNat 0), (.ofNat 0), (.ofNat 4000000)], (false, ())), (true, ()))),
 (([57,48,48,48,48,48,48,48,48,48,48,48,48,48,48,48,48,48,48,48,48,48,48,48,48], ()), (([(.ofNat 0), (.ofNat 0), (.ofNat 9000000)], (false, ())), (true, ()))),
 (([53,48,48,48,48,48,48,48,48,48,48,48,48], ()), (([(.ofNat 0), (.ofNat 5000)], (false, ())), (true, ()))),
 (([49,48,48,48,48,48,48,48,48,48,48,48,48,48,48,48,48,48,48,48,48,48,48,48,48], ()), (([(.ofNat 0), (.ofNat 0), (.ofNat 1000000)], (false, ())), (true, ())))] : List ((List UInt8 × Unit) × ((List Int × (Bool × Unit)) × (Bool × Unit))))⟩
def aM9 : Row := ⟨116, qZ8, qZz, ([(([51,48,48], ([45], ())), ([51,48,48], (false, ()))),
 (([50,48,48], ([45], ())), ([50,48,48], (false, ()))),
 (([48], ([45], ())), ([48], (false, ()))),
 (([53,48,48,48,48], ([45], ())), ([53,48,48,48,48], (false, ()))),
 (([50,48,48,48,48], ([45], ())), ([50,48,48,48,48], (false, ()))),
 (([52,48,48,48,48], ([45], ())), ([52,48,48,48,48], (false, ()))),
 (([49,48,48,48,48], ([45], ())), ([49,48,48,48,48], (false, ()))),
 (([49], ([45], ())), ([49], (false, ()))),
 (([51], ([45], ())), ([51], (false, ()))),
 (([50], ([45], ())), ([50], (false, ()))),
 (([53,48,48,48], ([45], ())), ([53,48,48,48], (false, ()))),
 (([49,48,48], ([45], ())), ([49,48,48], (false, ()))),
 (([53,50,48,48], ([45], ())), ([53,50,48,48], (false, ()))),
 (([53,48], ([45], ())), ([53,48], (false, ()))),
 (([53,50], ([45], ())), ([53,50], (false, ()))),
 (([45,50], ([45], ())), ([50], (true, ()))),
 (([45,50,48,48,48,48,48,48,48,48,48,48,48,48], ([45], ())), ([50,48,48,48,48,48,48,48,48,48,48,48,48], (true, ()))),
 (([49,48,48,48,48,48,48,48,48,48,48,48,48], ([45], ())), ([49,48,48,48,48,48,48,48,48,48,48,48,48], (false, ()))),
 (([50,48,48,48,48,48,48,48,48,48,48,48,48], ([45], ())), ([50,48,48,48,48,48,48,48,48,48,48,48,48], (false, ()))),
 (([52,48,48,48], ([45], ())), ([52,48,48,48], (false, ()))),
 (([52,48,48], ([45], ())), ([52,48,48], (false, ()))),
 (([52,49,48,48], ([45], ())), ([52,49,48,48], (false, ()))),
 (([52,48], ([45], ())), ([52,48], (false, ()))),
 (([52], ([45], ())), ([52], (false, ()))),
 (([52,49], ([45], ())), ([52,49], (false, ()))),
 (([45,49], ([45], ())), ([49], (true, ()))),
 (([45,49,48,48,48,48,48,48,48,48,48,48,48,48], ([45], ())), ([49,48,48,48,48,48,48,48,48,48,48,48,48], (true, ()))),
 (([51,48,48,48,48,48,48,48,48,48,48,48,48], ([45], ())), ([51,48,48,48,48,48,48,48,48,48,48,48,48], (false, ()))),
 (([52,48,48,48,48,48,48,48,48,48,48,48,48], ([45], ())), ([52,48,48,48,48,48,48,48,48,48,48,48,48], (false, ()))),
 (([49,53,48,48,48,48,48,48,48,48,48,48,48], ([45], ())), ([49,53,48,48,48,48,48,48,48,48,48,48,48], (false, ())))] : List ((List UInt8 × (List UInt8 × Unit)) × (List UInt8 × (Bool × Unit))))⟩
def aM8 : Row := ⟨117, qZ7, qZt, ([(([49], ()), ([(.ofNat 1)], ())),
 (([50], ()), ([(.ofNat 2)], ())),
 (([50,48,48,48,48,48,48,48,48,48,48,48,48], ()), ([(.ofNat 0), (.ofNat 2000)], ())),
 (([49,48,48,48,48,48,48,48,48,48,48,48,48], ()), ([(.ofNat 0), (.ofNat 1000)], ()))] : List ((List UInt8 × Unit) × (List Int × Unit)))⟩
def aM7 : Row := ⟨118, qZ00, qZt, ([(([(.ofNat 1)], ([(.ofNat 1)], ())), ([(.ofNat 1)], ())),
 (([(.ofNat 2)], ([(.ofNat 1)], ())), ([(.ofNat 1)], ())),
 (([], ([(.ofNat 1)], ())), ([(.ofNat 1)], ()))] : List ((List Int × (List Int × Unit)) × (List Int × Unit)))⟩
def aM6 : Row := ⟨119, qZ00, qZ00, ([(([(.ofNat 300)], ([(.ofNat 100)], ())), ([(.ofNat 3)], ([], ()))),
 (([(.ofNat 100)], ([(.ofNat 100)], ())), ([(.ofNat 1)], ([], ()))),
 (([(.ofNat 1)], ([(.ofNat 1)], ())), ([(.ofNat 1)], ([], ()))),
 (([], ([(.ofNat 1)], ())), ([], ([], ())))] : List ((List Int × (List Int × Unit)) × (List Int × (List Int × Unit))))⟩
def aM5 : Row := ⟨121, qZs, qZ7, ([((([(.ofNat 3)], (false, ())), ()), ([51], ()))] : List (((List Int × (Bool × Unit)) × Unit) × (List UInt8 × Unit)))⟩
def aM4 : Row := ⟨122, qZt, qZ7, ([(([(.ofNat 2)], ()), ([50], ())),
 (([(.ofNat 1)], ()), ([49], ()))] : List ((List Int × Unit) × (List UInt8 × Unit)))⟩
def aM3 : Row := ⟨124, qZ00, qZ6, ([(([(.ofNat 2)], ([(.ofNat 1)], ())), ((.ofNat 1), ())),
 (([(.ofNat 1)], ([(.ofNat 2)], ())), ((.negSucc 0), ()))] : List ((List Int × (List Int × Unit)) × (Int × Unit)))⟩
def aM2 : Row := ⟨145, qZu, qZs, ([((([], (false, ())), ([(.ofNat 1)], ())), (([], (false, ())), ())),
 ((([(.ofNat 3)], (false, ())), ([(.ofNat 2)], ())), (([(.ofNat 6)], (false, ())), ()))] : List (((List Int × (Bool × Unit)) × (List Int × Unit)) × ((List Int × (Bool × Unit)) × Unit)))⟩
def aM1 : Row := ⟨146, qZ04, qZs, ([((([], (false, ())), (([], (false, ())), ())), (([], (false, ())), ())),
 ((([(.ofNat 3)], (false, ())), (([(.ofNat 3)], (true, ())), ())), (([], (false, ())), ())),
 ((([(.ofNat 4)], (false, ())), (([(.ofNat 4)], (true, ())), ())), (([], (false, ())), ()))] : List (((List Int × (Bool × Unit)) × ((List Int × (Bool × Unit)) × Unit)) × ((List Int × (Bool × Unit)) × Unit)))⟩
def aM0 : Row := ⟨155, (.pair (.sl .bool) qZ3), qZ6, ([(([true, true, true, true], (false, ())), ((.negSucc 0), ()))] : List ((List Bool × (Bool × Unit)) × (Int × Unit)))⟩
def aMZ : Row := ⟨165, qZ7, qZt, ([(([49], ()), ([(.ofNat 1)], ())),
 (([50], ()), ([(.ofNat 2)], ())),
 (([50,48,48,48,48,48,48,48,48,48,48,48,48], ()), ([(.ofNat 0), (.ofNat 2000)], ())),
 (([49,48,48,48,48,48,48,48,48,48,48,48,48], ()), ([(.ofNat 0), (.ofNat 1000)], ()))] : List ((List UInt8 × Unit) × (List Int × Unit)))⟩
def aMY : Row := ⟨167, qZt, qZt, ([(([(.ofNat 0), (.ofNat 2000), (.ofNat 0)], ()), ([(.ofNat 0), (.ofNat 2000)], ())),
 (([(.ofNat 2), (.ofNat 0)], ()), ([(.ofNat 2)], ())),
 (([(.ofNat 0), (.ofNat 0)], ()), ([], ()))] : List ((List Int × Unit) × (List Int × Unit)))⟩
def aMX : Row := ⟨168, qZt, qZw, ([(([(.ofNat 0), (.ofNat 1000)], ()), ((.ofNat 1000000000000), ()))] : List ((List Int × Unit) × (Int × Unit)))⟩
def aMW : Row := ⟨169, qZw, qZt, ([(((.ofNat 1000000000000), ()), ([(.ofNat 0), (.ofNat 1000)], ()))] : List ((Int × Unit) × (List Int × Unit)))⟩
def aMV : Row := ⟨171, qZ00, qZt, ([(([(.ofNat 1)], ([(.ofNat 1)], ())), ([(.ofNat 1)], ())),
 (([(.ofNat 0), (.ofNat 1000)], ([(.ofNat 999000)], ())), ([(.ofNat 0), (.ofNat 999000000)], ())),
 (([(.ofNat 3)], ([(.ofNat 1)], ())), ([(.ofNat 3)], ())),
 (([(.ofNat 4)], ([(.ofNat 1)], ())), ([(.ofNat 4)], ())),
 (([(.ofNat 0), (.ofNat 500)], ([(.ofNat 1996007)], ())), ([(.ofNat 0), (.ofNat 998003500)], ()))] : List ((List Int × (List Int × Unit)) × (List Int × Unit)))⟩
def aMU : Row := ⟨212, qZ00, qZt, ([(([(.ofNat 2)], ([(.ofNat 2)], ())), ([], ())),
 (([(.ofNat 1)], ([(.ofNat 1)], ())), ([], ())),
 (([(.ofNat 2)], ([(.ofNat 1)], ())), ([(.ofNat 1)], ()))] : List ((List Int × (List Int × Unit)) × (List Int × Unit)))⟩
def aMT : Row := ⟨213, qZh, qZh, ([(([(.ofNat 2)], ([(.ofNat 1)], ())), ([(.ofNat 2)], ([], ()))),
 (([(.ofNat 1)], ([(.ofNat 1)], ())), ([(.ofNat 1)], ([], ()))),
 (([], ([(.ofNat 1)], ())), ([], ([], ()))),
 (([(.ofNat 4)], ([(.ofNat 1)], ())), ([(.ofNat 4)], ([], ())))] : List ((List Int × (List Int × Unit)) × (List Int × (List Int × Unit))))⟩
def aMS : Row := ⟨221, qZt, qZt, ([(([(.ofNat 0), (.ofNat 999900000), (.ofNat 0)], ()), ([(.ofNat 0), (.ofNat 999900000)], ())),
 (([(.ofNat 0), (.ofNat 0)], ()), ([], ()))] : List ((List Int × Unit) × (List Int × Unit)))⟩
def aMR : Row := ⟨234, qZk, qZe, ([((((.ofNat 0), ((.ofNat 0), ())), ()), (((.ofNat 0), ((.ofNat 0), ())), ((.ofNat 0), ())))] : List (((Int × (Int × Unit)) × Unit) × ((Int × (Int × Unit)) × (Int × Unit))))⟩
def aMQ : Row := ⟨265, (.pair (.arr 3 qZ4) (.pair (.arr 3 qZ4) .unit)), (.pair (.arr 3 qZ4) .unit), ([(([(.negSucc 99), (.ofNat 900), (.negSucc 99)], ([(.ofNat 900), (.negSucc 99), (.negSucc 99)], ())), ([(.negSucc 99999), (.negSucc 99999), (.negSucc 799999)], ())),
 (([(.ofNat 900), (.negSucc 99), (.negSucc 99)], ([(.negSucc 99), (.negSucc 99), (.ofNat 900)], ())), ([(.negSucc 99999), (.negSucc 799999), (.negSucc 99999)], ())),
 (([(.negSucc 99), (.negSucc 99), (.ofNat 900)], ([(.negSucc 99), (.ofNat 900), (.negSucc 99)], ())), ([(.negSucc 799999), (.negSucc 99999), (.negSucc 99999)], ())),
 (([(.negSucc 99), (.ofNat 900), (.negSucc 99)], ([(.negSucc 99), (.negSucc 99), (.ofNat 900)], ())), ([(.ofNat 800000), (.ofNat 100000), (.ofNat 100000)], ())),
 (([(.negSucc 99), (.ofNat 900), (.negSucc 99)], ([(.ofNat 1), (.ofNat 2), (.ofNat 4)], ())), ([(.ofNat 3800), (.ofNat 300), (.negSucc 1099)], ())),
 (([(.ofNat 1), (.ofNat 2), (.ofNat 4)], ([(.negSucc 99), (.negSucc 99), (.ofNat 900)], ())), ([(.ofNat 2200), (.negSucc 1299), (.ofNat 100)], ())),
 (([(.negSucc 499), (.ofNat 500), (.negSucc 0)], ([(.ofNat 500), (.negSucc 499), (.negSucc 0)], ())), ([(.negSucc 999), (.negSucc 999), (.ofNat 0)], ())),
 (([(.ofNat 500), (.negSucc 499), (.negSucc 0)], ([(.negSucc 499), (.negSucc 499), (.ofNat 999)], ())), ([(.negSucc 499999), (.negSucc 498999), (.negSucc 499999)], ())),
 (([(.negSucc 499), (.negSucc 499), (.ofNat 999)], ([(.negSucc 499), (.ofNat 500), (.negSucc 0)], ())), ([(.negSucc 498999), (.negSucc 499999), (.negSucc 499999)], ())),
 (([(.negSucc 499), (.ofNat 500), (.negSucc 0)], ([(.negSucc 499), (.negSucc 499), (.ofNat 999)], ())), ([(.ofNat 499000), (.ofNat 500000), (.ofNat 500000)], ())),
 (([(.negSucc 499), (.ofNat 500), (.negSucc 0)], ([(.ofNat 1), (.ofNat 2), (.ofNat 4)], ())), ([(.ofNat 2002), (.ofNat 1999), (.negSucc 1499)], ())),
 (([(.ofNat 1), (.ofNat 2), (.ofNat 4)], ([(.negSucc 499), (.negSucc 499), (.ofNat 999)], ())), ([(.ofNat 3998), (.negSucc 2998), (.ofNat 500)], ()))] : List ((List Int × (List Int × Unit)) × (List Int × Unit)))⟩
def aMP : Row := ⟨276, qZs, qZp, ([((([], (false, ())), ()), ([48], ((.ofNat 0), ()))),
 ((([(.ofNat 0), (.ofNat 0), (.ofNat 4000000)], (false, ())), ()), ([52,48,48,48,48,48,48,48,48,48,48,48,48,48,48,48,48,48,48,48,48,48,48,48,48], ((.ofNat 0), ()))),
 ((([(.ofNat 0), (.ofNat 0), (.ofNat 9000000)], (false, ())), ()), ([57,48,48,48,48,48,48,48,48,48,48,48,48,48,48,48,48,48,48,48,48,48,48,48,48], ((.ofNat 0), ()))),
 ((([(.ofNat 0), (.ofNat 0), (.ofNat 25000000)], (false, ())), ()), ([50,53,48,48,48,48,48,48,48,48,48,48,48,48,48,48,48,48,48,48,48,48,48,48,48,48], ((.ofNat 0), ()))),
 ((([(.ofNat 0), (.ofNat 0), (.ofNat 1000000)], (false, ())), ()), ([49,48,48,48,48,48,48,48,48,48,48,48,48,48,48,48,48,48,48,48,48,48,48,48,48], ((.ofNat 0), ())))] : List (((List Int × (Bool × Unit)) × Unit) × (List UInt8 × (Int × Unit))))⟩
def aMO : Row := ⟨310, qZ00, qZt, ([(([(.ofNat 0), (.ofNat 2000)], ([(.ofNat 1)], ())), ([(.ofNat 0), (.ofNat 2000)], ())),
 (([(.ofNat 0), (.ofNat 10000)], ([(.ofNat 1)], ())), ([(.ofNat 0), (.ofNat 10000)], ())),
 (([(.ofNat 0), (.ofNat 5200)], ([(.ofNat 1)], ())), ([(.ofNat 0), (.ofNat 5200)], ())),
 (([(.ofNat 615384615), (.ofNat 2984)], ([(.ofNat 1)], ())), ([(.ofNat 615384615), (.ofNat 2984)], ())),
 (([(.ofNat 410785091), (.ofNat 2162)], ([(.ofNat 1)], ())), ([(.ofNat 410785091), (.ofNat 2162)], ())),
 (([(.ofNat 99040777), (.ofNat 2006)], ([(.ofNat 1)], ())), ([(.ofNat 99040777), (.ofNat 2006)], ())),
 (([(.ofNat 9271301), (.ofNat 2000)], ([(.ofNat 1)], ())), ([(.ofNat 9271301), (.ofNat 2000)], ())),
 (([(.ofNat 0), (.ofNat 0), (.ofNat 4000000)], ([(.ofNat 499750)], ())), ([(.ofNat 0), (.ofNat 0), (.ofNat 0), (.ofNat 1999)], ())),
 (([(.ofNat 21), (.ofNat 2000)], ([(.ofNat 1)], ())), ([(.ofNat 21), (.ofNat 2000)], ())),
 (([(.ofNat 0), (.ofNat 100000)], ([(.ofNat 1)], ())), ([(.ofNat 0), (.ofNat 100000)], ())),
 (([(.ofNat 0), (.ofNat 50125)], ([(.ofNat 1)], ())), ([(.ofNat 0), (.ofNat 50125)], ())),
 (([(.ofNat 876558603), (.ofNat 25311)], ([(.ofNat 1)], ())), ([(.ofNat 876558603), (.ofNat 25311)], ())),
 (([(.ofNat 777602950), (.ofNat 13149)], ([(.ofNat 1)], ())), ([(.ofNat 777602950), (.ofNat 13149)], ())),
 (([(.ofNat 475220305), (.ofNat 7525)], ([(.ofNat 1)], ())), ([(.ofNat 475220305), (.ofNat 7525)], ())),
 (([(.ofNat 762280896), (.ofNat 5423)], ([(.ofNat 1)], ())), ([(.ofNat 762280896), (.ofNat 5423)], ())),
 (([(.ofNat 554419368), (.ofNat 5016)], ([(.ofNat 1)], ())), ([(.ofNat 554419368), (.ofNat 5016)], ())),
 (([(.ofNat 27314445), (.ofNat 5000)], ([(.ofNat 1)], ())), ([(.ofNat 27314445), (.ofNat 5000)], ())),
 (([(.ofNat 0), (.ofNat 0), (.ofNat 25000000)], ([(.ofNat 199960)], ())), ([(.ofNat 0), (.ofNat 0), (.ofNat 0), (.ofNat 4999)], ())),
 (([(.ofNat 74), (.ofNat 5000)], ([(.ofNat 1)], ())), ([(.ofNat 74), (.ofNat 5000)], ())),
 (([(.ofNat 0), (.ofNat 5000)], ([(.ofNat 1)], ())), ([(.ofNat 0), (.ofNat 5000)], ())),
 (([(.ofNat 0), (.ofNat 1000)], ([(.ofNat 1)], ())), ([(.ofNat 0), (.ofNat 1000)], ())),
 (([(.ofNat 0), (.ofNat 5050)], ([(.ofNat 1)], ())), ([(.ofNat 0), (.ofNat 5050)], ())),
 (([(.ofNat 9900990), (.ofNat 2624)], ([(.ofNat 1)], ())), ([(.ofNat 9900990), (.ofNat 2624)], ())),
 (([(.ofNat 553011998), (.ofNat 1502)], ([(.ofNat 1)], ())), ([(.ofNat 553011998), (.ofNat 1502)], ())),
 (([(.ofNat 43467302), (.ofNat 1084)], ([(.ofNat 1)], ())), ([(.ofNat 43467302), (.ofNat 1084)], ())),
 (([(.ofNat 257851096), (.ofNat 1003)], ([(.ofNat 1)], ())), ([(.ofNat 257851096), (.ofNat 1003)], ())),
 (([(.ofNat 5289564), (.ofNat 1000)], ([(.ofNat 1)], ())), ([(.ofNat 5289564), (.ofNat 1000)], ())),
 (([(.ofNat 0), (.ofNat 0), (.ofNat 1000000)], ([(.ofNat 999000)], ())), ([(.ofNat 0), (.ofNat 0), (.ofNat 0), (.ofNat 999)], ())),
 (([(.ofNat 13), (.ofNat 1000)], ([(.ofNat 1)], ())), ([(.ofNat 13), (.ofNat 1000)], ()))] : List ((List Int × (List Int × Unit)) × (List Int × Unit)))⟩
def aMN : Row := ⟨316, qZ6, qZt, ([(((.ofNat 13), ()), ([(.ofNat 0), (.ofNat 10000)], ()))] : List ((Int × Unit) × (List Int × Unit)))⟩
def aMM : Row := ⟨320, qZ07, qZ07, ([(([(.ofNat 0), (.ofNat 4000)], ((.ofNat 2), ())), ([(.ofNat 0), (.ofNat 2000)], ((.ofNat 0), ()))),
 (([(.ofNat 0), (.ofNat 10000)], ((.ofNat 2), ())), ([(.ofNat 0), (.ofNat 5000)], ((.ofNat 0), ()))),
 (([(.ofNat 0), (.ofNat 2000)], ((.ofNat 2), ())), ([(.ofNat 0), (.ofNat 1000)], ((.ofNat 0), ())))] : List ((List Int × (Int × Unit)) × (List Int × (Int × Unit))))⟩
def aRl : List Row := [aPP, aPO, aPN, aPM, aPL, aNb, aNa, aM9, aM8, aM7, aM6, aM5, aM4, aM3, aM2, aM1, aM0, aMZ, aMY, aMX, aMW, aMV, aMU, aMT, aMS, aMR, aMQ, aMP, aMO, aMN, aMM]
theorem aLc : aaF (aaG Tryz.prog acL 100000 akT 40) [aPP] = true := by kernel_rfl
theorem aLb : aaF (aaG Tryz.prog acL 100000 akT 40) [aPO] = true := by kernel_rfl
theorem aLa : aaF (aaG Tryz.prog acL 100000 akT 40) [aPN] = true := by kernel_rfl
theorem aK9 : aaF (aaG Tryz.prog acL 100000 akT 40) [aPM] = true := by kernel_rfl
theorem aK8 : aaF (aaG Tryz.prog acL 100000 akT 40) [aPL] = true := by kernel_rfl
theorem aHO : aaF (aaG Tryz.prog acL 100000 akT 40) [aNb] = true := by kernel_rfl
theorem aHN : aaF (aaG Tryz.prog acL 100000 akT 40) [aNa] = true := by kernel_rfl
theorem aHM : aaF (aaG Tryz.prog acL 100000 akT 40) [aM9] = true := by kernel_rfl
theorem aHL : aaF (aaG Tryz.prog acL 100000 akT 40) [aM8] = true := by kernel_rfl
theorem aHK : aaF (aaG Tryz.prog acL 100000 akT 40) [aM7] = true := by kernel_rfl
theorem aHJ : aaF (aaG Tryz.prog acL 100000 akT 40) [aM6] = true := by kernel_rfl
theorem aHI : aaF (aaG Tryz.prog acL 100000 akT 40) [aM5] = true := by kernel_rfl
theorem aHH : aaF (aaG Tryz.prog acL 100000 akT 40) [aM4] = true := by kernel_rfl
theorem aHG : aaF (aaG Tryz.prog acL 100000 akT 40) [aM3] = true := by kernel_rfl
theorem aHF : aaF (aaG Tryz.prog acL 100000 akT 40) [aM2] = true := by kernel_rfl
theorem aHE : aaF (aaG Tryz.prog acL 100000 akT 40) [aM1] = true := by kernel_rfl
theorem aHD : aaF (aaG Tryz.prog acL 100000 akT 40) [aM0] = true := by kernel_rfl
theorem aHC : aaF (aaG Tryz.prog acL 100000 akT 40) [aMZ] = true := by kernel_rfl
theorem aHB : aaF (aaG Tryz.prog acL 100000 akT 40) [aMY] = true := by kernel_rfl
theorem aHA : aaF (aaG Tryz.prog acL 100000 akT 40) [aMX] = true := by kernel_rfl
theorem aHz : aaF (aaG Tryz.prog acL 100000 akT 40) [aMW] = true := by kernel_rfl
theorem aHy : aaF (aaG Tryz.prog acL 100000 akT 40) [aMV] = true := by kernel_rfl
theorem aHx : aaF (aaG Tryz.prog acL 100000 akT 40) [aMU] = true := by kernel_rfl
theorem aHw : aaF (aaG Tryz.prog acL 100000 akT 40) [aMT] = true := by kernel_rfl
theorem aHv : aaF (aaG Tryz.prog acL 100000 akT 40) [aMS] = true := by kernel_rfl
theorem aHu : aaF (aaG Tryz.prog acL 100000 akT 40) [aMR] = true := by kernel_rfl
theorem aHt : aaF (aaG Tryz.prog acL 100000 akT 40) [aMQ] = true := by kernel_rfl
theorem aHs : aaF (aaG Tryz.prog acL 100000 akT 40) [aMP] = true := by kernel_rfl
theorem aHr : aaF (aaG Tryz.prog acL 100000 akT 40) [aMO] = true := by kernel_rfl
theorem aHq : aaF (aaG Tryz.prog acL 100000 akT 40) [aMN] = true := by kernel_rfl
theorem aHp : aaF (aaG Tryz.prog acL 100000 akT 40) [aMM] = true := by kernel_rfl
theorem aaA {pf : aa4} {r : Row} {rs : List Row} (h1 : aaF pf [r] = true) (h2 : aaF pf rs = true) : aaF pf (r :: rs) = true := by
 simp only [aaF] at h1 ⊢
 split at h1
 ·exact h2
 ·cases h1
def ayX : aa4 := ahK (ajT aRl) akT
theorem aOC : adP Tryz.prog (Gt Tryz.prog) ayX := agM amR amO afA aOD 100000 40 (aaA aLc (aaA aLb (aaA aLa (aaA aK9 (aaA aK8 (aaA aHO (aaA aHN (aaA aHM (aaA aHL (aaA aHK (aaA aHJ (aaA aHI (aaA aHH (aaA aHG (aaA aHF (aaA aHE (aaA aHD (aaA aHC (aaA aHB (aaA aHA (aaA aHz (aaA aHy (aaA aHx (aaA aHw (aaA aHv (aaA aHu (aaA aHt (aaA aHs (aaA aHr (aaA aHq (aaA aHp (rfl))))))))))))))))))))))))))))))))
open Go Go.Proofs
set_option maxRecDepth 1000000
set_option maxHeartbeats 0
def aPK : Row := ⟨38, (.pair (.pair (.sl (.arr 3 qZ4)) (.pair (.sl (.arr 3 qZ4)) .unit)) .unit), qZ6, ([((([[(.ofNat 0), (.ofNat 0), (.ofNat 0)], [(.ofNat 1000), (.ofNat 0), (.ofNat 0)], [(.ofNat 0), (.ofNat 1000), (.ofNat 0)], [(.ofNat 0), (.ofNat 0), (.ofNat 1000)]], ([[(.ofNat 0), (.ofNat 2), (.ofNat 1)], [(.ofNat 0), (.ofNat 1), (.ofNat 3)], [(.ofNat 0), (.ofNat 3), (.ofNat 2)], [(.ofNat 1), (.ofNat 2), (.ofNat 3)]], ())), ()), ((.ofNat 0), ()))] : List (((List (List Int) × (List (List Int) × Unit)) × Unit) × (Int × Unit)))⟩
def aPJ : Row := ⟨41, (.pair (.sl (.pair .str (.pair qZ5 (.pair (.arr 3 qZ4) .unit)))) .unit), qZ6, ([(([([97], ([(.ofNat 0)], ([(.ofNat 5000), (.ofNat 0), (.ofNat 0)], ()))), ([98], ([(.ofNat 0)], ([(.ofNat 4000), (.ofNat 300), (.ofNat 400)], ())))], ()), ((.ofNat 0), ()))] : List ((List (List UInt8 × (List Int × (List Int × Unit))) × Unit) × (Int × Unit)))⟩
def aPI : Row := ⟨54, (.pair qZ4 (.pair qZ4 qZm)), qZm, ([(((.ofNat 3000000000000), ((.ofNat 1), ((.ofNat 2), (false, ())))), ((.ofNat 1500000000000), (true, ()))),
 (((.ofNat 3000000000000), ((.ofNat 1), ((.ofNat 2), (true, ())))), ((.ofNat 1500000000000), (true, ())))] : List ((Int × (Int × (Int × (Bool × Unit)))) × (Int × (Bool × Unit))))⟩
def aPH : Row := ⟨71, qZ7, qZ6, ([(([51,48,48], ()), ((.ofNat 0), ())),
 (([50,48,48], ()), ((.ofNat 0), ())),
 (([49], ()), ((.ofNat 0), ())),
 (([51], ()), ((.ofNat 0), ())),
 (([50], ()), ((.ofNat 0), ())),
 (([49,48,48], ()), ((.ofNat 0), ())),
 (([45,50,48,48,48,48,48,48,48,48,48,48,48,48], ()), ((.ofNat 0), ())),
 (([45,49,48,48,48,48,48,48,48,48,48,48,48,48], ()), ((.ofNat 0), ()))] : List ((List UInt8 × Unit) × (Int × Unit)))⟩
def aPG : Row := ⟨72, qZ7, qZs, ([(([51,48,48], ()), (([(.ofNat 300)], (false, ())), ())),
 (([50,48,48], ()), (([(.ofNat 200)], (false, ())), ())),
 (([48], ()), (([], (false, ())), ())),
 (([51], ()), (([(.ofNat 3)], (false, ())), ())),
 (([49,48,48], ()), (([(.ofNat 100)], (false, ())), ()))] : List ((List UInt8 × Unit) × ((List Int × (Bool × Unit)) × Unit)))⟩
def aPF : Row := ⟨76, qZv, qZ9, ([(((([(.ofNat 3)], (false, ())), ([(.ofNat 2)], ())), ()), (([51], ([50], ())), ((.ofNat 0), ()))),
 (((([], (false, ())), ([(.ofNat 1)], ())), ()), (([48], ([49], ())), ((.ofNat 0), ()))),
 (((([(.ofNat 4)], (false, ())), ([(.ofNat 1)], ())), ()), (([52], ([49], ())), ((.ofNat 0), ()))),
 (((([(.ofNat 2)], (true, ())), ([(.ofNat 1)], ())), ()), (([45,50], ([49], ())), ((.ofNat 0), ()))),
 (((([(.ofNat 3)], (false, ())), ([(.ofNat 1)], ())), ()), (([51], ([49], ())), ((.ofNat 0), ()))),
 (((([(.ofNat 1)], (true, ())), ([(.ofNat 1)], ())), ()), (([45,49], ([49], ())), ((.ofNat 0), ()))),
 (((([(.ofNat 1)], (false, ())), ([(.ofNat 1)], ())), ()), (([49], ([49], ())), ((.ofNat 0), ())))] : List ((((List Int × (Bool × Unit)) × (List Int × Unit)) × Unit) × ((List UInt8 × (List UInt8 × Unit)) × (Int × Unit))))⟩
def aML : Row := ⟨115, qZ7, (.pair qZr qZ3), ([(([48], ()), (([], (false, ())), (true, ()))),
 (([49,48,48,48,48,48,48,48,48,48,48,48,48], ()), (([(.ofNat 0), (.ofNat 1000)], (false, ())), (true, ()))),
 (([50,48,48,48,48,48,48,48,48,48,48,48,48], ()), (([(.ofNat 0), (.ofNat 2000)], (false, ())), (true, ()))),
 (([51,48,48,48,48,48,48,48,48,48,48,48,48], ()), (([(.ofNat 0), (.ofNat 3000)], (false, ())), (true, ()))),
 (([52,48,48,48,48,48,48,48,48,48,48,48,48], ()), (([(.ofNat 0), (.ofNat 4000)], (false, ())), (true, ())))] : List ((List UInt8 × Unit) × ((List Int × (Bool × Unit)) × (Bool × Unit))))⟩
def aMK : Row := ⟨118, qZ00, qZt, ([(([(.ofNat 0), (.ofNat 2000)], ([(.ofNat 0), (.ofNat 1000)], ())), ([(.ofNat 0), (.ofNat 1000)], ())),
 (([(.ofNat 0), (.ofNat 1000)], ([(.ofNat 0), (.ofNat 1000)], ())), ([(.ofNat 0), (.ofNat 1000)], ()))] : List ((List Int × (List Int × Unit)) × (List Int × Unit)))⟩
def aMJ : Row := ⟨119, qZ00, qZ00, ([(([(.ofNat 0), (.ofNat 2000)], ([(.ofNat 0), (.ofNat 1000)], ())), ([(.ofNat 2)], ([], ()))),
 (([(.ofNat 0), (.ofNat 1000)], ([(.ofNat 0), (.ofNat 1000)], ())), ([(.ofNat 1)], ([], ())))] : List ((List Int × (List Int × Unit)) × (List Int × (List Int × Unit))))⟩
def aMI : Row := ⟨145, qZu, qZs, ([((([(.ofNat 1)], (true, ())), ([(.ofNat 1)], ())), (([(.ofNat 1)], (true, ())), ()))] : List (((List Int × (Bool × Unit)) × (List Int × Unit)) × ((List Int × (Bool × Unit)) × Unit)))⟩
def aMH : Row := ⟨150, qZo, qZo, ([(((false, ([(.ofNat 2)], ())), ((false, ([(.ofNat 1)], ())), ())), ((false, ([(.ofNat 2)], ())), ((false, ([], ())), ()))),
 (((false, ([(.ofNat 1)], ())), ((false, ([(.ofNat 1)], ())), ())), ((false, ([(.ofNat 1)], ())), ((false, ([], ())), ())))] : List (((Bool × (List Int × Unit)) × ((Bool × (List Int × Unit)) × Unit)) × ((Bool × (List Int × Unit)) × ((Bool × (List Int × Unit)) × Unit))))⟩
def aMG : Row := ⟨158, (.pair (.arr 3 (.arr 3 qZ4)) .unit), qZ6, ([(([[(.negSucc 99), (.negSucc 99), (.negSucc 99)], [(.negSucc 99), (.ofNat 900), (.negSucc 99)], [(.ofNat 900), (.negSucc 99), (.negSucc 99)]], ()), ((.ofNat 100000000), ())),
 (([[(.negSucc 99), (.negSucc 99), (.negSucc 99)], [(.ofNat 900), (.negSucc 99), (.negSucc 99)], [(.negSucc 99), (.negSucc 99), (.ofNat 900)]], ()), ((.ofNat 100000000), ())),
 (([[(.negSucc 99), (.negSucc 99), (.negSucc 99)], [(.negSucc 99), (.negSucc 99), (.ofNat 900)], [(.negSucc 99), (.ofNat 900), (.negSucc 99)]], ()), ((.ofNat 100000000), ())),
 (([[(.ofNat 900), (.negSucc 99), (.negSucc 99)], [(.negSucc 99), (.ofNat 900), (.negSucc 99)], [(.negSucc 99), (.negSucc 99), (.ofNat 900)]], ()), ((.ofNat 700000000), ())),
 (([[(.negSucc 499), (.negSucc 499), (.negSucc 0)], [(.negSucc 499), (.ofNat 500), (.negSucc 0)], [(.ofNat 500), (.negSucc 499), (.negSucc 0)]], ()), ((.ofNat 1000000), ())),
 (([[(.negSucc 499), (.negSucc 499), (.negSucc 0)], [(.ofNat 500), (.negSucc 499), (.negSucc 0)], [(.negSucc 499), (.negSucc 499), (.ofNat 999)]], ()), ((.ofNat 500000000), ())),
 (([[(.negSucc 499), (.negSucc 499), (.negSucc 0)], [(.negSucc 499), (.negSucc 499), (.ofNat 999)], [(.negSucc 499), (.ofNat 500), (.negSucc 0)]], ()), ((.ofNat 500000000), ())),
 (([[(.ofNat 500), (.negSucc 499), (.negSucc 0)], [(.negSucc 499), (.ofNat 500), (.negSucc 0)], [(.negSucc 499), (.negSucc 499), (.ofNat 999)]], ()), ((.negSucc 999999), ()))] : List ((List (List Int) × Unit) × (Int × Unit)))⟩
def aMF : Row := ⟨171, qZ00, qZt, ([(([(.ofNat 0), (.ofNat 1000)], ([(.ofNat 2)], ())), ([(.ofNat 0), (.ofNat 2000)], ())),
 (([(.ofNat 1)], ([(.ofNat 2)], ())), ([(.ofNat 2)], ())),
 (([(.ofNat 2)], ([(.ofNat 1)], ())), ([(.ofNat 2)], ()))] : List ((List Int × (List Int × Unit)) × (List Int × Unit)))⟩
def aME : Row := ⟨190, qZz, qZd, ([(([53,48,48,48,48,48,48,48,48,48,48,48,48], (false, ())), ((.ofNat 5000000000000), ((.ofNat 0), ())))] : List ((List UInt8 × (Bool × Unit)) × (Int × (Int × Unit))))⟩
def aMD : Row := ⟨280, qZ0a, qZt, ([(([(.ofNat 0), (.ofNat 0), (.ofNat 25000000)], ((.ofNat 2), ())), ([(.ofNat 0), (.ofNat 5000)], ()))] : List ((List Int × (Int × Unit)) × (List Int × Unit)))⟩
def aMC : Row := ⟨310, qZ00, qZt, ([(([(.ofNat 0), (.ofNat 10000)], ([(.ofNat 99990)], ())), ([(.ofNat 0), (.ofNat 999900000)], ()))] : List ((List Int × (List Int × Unit)) × (List Int × Unit)))⟩
def aRk : List Row := [aPK, aPJ, aPI, aPH, aPG, aPF, aML, aMK, aMJ, aMI, aMH, aMG, aMF, aME, aMD, aMC]
theorem aK7 : aaF (aaG Tryz.prog acL 100000 ayX 40) [aPK] = true := by kernel_rfl
theorem aK6 : aaF (aaG Tryz.prog acL 100000 ayX 40) [aPJ] = true := by kernel_rfl
theorem aK5 : aaF (aaG Tryz.prog acL 100000 ayX 40) [aPI] = true := by kernel_rfl
theorem aK4 : aaF (aaG Tryz.prog acL 100000 ayX 40) [aPH] = true := by kernel_rfl
theorem aK3 : aaF (aaG Tryz.prog acL 100000 ayX 40) [aPG] = true := by kernel_rfl
theorem aK2 : aaF (aaG Tryz.prog acL 100000 ayX 40) [aPF] = true := by kernel_rfl
theorem aHo : aaF (aaG Tryz.prog acL 100000 ayX 40) [aML] = true := by kernel_rfl
theorem aHn : aaF (aaG Tryz.prog acL 100000 ayX 40) [aMK] = true := by kernel_rfl
theorem aHm : aaF (aaG Tryz.prog acL 100000 ayX 40) [aMJ] = true := by kernel_rfl
theorem aHl : aaF (aaG Tryz.prog acL 100000 ayX 40) [aMI] = true := by kernel_rfl
theorem aHk : aaF (aaG Tryz.prog acL 100000 ayX 40) [aMH] = true := by kernel_rfl
theorem aHj : aaF (aaG Tryz.prog acL 100000 ayX 40) [aMG] = true := by kernel_rfl
theorem aHi : aaF (aaG Tryz.prog acL 100000 ayX 40) [aMF] = true := by kernel_rfl
theorem aHh : aaF (aaG Tryz.prog acL 100000 ayX 40) [aME] = true := by kernel_rfl
theorem aHg : aaF (aaG Tryz.prog acL 100000 ayX 40) [aMD] = true := by kernel_rfl
theorem aHf : aaF (aaG Tryz.prog acL 100000 ayX 40) [aMC] = true := by kernel_rfl
def aBw : aa4 := ahK (ajT aRk) ayX
theorem aOB : adP Tryz.prog (Gt Tryz.prog) aBw := agM amR amO afA aOC 100000 40 (aaA aK7 (aaA aK6 (aaA aK5 (aaA aK4 (aaA aK3 (aaA aK2 (aaA aHo (aaA aHn (aaA aHm (aaA aHl (aaA aHk (aaA aHj (aaA aHi (aaA aHh (aaA aHg (aaA aHf (rfl)))))))))))))))))
open Go Go.Proofs
set_option maxRecDepth 1000000
set_option maxHeartbeats 0
def aPE : Row := ⟨17, qZd, qZa, ([(((.ofNat 3), ((.ofNat 2), ())), (([51], ([50], ())), ())),
 (((.ofNat 2), ((.ofNat 1), ())), (([50], ([49], ())), ())),
 (((.ofNat 1), ((.ofNat 1), ())), (([49], ([49], ())), ())),
 (((.ofNat 0), ((.ofNat 1), ())), (([48], ([49], ())), ()))] : List ((Int × (Int × Unit)) × ((List UInt8 × (List UInt8 × Unit)) × Unit)))⟩
def aPD : Row := ⟨18, (.pair (.pair (.sl (.arr 3 qZ4)) (.pair (.sl (.arr 3 qZ4)) .unit)) (.pair (.sl (.arr 3 qZ4)) .unit)), qZf, ([((([[(.ofNat 0), (.ofNat 0), (.ofNat 0)], [(.ofNat 1000), (.ofNat 0), (.ofNat 0)], [(.ofNat 0), (.ofNat 1000), (.ofNat 0)], [(.ofNat 0), (.ofNat 0), (.ofNat 1000)]], ([[(.ofNat 0), (.ofNat 2), (.ofNat 1)], [(.ofNat 0), (.ofNat 1), (.ofNat 3)], [(.ofNat 0), (.ofNat 3), (.ofNat 2)], [(.ofNat 1), (.ofNat 2), (.ofNat 3)]], ())), ([[(.ofNat 100), (.ofNat 100), (.ofNat 100)], [(.ofNat 500), (.ofNat 500), (.ofNat 0)], [(.ofNat 500), (.ofNat 500), (.ofNat 1)]], ())), ([(.ofNat 2)], ((.ofNat 0), ())))] : List (((List (List Int) × (List (List Int) × Unit)) × (List (List Int) × Unit)) × (List Int × (Int × Unit))))⟩
def aPC : Row := ⟨23, (.pair (.sl (.pair .str (.pair qZ5 (.pair (.arr 3 qZ4) .unit)))) (.pair (.sl (.pair .str (.pair qZ5 (.pair (.arr 3 qZ4) .unit)))) .unit)), qZ3, ([(([([97], ([(.ofNat 0)], ([(.ofNat 5000), (.ofNat 0), (.ofNat 0)], ()))), ([98], ([(.ofNat 0)], ([(.ofNat 4000), (.ofNat 300), (.ofNat 400)], ())))], ([([98], ([(.ofNat 0)], ([(.ofNat 4100), (.ofNat 300), (.ofNat 400)], ()))), ([97], ([(.ofNat 0)], ([(.ofNat 5200), (.ofNat 0), (.ofNat 0)], ()))), ([99], ([(.ofNat 0)], ([(.ofNat 100), (.ofNat 100), (.ofNat 100)], ())))], ())), (false, ()))] : List ((List (List UInt8 × (List Int × (List Int × Unit))) × (List (List UInt8 × (List Int × (List Int × Unit))) × Unit)) × (Bool × Unit)))⟩
def aPB : Row := ⟨29, qZd, qZ9, ([(((.ofNat 0), ((.ofNat 200), ())), (([48], ([49], ())), ((.ofNat 0), ()))),
 (((.ofNat 0), ((.ofNat 100), ())), (([48], ([49], ())), ((.ofNat 0), ()))),
 (((.ofNat 300), ((.ofNat 100), ())), (([51], ([49], ())), ((.ofNat 0), ()))),
 (((.ofNat 400), ((.ofNat 100), ())), (([52], ([49], ())), ((.ofNat 0), ())))] : List ((Int × (Int × Unit)) × ((List UInt8 × (List UInt8 × Unit)) × (Int × Unit))))⟩
def aPA : Row := ⟨35, qZi, qZe, ([((((.ofNat 3000000000000), ((.ofNat 3000000000000), ())), ((.ofNat 1), ((.ofNat 2), ()))), (((.ofNat 1500000000000), ((.ofNat 1500000000000), ())), ((.ofNat 0), ())))] : List (((Int × (Int × Unit)) × (Int × (Int × Unit))) × ((Int × (Int × Unit)) × (Int × Unit))))⟩
def aPz : Row := ⟨78, qZa, (.pair qZu qZ3), ([((([49], ([49], ())), ()), ((([(.ofNat 1)], (false, ())), ([(.ofNat 1)], ())), (true, ()))),
 ((([51], ([50], ())), ()), ((([(.ofNat 3)], (false, ())), ([(.ofNat 2)], ())), (true, ()))),
 ((([50], ([49], ())), ()), ((([(.ofNat 2)], (false, ())), ([(.ofNat 1)], ())), (true, ()))),
 ((([53,48], ([49], ())), ()), ((([(.ofNat 50)], (false, ())), ([(.ofNat 1)], ())), (true, ()))),
 ((([48], ([49], ())), ()), ((([], (false, ())), ([(.ofNat 1)], ())), (true, ()))),
 ((([53,50], ([49], ())), ()), ((([(.ofNat 52)], (false, ())), ([(.ofNat 1)], ())), (true, ()))),
 ((([45,50], ([49], ())), ()), ((([(.ofNat 2)], (true, ())), ([(.ofNat 1)], ())), (true, ()))),
 ((([52,48], ([49], ())), ()), ((([(.ofNat 40)], (false, ())), ([(.ofNat 1)], ())), (true, ()))),
 ((([51], ([49], ())), ()), ((([(.ofNat 3)], (false, ())), ([(.ofNat 1)], ())), (true, ()))),
 ((([52], ([49], ())), ()), ((([(.ofNat 4)], (false, ())), ([(.ofNat 1)], ())), (true, ()))),
 ((([52,49], ([49], ())), ()), ((([(.ofNat 41)], (false, ())), ([(.ofNat 1)], ())), (true, ()))),
 ((([45,49], ([49], ())), ()), ((([(.ofNat 1)], (true, ())), ([(.ofNat 1)], ())), (true, ())))] : List (((List UInt8 × (List UInt8 × Unit)) × Unit) × (((List Int × (Bool × Unit)) × (List Int × Unit)) × (Bool × Unit))))⟩
def aPy : Row := ⟨95, qZ6, qZ9, ([(((.ofNat 2000000000000), ()), (([50], ([49], ())), ((.ofNat 0), ()))),
 (((.ofNat 1000000000000), ()), (([49], ([49], ())), ((.ofNat 0), ()))),
 (((.ofNat 1500000000000), ()), (([51], ([50], ())), ((.ofNat 0), ())))] : List ((Int × Unit) × ((List UInt8 × (List UInt8 × Unit)) × (Int × Unit))))⟩
def aMB : Row := ⟨145, qZu, qZs, ([((([(.ofNat 2)], (true, ())), ([(.ofNat 1)], ())), (([(.ofNat 2)], (true, ())), ()))] : List (((List Int × (Bool × Unit)) × (List Int × Unit)) × ((List Int × (Bool × Unit)) × Unit)))⟩
def aMA : Row := ⟨186, qZp, qZp, ([(([48], ((.ofNat 3000000000000), ())), ([57,48,48,48,48,48,48,48,48,48,48,48,48,48,48,48,48,48,48,48,48,48,48,48,48], ((.ofNat 0), ()))),
 (([57,48,48,48,48,48,48,48,48,48,48,48,48,48,48,48,48,48,48,48,48,48,48,48,48], ((.ofNat 4000000000000), ())), ([50,53,48,48,48,48,48,48,48,48,48,48,48,48,48,48,48,48,48,48,48,48,48,48,48,48], ((.ofNat 0), ())))] : List ((List UInt8 × (Int × Unit)) × (List UInt8 × (Int × Unit))))⟩
def aMz : Row := ⟨189, qZp, qZ09, ([(([50,53,48,48,48,48,48,48,48,48,48,48,48,48,48,48,48,48,48,48,48,48,48,48,48,48], ((.ofNat 2), ())), ([53,48,48,48,48,48,48,48,48,48,48,48,48], (true, ((.ofNat 0), ()))))] : List ((List UInt8 × (Int × Unit)) × (List UInt8 × (Bool × (Int × Unit)))))⟩
def aMy : Row := ⟨190, qZz, qZd, ([(([50,48,48,48,48,48,48,48,48,48,48,48,48], (false, ())), ((.ofNat 2000000000000), ((.ofNat 0), ()))),
 (([49,48,48,48,48,48,48,48,48,48,48,48,48], (false, ())), ((.ofNat 1000000000000), ((.ofNat 0), ())))] : List ((List UInt8 × (Bool × Unit)) × (Int × (Int × Unit))))⟩
def aMx : Row := ⟨235, qZp, qZp, ([(([48], ((.ofNat 2), ())), ([48], ((.ofNat 0), ()))),
 (([50,48,48,48,48,48,48,48,48,48,48,48,48], ((.ofNat 2), ())), ([52,48,48,48,48,48,48,48,48,48,48,48,48,48,48,48,48,48,48,48,48,48,48,48,48], ((.ofNat 0), ()))),
 (([49,48,48,48,48,48,48,48,48,48,48,48,48], ((.ofNat 2), ())), ([49,48,48,48,48,48,48,48,48,48,48,48,48,48,48,48,48,48,48,48,48,48,48,48,48], ((.ofNat 0), ())))] : List ((List UInt8 × (Int × Unit)) × (List UInt8 × (Int × Unit))))⟩
def aMw : Row := ⟨239, qZ7, qZd, ([(([48], ()), ((.ofNat 0), ((.ofNat 0), ())))] : List ((List UInt8 × Unit) × (Int × (Int × Unit))))⟩
def aMv : Row := ⟨280, qZ0a, qZt, ([(([(.ofNat 0), (.ofNat 0), (.ofNat 4000000)], ((.ofNat 2), ())), ([(.ofNat 0), (.ofNat 2000)], ()))] : List ((List Int × (Int × Unit)) × (List Int × Unit)))⟩
def aRj : List Row := [aPE, aPD, aPC, aPB, aPA, aPz, aPy, aMB, aMA, aMz, aMy, aMx, aMw, aMv]
theorem aK1 : aaF (aaG Tryz.prog acL 100000 aBw 40) [aPE] = true := by kernel_rfl
theorem aK0 : aaF (aaG Tryz.prog acL 100000 aBw 40) [aPD] = true := by kernel_rfl
theorem aKZ : aaF (aaG Tryz.prog acL 100000 aBw 40) [aPC] = true := by kernel_rfl
theorem aKY : aaF (aaG Tryz.prog acL 100000 aBw 40) [aPB] = true := by kernel_rfl
theorem aKX : aaF (aaG Tryz.prog acL 100000 aBw 40) [aPA] = true := by kernel_rfl
theorem aKW : aaF (aaG Tryz.prog acL 100000 aBw 40) [aPz] = true := by kernel_rfl
theorem aKV : aaF (aaG Tryz.prog acL 100000 aBw 40) [aPy] = true := by kernel_rfl
theorem aHe : aaF (aaG Tryz.prog acL 100000 aBw 40) [aMB] = true := by kernel_rfl
theorem aHd : aaF (aaG Tryz.prog acL 100000 aBw 40) [aMA] = true := by kernel_rfl
theorem aHc : aaF (aaG Tryz.prog acL 100000 aBw 40) [aMz] = true := by kernel_rfl
theorem aHb : aaF (aaG Tryz.prog acL 100000 aBw 40) [aMy] = true := by kernel_rfl
theorem aHa : aaF (aaG Tryz.prog acL 100000 aBw 40) [aMx] = true := by kernel_rfl
theorem aG9 : aaF (aaG Tryz.prog acL 100000 aBw 40) [aMw] = true := by kernel_rfl
theorem aG8 : aaF (aaG Tryz.prog acL 100000 aBw 40) [aMv] = true := by kernel_rfl
def aRF : aa4 := ahK (ajT aRj) aBw
theorem aOA : adP Tryz.prog (Gt Tryz.prog) aRF := agM amR amO afA aOB 100000 40 (aaA aK1 (aaA aK0 (aaA aKZ (aaA aKY (aaA aKX (aaA aKW (aaA aKV (aaA aHe (aaA aHd (aaA aHc (aaA aHb (aaA aHa (aaA aG9 (aaA aG8 (rfl)))))))))))))))
open Go Go.Proofs
set_option maxRecDepth 1000000
set_option maxHeartbeats 0
def aMu : Row := ⟨280, qZ0a, qZt, ([(([(.ofNat 0), (.ofNat 0), (.ofNat 1000000)], ((.ofNat 2), ())), ([(.ofNat 0), (.ofNat 1000)], ()))] : List ((List Int × (Int × Unit)) × (List Int × Unit)))⟩
def aRi : List Row := [aMu]
theorem aG7 : aaF (aaG Tryz.prog acL 100000 aRF 40) [aMu] = true := by kernel_rfl
def aF5 : aa4 := ahK (ajT aRi) aRF
theorem aOz : adP Tryz.prog (Gt Tryz.prog) aF5 := agM amR amO afA aOA 100000 40 (aaA aG7 (rfl))
open Go Go.Proofs
set_option maxRecDepth 1000000
set_option maxHeartbeats 0
def aPx : Row := ⟨46, qZa, qZd, ([((([49], ([49], ())), ()), ((.ofNat 1), ((.ofNat 0), ()))),
 ((([51], ([50], ())), ()), ((.ofNat 1), ((.ofNat 0), ()))),
 ((([50], ([49], ())), ()), ((.ofNat 1), ((.ofNat 0), ())))] : List (((List UInt8 × (List UInt8 × Unit)) × Unit) × (Int × (Int × Unit))))⟩
def aPw : Row := ⟨47, (.pair (.pair .str (.pair qZ5 (.pair (.arr 3 qZ4) .unit))) .unit), (.pair (.arr 3 qZ8) qZ6), ([((([97], ([(.ofNat 0)], ([(.ofNat 5000), (.ofNat 0), (.ofNat 0)], ()))), ()), ([([53,48], ([49], ())), ([48], ([49], ())), ([48], ([49], ()))], ((.ofNat 0), ()))),
 ((([97], ([(.ofNat 0)], ([(.ofNat 5200), (.ofNat 0), (.ofNat 0)], ()))), ()), ([([53,50], ([49], ())), ([48], ([49], ())), ([48], ([49], ()))], ((.ofNat 0), ()))),
 ((([98], ([(.ofNat 0)], ([(.ofNat 4000), (.ofNat 300), (.ofNat 400)], ()))), ()), ([([52,48], ([49], ())), ([51], ([49], ())), ([52], ([49], ()))], ((.ofNat 0), ()))),
 ((([98], ([(.ofNat 0)], ([(.ofNat 4100), (.ofNat 300), (.ofNat 400)], ()))), ()), ([([52,49], ([49], ())), ([51], ([49], ())), ([52], ([49], ()))], ((.ofNat 0), ())))] : List (((List UInt8 × (List Int × (List Int × Unit))) × Unit) × (List (List UInt8 × (List UInt8 × Unit)) × (Int × Unit))))⟩
def aPv : Row := ⟨55, qZk, qZ9, ([((((.ofNat 2000000000000), ((.ofNat 2000000000000), ())), ()), (([50], ([49], ())), ((.ofNat 0), ()))),
 ((((.ofNat 1000000000000), ((.ofNat 1000000000000), ())), ()), (([49], ([49], ())), ((.ofNat 0), ()))),
 ((((.ofNat 1500000000000), ((.ofNat 1500000000000), ())), ()), (([51], ([50], ())), ((.ofNat 0), ())))] : List (((Int × (Int × Unit)) × Unit) × ((List UInt8 × (List UInt8 × Unit)) × (Int × Unit))))⟩
def aPu : Row := ⟨56, qZk, qZ9, ([((((.ofNat 2000000000000), ((.ofNat 2000000000000), ())), ()), (([50], ([49], ())), ((.ofNat 0), ()))),
 ((((.ofNat 1000000000000), ((.ofNat 1000000000000), ())), ()), (([49], ([49], ())), ((.ofNat 0), ()))),
 ((((.ofNat 1500000000000), ((.ofNat 1500000000000), ())), ()), (([51], ([50], ())), ((.ofNat 0), ())))] : List (((Int × (Int × Unit)) × Unit) × ((List UInt8 × (List UInt8 × Unit)) × (Int × Unit))))⟩
def aPt : Row := ⟨57, qZb, qZd, ([((([50], ([49], ())), (([50], ([49], ())), ())), ((.ofNat 0), ((.ofNat 0), ()))),
 ((([49], ([49], ())), (([50], ([49], ())), ())), ((.negSucc 0), ((.ofNat 0), ()))),
 ((([51], ([50], ())), (([51], ([50], ())), ())), ((.ofNat 0), ((.ofNat 0), ()))),
 ((([50], ([49], ())), (([49], ([49], ())), ())), ((.ofNat 1), ((.ofNat 0), ()))),
 ((([49], ([49], ())), (([49], ([49], ())), ())), ((.ofNat 0), ((.ofNat 0), ()))),
 ((([51], ([50], ())), (([49], ([49], ())), ())), ((.ofNat 1), ((.ofNat 0), ())))] : List (((List UInt8 × (List UInt8 × Unit)) × ((List UInt8 × (List UInt8 × Unit)) × Unit)) × (Int × (Int × Unit))))⟩
def aMt : Row := ⟨129, qZ02, qZe, ([(([((.ofNat 3000000000000), ((.ofNat 3000000000000), ())), ((.ofNat 4000000000000), ((.ofNat 4000000000000), ()))], ()), (((.ofNat 5000000000000), ((.ofNat 5000000000000), ())), ((.ofNat 0), ())))] : List ((List (Int × (Int × Unit)) × Unit) × ((Int × (Int × Unit)) × (Int × Unit))))⟩
def aMs : Row := ⟨139, qZa, qZk, ([((([48], ([49], ())), ()), (((.ofNat 0), ((.ofNat 0), ())), ())),
 ((([51], ([49], ())), ()), (((.ofNat 3000000000000), ((.ofNat 3000000000000), ())), ())),
 ((([52], ([49], ())), ()), (((.ofNat 4000000000000), ((.ofNat 4000000000000), ())), ()))] : List (((List UInt8 × (List UInt8 × Unit)) × Unit) × ((Int × (Int × Unit)) × Unit)))⟩
def aMr : Row := ⟨182, qZb, qZ9, ([((([48], ([49], ())), (([48], ([49], ())), ())), (([48], ([49], ())), ((.ofNat 0), ())))] : List (((List UInt8 × (List UInt8 × Unit)) × ((List UInt8 × (List UInt8 × Unit)) × Unit)) × ((List UInt8 × (List UInt8 × Unit)) × (Int × Unit))))⟩
def aMq : Row := ⟨186, qZp, qZp, ([(([48], ((.ofNat 0), ())), ([48], ((.ofNat 0), ()))),
 (([48], ((.ofNat 2000000000000), ())), ([52,48,48,48,48,48,48,48,48,48,48,48,48,48,48,48,48,48,48,48,48,48,48,48,48], ((.ofNat 0), ()))),
 (([52,48,48,48,48,48,48,48,48,48,48,48,48,48,48,48,48,48,48,48,48,48,48,48,48], ((.ofNat 0), ())), ([52,48,48,48,48,48,48,48,48,48,48,48,48,48,48,48,48,48,48,48,48,48,48,48,48], ((.ofNat 0), ()))),
 (([48], ((.ofNat 1000000000000), ())), ([49,48,48,48,48,48,48,48,48,48,48,48,48,48,48,48,48,48,48,48,48,48,48,48,48], ((.ofNat 0), ()))),
 (([49,48,48,48,48,48,48,48,48,48,48,48,48,48,48,48,48,48,48,48,48,48,48,48,48], ((.ofNat 0), ())), ([49,48,48,48,48,48,48,48,48,48,48,48,48,48,48,48,48,48,48,48,48,48,48,48,48], ((.ofNat 0), ())))] : List ((List UInt8 × (Int × Unit)) × (List UInt8 × (Int × Unit))))⟩
def aMp : Row := ⟨189, qZp, qZ09, ([(([48], ((.ofNat 2), ())), ([48], (true, ((.ofNat 0), ())))),
 (([52,48,48,48,48,48,48,48,48,48,48,48,48,48,48,48,48,48,48,48,48,48,48,48,48], ((.ofNat 2), ())), ([50,48,48,48,48,48,48,48,48,48,48,48,48], (true, ((.ofNat 0), ())))),
 (([49,48,48,48,48,48,48,48,48,48,48,48,48,48,48,48,48,48,48,48,48,48,48,48,48], ((.ofNat 2), ())), ([49,48,48,48,48,48,48,48,48,48,48,48,48], (true, ((.ofNat 0), ()))))] : List ((List UInt8 × (Int × Unit)) × (List UInt8 × (Bool × (Int × Unit)))))⟩
def aRh : List Row := [aPx, aPw, aPv, aPu, aPt, aMt, aMs, aMr, aMq, aMp]
theorem aKU : aaF (aaG Tryz.prog acL 100000 aF5 40) [aPx] = true := by kernel_rfl
theorem aKT : aaF (aaG Tryz.prog acL 100000 aF5 40) [aPw] = true := by kernel_rfl
theorem aKS : aaF (aaG Tryz.prog acL 100000 aF5 40) [aPv] = true := by kernel_rfl
theorem aKR : aaF (aaG Tryz.prog acL 100000 aF5 40) [aPu] = true := by kernel_rfl
theorem aKQ : aaF (aaG Tryz.prog acL 100000 aF5 40) [aPt] = true := by kernel_rfl
theorem aG6 : aaF (aaG Tryz.prog acL 100000 aF5 40) [aMt] = true := by kernel_rfl
theorem aG5 : aaF (aaG Tryz.prog acL 100000 aF5 40) [aMs] = true := by kernel_rfl
theorem aG4 : aaF (aaG Tryz.prog acL 100000 aF5 40) [aMr] = true := by kernel_rfl
theorem aG3 : aaF (aaG Tryz.prog acL 100000 aF5 40) [aMq] = true := by kernel_rfl
theorem aG2 : aaF (aaG Tryz.prog acL 100000 aF5 40) [aMp] = true := by kernel_rfl
def aQm : aa4 := ahK (ajT aRh) aF5
theorem aOy : adP Tryz.prog (Gt Tryz.prog) aQm := agM amR amO afA aOz 100000 40 (aaA aKU (aaA aKT (aaA aKS (aaA aKR (aaA aKQ (aaA aG6 (aaA aG5 (aaA aG4 (aaA aG3 (aaA aG2 (rfl)))))))))))
open Go Go.Proofs
set_option maxRecDepth 1000000
set_option maxHeartbeats 0
def aPs : Row := ⟨36, (.pair qZd qZa), qZj, ([((((.ofNat 2000000000000), ((.ofNat 2000000000000), ())), (([50], ([49], ())), ())), (false, (false, ((.ofNat 0), ())))),
 ((((.ofNat 1000000000000), ((.ofNat 1000000000000), ())), (([50], ([49], ())), ())), (false, (false, ((.ofNat 0), ())))),
 ((((.ofNat 1500000000000), ((.ofNat 1500000000000), ())), (([51], ([50], ())), ())), (false, (false, ((.ofNat 0), ()))))] : List (((Int × (Int × Unit)) × ((List UInt8 × (List UInt8 × Unit)) × Unit)) × (Bool × (Bool × (Int × Unit)))))⟩
def aPr : Row := ⟨84, (.pair qZ4 (.pair (.arr 3 qZ8) (.pair (.arr 3 qZ8) qZb))), qZk, ([(((.ofNat 1), ([([52,48], ([49], ())), ([51], ([49], ())), ([52], ([49], ()))], ([([52,49], ([49], ())), ([51], ([49], ())), ([52], ([49], ()))], (([49], ([49], ())), (([49], ([49], ())), ()))))), (((.ofNat 1000000000000), ((.ofNat 1000000000000), ())), ()))] : List ((Int × (List (List UInt8 × (List UInt8 × Unit)) × (List (List UInt8 × (List UInt8 × Unit)) × ((List UInt8 × (List UInt8 × Unit)) × ((List UInt8 × (List UInt8 × Unit)) × Unit))))) × ((Int × (Int × Unit)) × Unit)))⟩
def aMo : Row := ⟨129, qZ02, qZe, ([(([((.ofNat 0), ((.ofNat 0), ())), ((.ofNat 0), ((.ofNat 0), ()))], ()), (((.ofNat 0), ((.ofNat 0), ())), ((.ofNat 0), ())))] : List ((List (Int × (Int × Unit)) × Unit) × ((Int × (Int × Unit)) × (Int × Unit))))⟩
def aRg : List Row := [aPs, aPr, aMo]
theorem aKP : aaF (aaG Tryz.prog acL 100000 aQm 40) [aPs] = true := by kernel_rfl
theorem aKO : aaF (aaG Tryz.prog acL 100000 aQm 40) [aPr] = true := by kernel_rfl
theorem aG1 : aaF (aaG Tryz.prog acL 100000 aQm 40) [aMo] = true := by kernel_rfl
def aQQ : aa4 := ahK (ajT aRg) aQm
theorem aOx : adP Tryz.prog (Gt Tryz.prog) aQQ := agM amR amO afA aOy 100000 40 (aaA aKP (aaA aKO (aaA aG1 (rfl))))
open Go Go.Proofs
set_option maxRecDepth 1000000
set_option maxHeartbeats 0
def aPq : Row := ⟨48, (.pair qZ4 (.pair (.arr 3 qZ8) (.pair (.arr 3 qZ8) qZb))), qZe, ([(((.ofNat 1), ([([52,48], ([49], ())), ([51], ([49], ())), ([52], ([49], ()))], ([([52,49], ([49], ())), ([51], ([49], ())), ([52], ([49], ()))], (([49], ([49], ())), (([49], ([49], ())), ()))))), (((.ofNat 1000000000000), ((.ofNat 1000000000000), ())), ((.ofNat 0), ())))] : List ((Int × (List (List UInt8 × (List UInt8 × Unit)) × (List (List UInt8 × (List UInt8 × Unit)) × ((List UInt8 × (List UInt8 × Unit)) × ((List UInt8 × (List UInt8 × Unit)) × Unit))))) × ((Int × (Int × Unit)) × (Int × Unit))))⟩
def aPp : Row := ⟨84, (.pair qZ4 (.pair (.arr 3 qZ8) (.pair (.arr 3 qZ8) qZb))), qZk, ([(((.ofNat 1), ([([53,48], ([49], ())), ([48], ([49], ())), ([48], ([49], ()))], ([([53,50], ([49], ())), ([48], ([49], ())), ([48], ([49], ()))], (([49], ([49], ())), (([49], ([49], ())), ()))))), (((.ofNat 2000000000000), ((.ofNat 2000000000000), ())), ()))] : List ((Int × (List (List UInt8 × (List UInt8 × Unit)) × (List (List UInt8 × (List UInt8 × Unit)) × ((List UInt8 × (List UInt8 × Unit)) × ((List UInt8 × (List UInt8 × Unit)) × Unit))))) × ((Int × (Int × Unit)) × Unit)))⟩
def aRf : List Row := [aPq, aPp]
theorem aKN : aaF (aaG Tryz.prog acL 100000 aQQ 40) [aPq] = true := by kernel_rfl
theorem aKM : aaF (aaG Tryz.prog acL 100000 aQQ 40) [aPp] = true := by kernel_rfl
def aRE : aa4 := ahK (ajT aRf) aQQ
theorem aOw : adP Tryz.prog (Gt Tryz.prog) aRE := agM amR amO afA aOx 100000 40 (aaA aKN (aaA aKM (rfl)))
open Go Go.Proofs
set_option maxRecDepth 1000000
set_option maxHeartbeats 0
def aPo : Row := ⟨48, (.pair qZ4 (.pair (.arr 3 qZ8) (.pair (.arr 3 qZ8) qZb))), qZe, ([(((.ofNat 1), ([([53,48], ([49], ())), ([48], ([49], ())), ([48], ([49], ()))], ([([53,50], ([49], ())), ([48], ([49], ())), ([48], ([49], ()))], (([49], ([49], ())), (([49], ([49], ())), ()))))), (((.ofNat 2000000000000), ((.ofNat 2000000000000), ())), ((.ofNat 0), ())))] : List ((Int × (List (List UInt8 × (List UInt8 × Unit)) × (List (List UInt8 × (List UInt8 × Unit)) × ((List UInt8 × (List UInt8 × Unit)) × ((List UInt8 × (List UInt8 × Unit)) × Unit))))) × ((Int × (Int × Unit)) × (Int × Unit))))⟩
def aRe : List Row := [aPo]
theorem aKL : aaF (aaG Tryz.prog acL 100000 aRE 40) [aPo] = true := by kernel_rfl
def aRD : aa4 := ahK (ajT aRe) aRE
theorem aOv : adP Tryz.prog (Gt Tryz.prog) aRD := agM amR amO afA aOw 100000 40 (aaA aKL (rfl))
open Go Go.Proofs
set_option maxRecDepth 1000000
set_option maxHeartbeats 0
theorem aNM : aaF (aaG Tryz.prog acL 100000 aRD 40) [⟨4, .unit, .pair .bool .unit, ([((), (true, ()))] : List (Unit × Bool × Unit))⟩] = true := by kernel_rfl
theorem top_at : At Tryz.prog (Gt Tryz.prog) 4 .unit qZ3 () (true, ()) := by
 have h := aNM
 rw [(aBP (P := Tryz.prog) (sig := acL) 100000 aRD 40).1] at h
 exact (aBQ amR amO aOv afA 100000 40).1 _ _ _ _ _ (aCi (anZ h _ zG) () (true, ()) zG)
end Go.Vg
