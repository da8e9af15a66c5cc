/-
  A runner over the evaluator, and calls that have been run. Own work; no condition.
-/
import Derived.Test.YtebeijpmpjpgcaaGreatDoorClR6
import Derived.Test.YtebeijpmpjpgcaaGreatDoorProg
import Derived.KernelRfl
set_option linter.unusedVariables false
set_option linter.unusedSimpArgs false
namespace Go.Vg
open Go
abbrev qZ0 : Ty := .int .u8
abbrev qZ1 : Ty := .int .i16
abbrev qZ2 : Ty := .pair .bool .unit
abbrev qZ3 : Ty := .pair qZ0 (.pair (.sl (.int .u16)) (.pair (.sl (.pair qZ0 (.pair qZ1 (.pair qZ1 (.pair qZ1 (.pair qZ0 (.pair qZ0 .unit))))))) (.pair .bool qZ2)))
abbrev qZ4 : Ty := .pair (.sl qZ0) (.pair qZ0 (.pair (.sl (.int .u16)) qZ2))
abbrev qZ5 : Ty := .pair (.pair qZ0 (.pair qZ0 (.pair (.sl (.pair qZ0 (.pair qZ1 .unit))) .unit))) .unit
abbrev qZ6 : Ty := .int .i64
abbrev qZ7 : Ty := .pair qZ6 .unit
abbrev qZ8 : Ty := .sl qZ6
abbrev qZ9 : Ty := .pair qZ6 qZ7
abbrev qZa : Ty := .pair qZ6 (.pair qZ6 (.pair qZ6 (.pair qZ6 qZ9)))
abbrev qZb : Ty := .pair qZ6 (.pair qZ8 (.pair (.sl qZa) .unit))
abbrev qZc : Ty := .pair qZ8 .unit
abbrev qZd : Ty := .pair qZ8 (.pair qZ6 qZc)
abbrev qZe : Ty := .pair (.sl qZ9) qZ9
abbrev qZf : Ty := .pair qZ6 (.pair (.sl qZb) (.pair (.sl qZ8) (.pair qZ8 (.pair qZd qZe))))
abbrev qZg : Ty := .pair qZf .unit
abbrev qZh : Ty := .pair .str .unit
abbrev qZi : Ty := .pair .str qZh
abbrev qZj : Ty := .pair qZi .unit
abbrev qZk : Ty := .pair (.sl qZi) .unit
abbrev qZl : Ty := .pair (.sl qZi) qZ7
abbrev qZm : Ty := .pair qZi qZj
abbrev qZn : Ty := .pair qZi qZ7
abbrev qZo : Ty := .pair (.sl qZ9) .unit
abbrev qZp : Ty := .pair (.sl qZ9) qZ7
abbrev qZq : Ty := .pair qZb .unit
abbrev qZr : Ty := .pair qZd .unit
abbrev qZs : Ty := .pair qZg qZk
abbrev qZt : Ty := .pair (.pair .bool qZc) .unit
abbrev qZu : Ty := .pair (.pair .bool qZc) qZt
abbrev qZv : Ty := .pair qZu .unit
abbrev qZw : Ty := .pair qZ9 .unit
abbrev qZx : Ty := .pair qZg qZo
abbrev qZy : Ty := .pair qZ8 qZ7
abbrev qZz : Ty := .sl (.int .u32)
abbrev qZ00 : Ty := .pair qZz qZ2
abbrev qZ01 : Ty := .pair qZz .unit
abbrev qZ02 : Ty := .pair qZ00 qZ01
abbrev qZ03 : Ty := .pair .str qZ7
abbrev qZ04 : Ty := .pair qZ9 qZ7
abbrev qZ05 : Ty := .pair qZ9 qZw
abbrev qZ06 : Ty := .pair qZ00 .unit
abbrev qZ07 : Ty := .pair qZz qZ01
abbrev qZ08 : Ty := .pair qZq qZj
abbrev qZ09 : Ty := .pair qZ02 .unit
abbrev qZ0a : Ty := .pair qZ02 qZ09
abbrev qZ0b : Ty := .pair qZd (.pair qZ8 (.pair qZ8 qZk))
abbrev qZ0c : Ty := .pair qZ8 qZc
abbrev qZ0d : Ty := .pair qZ6 qZ2
abbrev qZ0e : Ty := .pair .str qZ2
abbrev qZ0f : Ty := .pair (.int .u64) .unit
abbrev qZ0g : Ty := .pair (.int .u32) .unit
abbrev qZ0h : Ty := .pair (.int .u32) qZ0g
abbrev qZ0i : Ty := .pair qZ00 qZ06
abbrev qZ0j : Ty := .pair (.int .u64) qZ0f
abbrev qZ0k : Ty := .pair qZz qZ0g
def afX : Sig := [
 (2, (.unit, .unit)),
 (3, ((.pair (.pair qZ0 (.pair qZ0 (.pair (.arr 4 qZ3) (.pair (.arr 4 (.arr 4 qZ1)) (.pair (.arr 4 qZ1) (.pair qZ4 qZ5)))))) (.pair (.pair qZ0 (.pair qZ0 (.pair (.arr 4 qZ3) (.pair (.arr 4 (.arr 4 qZ1)) (.pair (.arr 4 qZ1) (.pair qZ4 qZ5)))))) (.pair qZ0 (.pair (.arr 4 qZ1) .unit)))), qZ2)),
 (4, ((.pair qZ0 (.pair (.arr 4 qZ1) .unit)), qZ2)),
 (5, (.unit, qZ2)),
 (6, ((.pair (.pair qZ0 (.pair qZ0 (.pair (.arr 4 qZ3) (.pair (.arr 4 (.arr 4 qZ1)) (.pair (.arr 4 qZ1) (.pair qZ4 qZ5)))))) qZ7), qZg)),
 (7, (qZ9, qZj)),
 (8, ((.pair qZf qZk), qZl)),
 (9, (qZm, qZn)),
 (10, ((.pair qZf (.pair (.sl qZi) qZk)), qZ2)),
 (11, (qZg, qZ2)),
 (12, (qZg, qZ9)),
 (13, (.unit, qZg)),
 (14, ((.pair qZf qZo), qZp)),
 (16, ((.pair (.sl qZ9) qZo), qZ2)),
 (17, (qZg, qZ7)),
 (18, ((.pair qZ3 .unit), qZq)),
 (19, ((.pair qZ4 (.pair (.sl qZ0) qZ7)), qZr)),
 (20, (qZ5, qZo)),
 (21, (qZ5, qZ7)),
 (22, (qZ9, qZn)),
 (24, (qZj, qZ7)),
 (25, (qZs, qZl)),
 (26, (qZs, qZl)),
 (27, (qZs, qZl)),
 (28, (qZs, qZl)),
 (29, (qZj, qZ2)),
 (30, (qZv, qZn)),
 (31, ((.pair qZu qZv), qZv)),
 (32, (qZj, qZv)),
 (33, ((.pair (.sl qZi) qZk), qZ2)),
 (35, (qZq, qZ2)),
 (36, (qZq, qZ2)),
 (38, (qZw, qZ7)),
 (39, (qZx, qZp)),
 (40, (qZx, qZp)),
 (41, (qZx, qZp)),
 (42, (qZx, qZp)),
 (43, ((.pair (.sl qZb) .unit), qZ2)),
 (44, ((.pair (.sl qZ8) qZc), qZ2)),
 (45, (qZr, qZ7)),
 (46, (qZe, qZ7)),
 (47, ((.pair qZ3 .unit), qZq)),
 (48, ((.pair qZ3 .unit), qZq)),
 (49, ((.pair qZ4 qZy), qZr)),
 (50, (qZ7, qZ7)),
 (51, (qZ5, qZ7)),
 (52, (qZ9, qZv)),
 (53, (qZg, qZ9)),
 (54, (qZj, (.pair qZ02 qZ2))),
 (57, ((.pair qZb qZj), qZn)),
 (59, (qZ7, qZn)),
 (60, (qZm, qZn)),
 (61, (qZm, qZn)),
 (62, ((.pair qZd qZk), qZl)),
 (63, ((.pair (.sl qZ9) qZl), qZl)),
 (64, (qZh, qZ2)),
 (65, (qZh, qZt)),
 (66, (qZt, qZh)),
 (67, (qZu, qZt)),
 (68, (qZt, qZ03)),
 (69, (qZu, qZt)),
 (70, (qZu, qZt)),
 (71, (qZu, qZv)),
 (73, (qZq, qZ7)),
 (75, (qZ9, qZ2)),
 (78, ((.pair qZb qZw), qZ04)),
 (80, (qZ7, qZ04)),
 (81, (qZ05, qZ04)),
 (82, (qZ05, qZ04)),
 (83, ((.pair qZd qZo), qZp)),
 (84, ((.pair (.sl qZ9) qZp), qZp)),
 (85, (qZq, qZ2)),
 (87, (qZ7, qZ2)),
 (88, ((.pair qZ6 qZ9), qZ2)),
 (89, (qZc, qZ7)),
 (90, (qZe, qZ9)),
 (91, (qZ9, qZ2)),
 (92, (qZc, qZ7)),
 (93, (qZy, qZc)),
 (94, (qZ7, qZt)),
 (95, (qZh, qZ7)),
 (96, (qZh, qZ06)),
 (97, (qZ06, qZ7)),
 (98, (qZ07, qZ01)),
 (99, (qZ07, qZ7)),
 (100, (qZ08, qZn)),
 (101, (qZ08, qZn)),
 (102, (qZ08, qZn)),
 (103, (qZj, qZj)),
 (108, (qZ9, qZn)),
 (109, ((.pair qZ02 qZ7), qZn)),
 (111, (qZ0a, qZ09)),
 (112, (qZ0a, qZ09)),
 (113, ((.pair qZd qZk), (.pair qZ0b qZ7))),
 (114, ((.pair qZ0b .unit), qZl)),
 (117, ((.pair .bool qZc), qZt)),
 (118, (qZ7, qZh)),
 (119, (qZ0c, qZ0c)),
 (120, (qZ0c, qZc)),
 (121, (qZ0c, qZ7)),
 (122, (qZ0c, qZc)),
 (123, (qZ0c, qZc)),
 (124, (qZt, qZt)),
 (125, (qZu, qZu)),
 (126, (qZc, qZ2)),
 (127, (qZq, qZ2)),
 (129, ((.pair qZ9 qZ9), qZ04)),
 (130, ((.pair qZq qZw), qZ04)),
 (131, ((.pair qZq qZw), qZ04)),
 (132, ((.pair qZq qZw), qZ04)),
 (137, (qZj, qZ04)),
 (141, ((.pair qZ6 qZ0d), qZ0d)),
 (142, ((.pair qZ6 (.pair qZ6 qZ0d)), qZ0d)),
 (144, (qZ9, qZ04)),
 (145, (qZr, (.pair qZ8 qZy))),
 (148, (qZ9, qZj)),
 (149, (qZr, (.pair (.sl qZ8) qZ7))),
 (151, ((.pair qZ8 qZk), qZn)),
 (152, ((.pair qZi (.pair qZi qZm)), qZ04)),
 (158, (qZ7, qZ0d)),
 (159, ((.pair qZ9 qZ9), qZ2)),
 (160, (qZh, (.pair qZ00 qZ2))),
 (161, (qZi, qZ0e)),
 (162, (qZh, qZ01)),
 (163, (qZ01, qZ2)),
 (164, (qZ01, qZ0f)),
 (165, (qZ0f, qZ01)),
 (166, (qZ07, qZ07)),
 (167, (qZ9, qZ7)),
 (168, (qZ0h, qZ7)),
 (169, (qZ7, qZj)),
 (170, (qZj, qZ03)),
 (173, (qZm, qZn)),
 (174, (qZm, qZn)),
 (175, (qZm, qZ9)),
 (176, (qZ9, qZj)),
 (177, ((.pair (.pair qZa qZ0d) qZj), qZn)),
 (178, (qZj, qZ9)),
 (181, (qZm, qZ7)),
 (182, (qZi, qZn)),
 (183, (qZ7, qZh)),
 (184, (qZ09, qZn)),
 (185, (qZ00, qZ06)),
 (186, (qZ07, qZ01)),
 (187, (qZ02, qZ06)),
 (188, (qZ0i, qZ06)),
 (189, ((.pair qZd qZk), (.pair qZ0b qZ7))),
 (190, ((.pair qZ0b (.pair (.arr 4 qZ6) .unit)), qZy)),
 (195, (qZ7, qZj)),
 (196, (qZk, qZn)),
 (197, (qZ7, qZn)),
 (199, (qZm, qZn)),
 (200, (qZm, qZn)),
 (202, (qZj, qZn)),
 (203, (qZj, qZn)),
 (204, (qZk, qZn)),
 (205, (qZj, qZn)),
 (206, ((.pair qZi qZm), qZn)),
 (212, (qZc, qZc)),
 (213, (qZy, qZy)),
 (214, (qZu, qZt)),
 (215, ((.pair qZ6 qZ9), qZ2)),
 (216, ((.pair (.pair qZa qZ0d) .unit), qZ2)),
 (218, (qZk, qZ04)),
 (219, ((.pair (.pair qZa qZ0d) qZ9), qZ04)),
 (220, (qZo, qZ04)),
 (221, (qZn, qZ9)),
 (222, (qZc, qZ7)),
 (223, (qZc, qZ7)),
 (224, (qZ0j, qZ0j)),
 (225, (qZ7, qZ0f)),
 (226, ((.pair (.int .u64) qZ0j), qZ0j)),
 (229, (qZ9, qZ2)),
 (230, (qZ9, qZ2)),
 (233, (qZ05, qZ04)),
 (234, (qZ9, qZ04)),
 (235, (qZ7, qZ04)),
 (237, (qZ05, qZ04)),
 (238, (qZ05, qZ04)),
 (239, (qZ05, qZ04)),
 (241, (qZw, qZ04)),
 (242, (qZw, qZ04)),
 (243, (qZo, qZ04)),
 (244, (qZw, qZ04)),
 (250, (qZh, qZ01)),
 (251, (qZi, qZ0e)),
 (252, (qZ01, qZ01)),
 (253, (qZ0k, qZ0k)),
 (255, (qZ7, qZ2)),
 (256, (qZ0g, qZ2)),
 (257, (qZ02, qZ06)),
 (258, (qZ06, qZh)),
 (261, (qZ0a, qZ09)),
 (262, (qZ09, qZ09)),
 (264, (qZ0a, qZ7)),
 (265, (qZ02, qZ09)),
 (266, (qZ7, qZh)),
 (267, (qZ01, qZ7)),
 (268, (qZ01, qZh)),
 (269, (qZ07, qZ01)),
 (270, (qZ07, qZ01)),
 (272, (qZn, (.pair qZ6 qZn))),
 (275, ((.pair qZd qZc), qZy)),
 (278, (qZ0a, qZ09)),
 (279, (qZ0a, qZ09)),
 (281, (qZ09, qZ09)),
 (283, (qZk, qZ7)),
 (284, ((.pair qZ9 qZ9), qZ04)),
 (285, (qZh, qZ9)),
 (286, ((.pair qZ02 qZ01), qZ06)),
 (287, (qZc, qZ7)),
 (288, (qZc, qZ7)),
 (289, (qZ0f, qZ7)),
 (290, (qZc, qZc)),
 (291, ((.pair qZr (.pair (.arr 4 qZ6) .unit)), qZc)),
 (294, ((.pair qZ6 qZ05), qZ04)),
 (301, (qZo, qZ7)),
 (302, (qZ01, qZ01)),
 (303, (qZi, qZ2)),
 (309, (qZ06, qZ06)),
 (310, (qZ7, qZh)),
 (316, ((.pair qZr qZc), (.pair (.arr 4 qZ6) qZ2))),
 (317, (qZw, qZ2)),
 (319, ((.pair qZw qZ0d), qZ9)),
 (321, (qZ0f, qZ7)),
 (322, ((.pair qZr (.pair (.arr 4 qZ6) .unit)), qZ7)),
 (326, (qZh, qZh)),
 (328, (qZ9, qZh)),
 (332, (qZ03, qZ03)),
 (333, (qZi, qZ03)),
 (334, (qZ7, qZh)),
 (335, (qZi, (.pair .str qZ03))),
 (336, (qZ03, (.pair .str (.pair .bool qZ7)))),
 (337, (qZ0e, qZ9)),
 (338, ((.pair qZ0 .unit), (.pair qZ0 .unit))),
 (339, (qZh, qZ2)),
 (340, (qZ7, qZh)),
 (341, (qZ0f, qZ7)),
 (342, ((.pair (.sl qZ0) qZ0f), .unit)),
 (343, ((.pair (.sl qZ0) (.pair (.int .u64) (.pair qZ6 (.pair .bool qZ2)))), (.pair (.sl qZ0) qZh))),
 (346, (qZ06, qZ03)),
 (347, (qZ00, qZ06)),
 (348, ((.pair qZz qZ7), qZ01)),
 (349, ((.pair qZ6 qZi), qZ03)),
 (350, (qZ03, qZh)),
 (351, (qZi, (.pair qZ00 (.pair qZ00 qZ7)))),
 (352, (qZ01, qZ2)),
 (353, (qZ07, qZ07)),
 (354, (qZ07, qZ01)),
 (355, (qZ07, qZ01)),
 (356, (qZ03, qZ03)),
 (357, (qZ7, qZ7)),
 (358, (qZ2, qZ7)),
 (359, (qZ7, qZ2)),
 (360, (qZ0f, qZ7)),
 (362, (qZ01, qZ7)),
 (363, (qZ01, qZh)),
 (364, (qZ07, qZ01)),
 (365, (qZ0i, qZ06)),
 (366, (qZ0i, qZ06)),
 (367, (qZ0i, qZ06)),
 (368, (qZ0i, qZ06)),
 (369, (qZ0j, qZ0j)),
 (370, (qZi, qZ2)),
 (373, (qZ07, qZ7)),
 (374, (qZ0k, qZ0k)),
 (375, (qZ0f, qZ01)),
 (377, ((.pair qZz qZ7), qZ01)),
 (378, (qZ0g, qZ7)),
 (379, (qZ0f, qZ7)),
 (381, (qZ06, qZ06)),
 (382, (qZ07, qZ01)),
 (383, (qZ0h, qZ0h)),
 (385, (qZ7, qZ01)),
 (386, (qZ01, qZ0f)),
 (416, (.unit, .unit))]
open Go Go.Proofs
set_option maxRecDepth 1000000
theorem an5 : adG (Gt Tryz.prog) := aJQ (by kernel_rfl)
theorem an1 : Tryz.prog.follows .mixedOrders = true := by kernel_rfl
def awW (P : Program) : Sig → Bool
 | [] => true
 | x :: r => match ac1 P x.1 with
  | true => awW P r
  | false => false
theorem aoD {P : Program} : ∀ {s : Sig}, awW P s = true → ∀ x ∈ s, ac1 P x.1 = true
 | [], _, _, h => by cases h
 | q :: r, hc, x, h => by
  simp only [awW] at hc
  split at hc
  ·rename_i hq
   rcases zo.1 h with e | h
   ·rw [e]; exact hq
   ·exact aoD hc x h
  ·cases hc
theorem agT : ∀ x ∈ afX, ac1 Tryz.prog x.1 = true := aoD (by kernel_rfl)
def apA : abO := aHb 266 350
theorem aMg : aeY Tryz.prog (Gt Tryz.prog) apA :=
 aOc 266 350 (by kernel_rfl) (by kernel_rfl) (fun n h0 h1 w h => Tryz.strconv_Itoa n h0 h1 w h) (fun s c w h1 h2 => Tryz.strings_Repeat s c w h1 h2)
open Go Go.Proofs
set_option maxRecDepth 1000000
set_option maxHeartbeats 0
def aNC : Row := ⟨17, qZg, qZ7, ([((((.ofNat 2), ([], ([[(.ofNat 500000), (.ofNat 500000)], [(.ofNat 1000000), (.negSucc 999999)]], ([(.ofNat 0), (.ofNat 250000)], (([], ((.ofNat 0), ([], ()))), ([], ((.ofNat 0), ((.ofNat 0), ())))))))), ()), ((.ofNat 0), ()))] : List (((Int × (List (Int × (List Int × (List (Int × (Int × (Int × (Int × (Int × (Int × Unit)))))) × Unit))) × (List (List Int) × (List Int × ((List Int × (Int × (List Int × Unit))) × (List (Int × (Int × Unit)) × (Int × (Int × Unit)))))))) × Unit) × (Int × Unit)))⟩
def aNB : Row := ⟨68, qZt, qZ03, ([(((false, ([(.ofNat 1)], ())), ()), ([49], ((.ofNat 0), ()))),
 (((false, ([(.ofNat 2)], ())), ()), ([50], ((.ofNat 0), ()))),
 (((false, ([(.ofNat 3)], ())), ()), ([51], ((.ofNat 0), ())))] : List (((Bool × (List Int × Unit)) × Unit) × (List UInt8 × (Int × Unit))))⟩
def aNA : Row := ⟨73, qZq, qZ7, ([((((.ofNat 2), ([(.ofNat 65535), (.ofNat 0)], ([], ()))), ()), ((.ofNat 0), ()))] : List (((Int × (List Int × (List (Int × (Int × (Int × (Int × (Int × (Int × Unit)))))) × Unit))) × Unit) × (Int × Unit)))⟩
def aNz : Row := ⟨94, qZ7, qZt, ([(((.ofNat 1), ()), ((false, ([(.ofNat 1)], ())), ())),
 (((.ofNat 2), ()), ((false, ([(.ofNat 2)], ())), ())),
 (((.ofNat 3), ()), ((false, ([(.ofNat 3)], ())), ()))] : List ((Int × Unit) × ((Bool × (List Int × Unit)) × Unit)))⟩
def aNx : Row := ⟨98, qZ07, qZ01, ([(([], ([(.ofNat 1)], ())), ([(.ofNat 1)], ())),
 (([(.ofNat 1)], ([(.ofNat 2)], ())), ([(.ofNat 1)], ())),
 (([(.ofNat 1)], ([(.ofNat 4)], ())), ([(.ofNat 1)], ())),
 (([(.ofNat 1000000)], ([(.ofNat 1000000)], ())), ([(.ofNat 1000000)], ())),
 (([(.ofNat 1)], ([(.ofNat 1)], ())), ([(.ofNat 1)], ())),
 (([(.ofNat 3)], ([(.ofNat 4)], ())), ([(.ofNat 1)], ())),
 (([(.ofNat 1)], ([(.ofNat 3)], ())), ([(.ofNat 1)], ())),
 (([(.ofNat 65535)], ([(.ofNat 1)], ())), ([(.ofNat 1)], ())),
 (([(.ofNat 43690)], ([(.ofNat 1)], ())), ([(.ofNat 1)], ()))] : List ((List Int × (List Int × Unit)) × (List Int × Unit)))⟩
def aNw : Row := ⟨99, qZ07, qZ7, ([(([(.ofNat 3)], ([(.ofNat 1)], ())), ((.ofNat 1), ())),
 (([(.ofNat 1)], ([(.ofNat 3)], ())), ((.negSucc 0), ())),
 (([(.ofNat 65535)], ([(.ofNat 21845)], ())), ((.ofNat 1), ()))] : List ((List Int × (List Int × Unit)) × (Int × Unit)))⟩
def aKZ : Row := ⟨119, qZ0c, qZ0c, ([(([(.ofNat 2)], ([(.ofNat 1)], ())), ([(.ofNat 2)], ([], ()))),
 (([(.ofNat 4)], ([(.ofNat 1)], ())), ([(.ofNat 4)], ([], ()))),
 (([(.ofNat 3)], ([(.ofNat 2)], ())), ([(.ofNat 1)], ([(.ofNat 1)], ()))),
 (([(.ofNat 3)], ([(.ofNat 1)], ())), ([(.ofNat 3)], ([], ())))] : List ((List Int × (List Int × Unit)) × (List Int × (List Int × Unit))))⟩
def aKY : Row := ⟨125, qZu, qZu, ([(((false, ([(.ofNat 1)], ())), ((false, ([(.ofNat 1)], ())), ())), ((false, ([(.ofNat 1)], ())), ((false, ([], ())), ())))] : List (((Bool × (List Int × Unit)) × ((Bool × (List Int × Unit)) × Unit)) × ((Bool × (List Int × Unit)) × ((Bool × (List Int × Unit)) × Unit))))⟩
def aKX : Row := ⟨161, qZi, qZ0e, ([(([48], ([45], ())), ([48], (false, ()))),
 (([49,48,48,48,48,48,48], ([45], ())), ([49,48,48,48,48,48,48], (false, ()))),
 (([49], ([45], ())), ([49], (false, ()))),
 (([49,48,48,48,48,48,48,48,48,48,48,48,48], ([45], ())), ([49,48,48,48,48,48,48,48,48,48,48,48,48], (false, ()))),
 (([53,48,48,48,48,48], ([45], ())), ([53,48,48,48,48,48], (false, ()))),
 (([50], ([45], ())), ([50], (false, ()))),
 (([53,48,48,48,48,48,48,48,48,48,48,48], ([45], ())), ([53,48,48,48,48,48,48,48,48,48,48,48], (false, ()))),
 (([50,53,48,48,48,48], ([45], ())), ([50,53,48,48,48,48], (false, ()))),
 (([52], ([45], ())), ([52], (false, ()))),
 (([50,53,48,48,48,48,48,48,48,48,48,48], ([45], ())), ([50,53,48,48,48,48,48,48,48,48,48,48], (false, ()))),
 (([45,49,48,48,48,48,48,48], ([45], ())), ([49,48,48,48,48,48,48], (true, ()))),
 (([45,49], ([45], ())), ([49], (true, ()))),
 (([45,49,48,48,48,48,48,48,48,48,48,48,48,48], ([45], ())), ([49,48,48,48,48,48,48,48,48,48,48,48,48], (true, ()))),
 (([56], ([45], ())), ([56], (false, ()))),
 (([51], ([45], ())), ([51], (false, ()))),
 (([45,54,53,53,51,53], ([45], ())), ([54,53,53,51,53], (true, ()))),
 (([54,53,53,51,53], ([45], ())), ([54,53,53,51,53], (false, ()))),
 (([45,50,49,56,52,53], ([45], ())), ([50,49,56,52,53], (true, ()))),
 (([52,51,54,57,48], ([45], ())), ([52,51,54,57,48], (false, ())))] : List ((List UInt8 × (List UInt8 × Unit)) × (List UInt8 × (Bool × Unit))))⟩
def aKW : Row := ⟨162, qZh, qZ01, ([(([49,48,48,48,48,48,48], ()), ([(.ofNat 1000000)], ())),
 (([49], ()), ([(.ofNat 1)], ())),
 (([49,48,48,48,48,48,48,48,48,48,48,48,48], ()), ([(.ofNat 0), (.ofNat 1000)], ())),
 (([54,53,53,51,53], ()), ([(.ofNat 65535)], ()))] : List ((List UInt8 × Unit) × (List Int × Unit)))⟩
def aKV : Row := ⟨164, qZ01, qZ0f, ([(([(.ofNat 0), (.ofNat 1000)], ()), ((.ofNat 1000000000000), ()))] : List ((List Int × Unit) × (Int × Unit)))⟩
def aKU : Row := ⟨165, qZ0f, qZ01, ([(((.ofNat 1000000000000), ()), ([(.ofNat 0), (.ofNat 1000)], ()))] : List ((Int × Unit) × (List Int × Unit)))⟩
def aKT : Row := ⟨166, qZ07, qZ07, ([(([(.ofNat 1000000)], ([(.ofNat 1000000)], ())), ([(.ofNat 1)], ([], ()))),
 (([(.ofNat 1)], ([(.ofNat 1)], ())), ([(.ofNat 1)], ([], ()))),
 (([(.ofNat 2)], ([(.ofNat 1)], ())), ([(.ofNat 2)], ([], ()))),
 (([(.ofNat 4)], ([(.ofNat 1)], ())), ([(.ofNat 4)], ([], ()))),
 (([(.ofNat 4)], ([(.ofNat 4)], ())), ([(.ofNat 1)], ([], ()))),
 (([(.ofNat 2)], ([(.ofNat 2)], ())), ([(.ofNat 1)], ([], ()))),
 (([(.ofNat 4)], ([(.ofNat 2)], ())), ([(.ofNat 2)], ([], ()))),
 (([(.ofNat 65535)], ([(.ofNat 1)], ())), ([(.ofNat 65535)], ([], ())))] : List ((List Int × (List Int × Unit)) × (List Int × (List Int × Unit))))⟩
def aKS : Row := ⟨186, qZ07, qZ01, ([(([(.ofNat 0), (.ofNat 1000)], ([(.ofNat 999000)], ())), ([(.ofNat 0), (.ofNat 999000000)], ())),
 (([(.ofNat 0), (.ofNat 500)], ([(.ofNat 1996007)], ())), ([(.ofNat 0), (.ofNat 998003500)], ())),
 (([(.ofNat 0), (.ofNat 250)], ([(.ofNat 3984063)], ())), ([(.ofNat 0), (.ofNat 996015750)], ())),
 (([(.ofNat 1)], ([(.ofNat 1)], ())), ([(.ofNat 1)], ())),
 (([(.ofNat 21845)], ([(.ofNat 1)], ())), ([(.ofNat 21845)], ()))] : List ((List Int × (List Int × Unit)) × (List Int × Unit)))⟩
def aKR : Row := ⟨187, qZ02, qZ06, ([((([], (false, ())), ([(.ofNat 1)], ())), (([], (false, ())), ())),
 ((([], (false, ())), ([(.ofNat 3)], ())), (([], (false, ())), ()))] : List (((List Int × (Bool × Unit)) × (List Int × Unit)) × ((List Int × (Bool × Unit)) × Unit)))⟩
def aKQ : Row := ⟨188, qZ0i, qZ06, ([((([], (false, ())), (([(.ofNat 1)], (false, ())), ())), (([(.ofNat 1)], (false, ())), ())),
 ((([(.ofNat 1)], (false, ())), (([], (false, ())), ())), (([(.ofNat 1)], (false, ())), ()))] : List (((List Int × (Bool × Unit)) × ((List Int × (Bool × Unit)) × Unit)) × ((List Int × (Bool × Unit)) × Unit)))⟩
def aKP : Row := ⟨224, qZ0j, qZ0j, ([(((.ofNat 500000000000), ((.ofNat 0), ())), ((.ofNat 0), ((.ofNat 0), ()))),
 (((.ofNat 500000000000), ((.ofNat 1000000000000), ())), ((.ofNat 27105), ((.ofNat 1001882102603448320), ()))),
 (((.ofNat 1000000000000), ((.ofNat 0), ())), ((.ofNat 0), ((.ofNat 0), ()))),
 (((.ofNat 1000000000000), ((.ofNat 1000000000000), ())), ((.ofNat 54210), ((.ofNat 2003764205206896640), ())))] : List ((Int × (Int × Unit)) × (Int × (Int × Unit))))⟩
def aKO : Row := ⟨226, (.pair (.int .u64) qZ0j), qZ0j, ([(((.ofNat 27105), ((.ofNat 1001882102603448320), ((.ofNat 1000000000000), ()))), ((.ofNat 500000000000), ((.ofNat 0), ()))),
 (((.ofNat 54210), ((.ofNat 2003764205206896640), ((.ofNat 1000000000000), ()))), ((.ofNat 1000000000000), ((.ofNat 0), ())))] : List ((Int × (Int × (Int × Unit))) × (Int × (Int × Unit))))⟩
def aKN : Row := ⟨250, qZh, qZ01, ([(([49,48,48,48,48,48,48], ()), ([(.ofNat 1000000)], ())),
 (([49], ()), ([(.ofNat 1)], ())),
 (([49,48,48,48,48,48,48,48,48,48,48,48,48], ()), ([(.ofNat 0), (.ofNat 1000)], ())),
 (([54,53,53,51,53], ()), ([(.ofNat 65535)], ()))] : List ((List UInt8 × Unit) × (List Int × Unit)))⟩
def aKM : Row := ⟨252, qZ01, qZ01, ([(([(.ofNat 0), (.ofNat 2000), (.ofNat 0)], ()), ([(.ofNat 0), (.ofNat 2000)], ())),
 (([(.ofNat 0), (.ofNat 0)], ()), ([], ())),
 (([(.ofNat 2), (.ofNat 0)], ()), ([(.ofNat 2)], ())),
 (([(.ofNat 4), (.ofNat 0)], ()), ([(.ofNat 4)], ())),
 (([(.ofNat 8), (.ofNat 0)], ()), ([(.ofNat 8)], ())),
 (([(.ofNat 3), (.ofNat 0)], ()), ([(.ofNat 3)], ()))] : List ((List Int × Unit) × (List Int × Unit)))⟩
def aKL : Row := ⟨268, qZ01, qZh, ([(([(.ofNat 1)], ()), ([49], ())),
 (([(.ofNat 2)], ()), ([50], ())),
 (([(.ofNat 4)], ()), ([52], ())),
 (([(.ofNat 0), (.ofNat 1000)], ()), ([49,48,48,48,48,48,48,48,48,48,48,48,48], ())),
 (([(.ofNat 8)], ()), ([56], ())),
 (([(.ofNat 3)], ()), ([51], ())),
 (([(.ofNat 65535)], ()), ([54,53,53,51,53], ()))] : List ((List Int × Unit) × (List UInt8 × Unit)))⟩
def aKK : Row := ⟨270, qZ07, qZ01, ([(([(.ofNat 1)], ([(.ofNat 1)], ())), ([], ())),
 (([(.ofNat 3)], ([(.ofNat 1)], ())), ([(.ofNat 2)], ()))] : List ((List Int × (List Int × Unit)) × (List Int × Unit)))⟩
def aPy : List Row := [aNC, aNB, aNA, aNz, aNx, aNw, aKZ, aKY, aKX, aKW, aKV, aKU, aKT, aKS, aKR, aKQ, aKP, aKO, aKN, aKM, aKL, aKK]
theorem aJf : aa9 (abF Tryz.prog afX 100000 apA 40) [aNC] = true := by kernel_rfl
theorem aJe : aa9 (abF Tryz.prog afX 100000 apA 40) [aNB] = true := by kernel_rfl
theorem aJd : aa9 (abF Tryz.prog afX 100000 apA 40) [aNA] = true := by kernel_rfl
theorem aJc : aa9 (abF Tryz.prog afX 100000 apA 40) [aNz] = true := by kernel_rfl
theorem aJb : aa9 (abF Tryz.prog afX 100000 apA 40) [aNx] = true := by kernel_rfl
theorem aJa : aa9 (abF Tryz.prog afX 100000 apA 40) [aNw] = true := by kernel_rfl
theorem aF9 : aa9 (abF Tryz.prog afX 100000 apA 40) [aKZ] = true := by kernel_rfl
theorem aF8 : aa9 (abF Tryz.prog afX 100000 apA 40) [aKY] = true := by kernel_rfl
theorem aF7 : aa9 (abF Tryz.prog afX 100000 apA 40) [aKX] = true := by kernel_rfl
theorem aF6 : aa9 (abF Tryz.prog afX 100000 apA 40) [aKW] = true := by kernel_rfl
theorem aF5 : aa9 (abF Tryz.prog afX 100000 apA 40) [aKV] = true := by kernel_rfl
theorem aF4 : aa9 (abF Tryz.prog afX 100000 apA 40) [aKU] = true := by kernel_rfl
theorem aF3 : aa9 (abF Tryz.prog afX 100000 apA 40) [aKT] = true := by kernel_rfl
theorem aF2 : aa9 (abF Tryz.prog afX 100000 apA 40) [aKS] = true := by kernel_rfl
theorem aF1 : aa9 (abF Tryz.prog afX 100000 apA 40) [aKR] = true := by kernel_rfl
theorem aF0 : aa9 (abF Tryz.prog afX 100000 apA 40) [aKQ] = true := by kernel_rfl
theorem aFZ : aa9 (abF Tryz.prog afX 100000 apA 40) [aKP] = true := by kernel_rfl
theorem aFY : aa9 (abF Tryz.prog afX 100000 apA 40) [aKO] = true := by kernel_rfl
theorem aFX : aa9 (abF Tryz.prog afX 100000 apA 40) [aKN] = true := by kernel_rfl
theorem aFW : aa9 (abF Tryz.prog afX 100000 apA 40) [aKM] = true := by kernel_rfl
theorem aFV : aa9 (abF Tryz.prog afX 100000 apA 40) [aKL] = true := by kernel_rfl
theorem aFU : aa9 (abF Tryz.prog afX 100000 apA 40) [aKK] = true := by kernel_rfl
theorem aaF {pf : abO} {r : Row} {rs : List Row} (h1 : aa9 pf [r] = true) (h2 : aa9 pf rs = true) : aa9 pf (r :: rs) = true := by
 simp only [aa9] at h1 ⊢
 split at h1
 ·exact h2
 ·cases h1
def aEU : abO := aj9 (aoB aPy) apA
theorem aMf : aeY Tryz.prog (Gt Tryz.prog) aEU := alV an5 an1 agT aMg 100000 40 (aaF aJf (aaF aJe (aaF aJd (aaF aJc (aaF aJb (aaF aJa (aaF aF9 (aaF aF8 (aaF aF7 (aaF aF6 (aaF aF5 (aaF aF4 (aaF aF3 (aaF aF2 (aaF aF1 (aaF aF0 (aaF aFZ (aaF aFY (aaF aFX (aaF aFW (aaF aFV (aaF aFU (rfl)))))))))))))))))))))))
open Go Go.Proofs
set_option maxRecDepth 1000000
set_option maxHeartbeats 0
def aNv : Row := ⟨95, qZh, qZ7, ([(([48], ()), ((.ofNat 0), ())),
 (([49,48,48,48,48,48,48], ()), ((.ofNat 0), ())),
 (([49], ()), ((.ofNat 0), ())),
 (([49,48,48,48,48,48,48,48,48,48,48,48,48], ()), ((.ofNat 0), ())),
 (([53,48,48,48,48,48,48,48,48,48,48,48], ()), ((.ofNat 0), ())),
 (([52], ()), ((.ofNat 0), ())),
 (([50,53,48,48,48,48,48,48,48,48,48,48], ()), ((.ofNat 0), ())),
 (([45,49], ()), ((.ofNat 0), ())),
 (([45,49,48,48,48,48,48,48,48,48,48,48,48,48], ()), ((.ofNat 0), ())),
 (([51], ()), ((.ofNat 0), ())),
 (([45,54,53,53,51,53], ()), ((.ofNat 0), ())),
 (([54,53,53,51,53], ()), ((.ofNat 0), ()))] : List ((List UInt8 × Unit) × (Int × Unit)))⟩
def aNu : Row := ⟨96, qZh, qZ06, ([(([48], ()), (([], (false, ())), ())),
 (([52], ()), (([(.ofNat 4)], (false, ())), ())),
 (([51], ()), (([(.ofNat 3)], (false, ())), ()))] : List ((List UInt8 × Unit) × ((List Int × (Bool × Unit)) × Unit)))⟩
def aNt : Row := ⟨98, qZ07, qZ01, ([(([(.ofNat 0), (.ofNat 1000)], ([(.ofNat 0), (.ofNat 1000)], ())), ([(.ofNat 0), (.ofNat 1000)], ()))] : List ((List Int × (List Int × Unit)) × (List Int × Unit)))⟩
def aKJ : Row := ⟨109, (.pair qZ02 qZ7), qZn, ([(((([(.ofNat 1)], (false, ())), ([(.ofNat 3)], ())), ((.ofNat 0), ())), (([49], ([51], ())), ((.ofNat 0), ())))] : List ((((List Int × (Bool × Unit)) × (List Int × Unit)) × (Int × Unit)) × ((List UInt8 × (List UInt8 × Unit)) × (Int × Unit))))⟩
def aKI : Row := ⟨125, qZu, qZu, ([(((false, ([(.ofNat 2)], ())), ((false, ([(.ofNat 1)], ())), ())), ((false, ([(.ofNat 2)], ())), ((false, ([], ())), ()))),
 (((false, ([(.ofNat 3)], ())), ((false, ([(.ofNat 1)], ())), ())), ((false, ([(.ofNat 3)], ())), ((false, ([], ())), ())))] : List (((Bool × (List Int × Unit)) × ((Bool × (List Int × Unit)) × Unit)) × ((Bool × (List Int × Unit)) × ((Bool × (List Int × Unit)) × Unit))))⟩
def aKH : Row := ⟨141, (.pair qZ6 qZ0d), qZ0d, ([(((.ofNat 500000000000), ((.ofNat 0), (false, ()))), ((.ofNat 0), (true, ()))),
 (((.ofNat 500000000000), ((.ofNat 0), (true, ()))), ((.ofNat 0), (true, ()))),
 (((.ofNat 500000000000), ((.ofNat 1000000000000), (false, ()))), ((.ofNat 500000000000), (true, ()))),
 (((.ofNat 500000000000), ((.ofNat 1000000000000), (true, ()))), ((.ofNat 500000000000), (true, ()))),
 (((.ofNat 1000000000000), ((.ofNat 0), (false, ()))), ((.ofNat 0), (true, ()))),
 (((.ofNat 1000000000000), ((.ofNat 0), (true, ()))), ((.ofNat 0), (true, ()))),
 (((.ofNat 1000000000000), ((.ofNat 1000000000000), (false, ()))), ((.ofNat 1000000000000), (true, ()))),
 (((.ofNat 1000000000000), ((.ofNat 1000000000000), (true, ()))), ((.ofNat 1000000000000), (true, ()))),
 (((.negSucc 999999999999), ((.ofNat 1000000000000), (false, ()))), ((.negSucc 999999999999), (true, ()))),
 (((.negSucc 999999999999), ((.ofNat 1000000000000), (true, ()))), ((.negSucc 999999999999), (true, ())))] : List ((Int × (Int × (Bool × Unit))) × (Int × (Bool × Unit))))⟩
def aKG : Row := ⟨166, qZ07, qZ07, ([(([(.ofNat 0), (.ofNat 1000)], ([(.ofNat 0), (.ofNat 1000)], ())), ([(.ofNat 1)], ([], ()))),
 (([(.ofNat 3)], ([(.ofNat 1)], ())), ([(.ofNat 3)], ([], ())))] : List ((List Int × (List Int × Unit)) × (List Int × (List Int × Unit))))⟩
def aKF : Row := ⟨184, qZ09, qZn, ([(((([], (false, ())), ([(.ofNat 1)], ())), ()), (([48], ([49], ())), ((.ofNat 0), ()))),
 (((([(.ofNat 1)], (false, ())), ([(.ofNat 2)], ())), ()), (([49], ([50], ())), ((.ofNat 0), ()))),
 (((([(.ofNat 1)], (false, ())), ([(.ofNat 4)], ())), ()), (([49], ([52], ())), ((.ofNat 0), ()))),
 (((([(.ofNat 1)], (false, ())), ([(.ofNat 1)], ())), ()), (([49], ([49], ())), ((.ofNat 0), ()))),
 (((([(.ofNat 1)], (true, ())), ([(.ofNat 1)], ())), ()), (([45,49], ([49], ())), ((.ofNat 0), ())))] : List ((((List Int × (Bool × Unit)) × (List Int × Unit)) × Unit) × ((List UInt8 × (List UInt8 × Unit)) × (Int × Unit))))⟩
def aKE : Row := ⟨186, qZ07, qZ01, ([(([(.ofNat 0), (.ofNat 1000)], ([(.ofNat 2)], ())), ([(.ofNat 0), (.ofNat 2000)], ())),
 (([(.ofNat 1)], ([(.ofNat 2)], ())), ([(.ofNat 2)], ())),
 (([(.ofNat 1)], ([(.ofNat 0), (.ofNat 2000)], ())), ([(.ofNat 0), (.ofNat 2000)], ())),
 (([(.ofNat 2)], ([(.ofNat 2)], ())), ([(.ofNat 4)], ())),
 (([(.ofNat 1)], ([(.ofNat 4)], ())), ([(.ofNat 4)], ())),
 (([(.ofNat 3)], ([(.ofNat 1)], ())), ([(.ofNat 3)], ())),
 (([(.ofNat 1)], ([(.ofNat 3)], ())), ([(.ofNat 3)], ()))] : List ((List Int × (List Int × Unit)) × (List Int × Unit)))⟩
def aKD : Row := ⟨187, qZ02, qZ06, ([((([(.ofNat 1)], (true, ())), ([(.ofNat 1)], ())), (([(.ofNat 1)], (true, ())), ()))] : List (((List Int × (Bool × Unit)) × (List Int × Unit)) × ((List Int × (Bool × Unit)) × Unit)))⟩
def aPx : List Row := [aNv, aNu, aNt, aKJ, aKI, aKH, aKG, aKF, aKE, aKD]
theorem aI9 : aa9 (abF Tryz.prog afX 100000 aEU 40) [aNv] = true := by kernel_rfl
theorem aI8 : aa9 (abF Tryz.prog afX 100000 aEU 40) [aNu] = true := by kernel_rfl
theorem aI7 : aa9 (abF Tryz.prog afX 100000 aEU 40) [aNt] = true := by kernel_rfl
theorem aFT : aa9 (abF Tryz.prog afX 100000 aEU 40) [aKJ] = true := by kernel_rfl
theorem aFS : aa9 (abF Tryz.prog afX 100000 aEU 40) [aKI] = true := by kernel_rfl
theorem aFR : aa9 (abF Tryz.prog afX 100000 aEU 40) [aKH] = true := by kernel_rfl
theorem aFQ : aa9 (abF Tryz.prog afX 100000 aEU 40) [aKG] = true := by kernel_rfl
theorem aFP : aa9 (abF Tryz.prog afX 100000 aEU 40) [aKF] = true := by kernel_rfl
theorem aFO : aa9 (abF Tryz.prog afX 100000 aEU 40) [aKE] = true := by kernel_rfl
theorem aFN : aa9 (abF Tryz.prog afX 100000 aEU 40) [aKD] = true := by kernel_rfl
def aMX : abO := aj9 (aoB aPx) aEU
theorem aMe : aeY Tryz.prog (Gt Tryz.prog) aMX := alV an5 an1 agT aMf 100000 40 (aaF aI9 (aaF aI8 (aaF aI7 (aaF aFT (aaF aFS (aaF aFR (aaF aFQ (aaF aFP (aaF aFO (aaF aFN (rfl)))))))))))
open Go Go.Proofs
set_option maxRecDepth 1000000
set_option maxHeartbeats 0
def aQk : Row := ⟨7, qZ9, qZj, ([(((.ofNat 1), ((.ofNat 2), ())), (([49], ([50], ())), ())),
 (((.ofNat 1), ((.ofNat 3), ())), (([49], ([51], ())), ()))] : List ((Int × (Int × Unit)) × ((List UInt8 × (List UInt8 × Unit)) × Unit)))⟩
def aNs : Row := ⟨54, qZj, (.pair qZ02 qZ2), ([((([48], ([49], ())), ()), ((([], (false, ())), ([(.ofNat 1)], ())), (true, ()))),
 ((([49], ([50], ())), ()), ((([(.ofNat 1)], (false, ())), ([(.ofNat 2)], ())), (true, ()))),
 ((([49], ([52], ())), ()), ((([(.ofNat 1)], (false, ())), ([(.ofNat 4)], ())), (true, ()))),
 ((([49], ([49], ())), ()), ((([(.ofNat 1)], (false, ())), ([(.ofNat 1)], ())), (true, ()))),
 ((([45,49], ([49], ())), ()), ((([(.ofNat 1)], (true, ())), ([(.ofNat 1)], ())), (true, ()))),
 ((([49], ([51], ())), ()), ((([(.ofNat 1)], (false, ())), ([(.ofNat 3)], ())), (true, ()))),
 ((([54,53,53,51,53], ([49], ())), ()), ((([(.ofNat 65535)], (false, ())), ([(.ofNat 1)], ())), (true, ())))] : List (((List UInt8 × (List UInt8 × Unit)) × Unit) × (((List Int × (Bool × Unit)) × (List Int × Unit)) × (Bool × Unit))))⟩
def aNr : Row := ⟨59, qZ7, qZn, ([(((.ofNat 0), ()), (([48], ([49], ())), ((.ofNat 0), ()))),
 (((.ofNat 500000), ()), (([49], ([50], ())), ((.ofNat 0), ()))),
 (((.ofNat 250000), ()), (([49], ([52], ())), ((.ofNat 0), ()))),
 (((.ofNat 1000000), ()), (([49], ([49], ())), ((.ofNat 0), ()))),
 (((.negSucc 999999), ()), (([45,49], ([49], ())), ((.ofNat 0), ())))] : List ((Int × Unit) × ((List UInt8 × (List UInt8 × Unit)) × (Int × Unit))))⟩
def aKC : Row := ⟨169, qZ7, qZj, ([(((.ofNat 0), ()), (([48], ([49], ())), ())),
 (((.ofNat 1), ()), (([49], ([49], ())), ())),
 (((.ofNat 65535), ()), (([54,53,53,51,53], ([49], ())), ()))] : List ((Int × Unit) × ((List UInt8 × (List UInt8 × Unit)) × Unit)))⟩
def aPw : List Row := [aQk, aNs, aNr, aKC]
theorem aLP : aa9 (abF Tryz.prog afX 100000 aMX 40) [aQk] = true := by kernel_rfl
theorem aI6 : aa9 (abF Tryz.prog afX 100000 aMX 40) [aNs] = true := by kernel_rfl
theorem aI5 : aa9 (abF Tryz.prog afX 100000 aMX 40) [aNr] = true := by kernel_rfl
theorem aFM : aa9 (abF Tryz.prog afX 100000 aMX 40) [aKC] = true := by kernel_rfl
def aMW : abO := aj9 (aoB aPw) aMX
theorem aMd : aeY Tryz.prog (Gt Tryz.prog) aMW := alV an5 an1 agT aMe 100000 40 (aaF aLP (aaF aI6 (aaF aI5 (aaF aFM (rfl)))))
open Go Go.Proofs
set_option maxRecDepth 1000000
set_option maxHeartbeats 0
def aNq : Row := ⟨26, qZs, qZl, ([(((((.ofNat 2), ([], ([[(.ofNat 500000), (.ofNat 500000)], [(.ofNat 1000000), (.negSucc 999999)]], ([(.ofNat 0), (.ofNat 250000)], (([], ((.ofNat 0), ([], ()))), ([], ((.ofNat 0), ((.ofNat 0), ())))))))), ()), ([([49], ([50], ())), ([49], ([52], ()))], ())), ([([51], ([56], ())), ([49], ([50], ()))], ((.ofNat 0), ())))] : List ((((Int × (List (Int × (List Int × (List (Int × (Int × (Int × (Int × (Int × (Int × Unit)))))) × Unit))) × (List (List Int) × (List Int × ((List Int × (Int × (List Int × Unit))) × (List (Int × (Int × Unit)) × (Int × (Int × Unit)))))))) × Unit) × (List (List UInt8 × (List UInt8 × Unit)) × Unit)) × (List (List UInt8 × (List UInt8 × Unit)) × (Int × Unit))))⟩
def aNp : Row := ⟨80, qZ7, qZ04, ([(((.ofNat 500000), ()), (((.ofNat 500000000000), ((.ofNat 500000000000), ())), ((.ofNat 0), ())))] : List ((Int × Unit) × ((Int × (Int × Unit)) × (Int × Unit))))⟩
def aKB : Row := ⟨101, qZ08, qZn, ([(((((.ofNat 2), ([(.ofNat 65535), (.ofNat 0)], ([], ()))), ()), (([49], ([51], ())), ())), (([50], ([51], ())), ((.ofNat 0), ())))] : List ((((Int × (List Int × (List (Int × (Int × (Int × (Int × (Int × (Int × Unit)))))) × Unit))) × Unit) × ((List UInt8 × (List UInt8 × Unit)) × Unit)) × ((List UInt8 × (List UInt8 × Unit)) × (Int × Unit))))⟩
def aKA : Row := ⟨103, qZj, qZj, ([((([49], ([51], ())), ()), (([49], ([51], ())), ()))] : List (((List UInt8 × (List UInt8 × Unit)) × Unit) × ((List UInt8 × (List UInt8 × Unit)) × Unit)))⟩
def aPv : List Row := [aNq, aNp, aKB, aKA]
theorem aI4 : aa9 (abF Tryz.prog afX 100000 aMW 40) [aNq] = true := by kernel_rfl
theorem aI3 : aa9 (abF Tryz.prog afX 100000 aMW 40) [aNp] = true := by kernel_rfl
theorem aFL : aa9 (abF Tryz.prog afX 100000 aMW 40) [aKB] = true := by kernel_rfl
theorem aFK : aa9 (abF Tryz.prog afX 100000 aMW 40) [aKA] = true := by kernel_rfl
def aP4 : abO := aj9 (aoB aPv) aMW
theorem aMc : aeY Tryz.prog (Gt Tryz.prog) aP4 := alV an5 an1 agT aMd 100000 40 (aaF aI4 (aaF aI3 (aaF aFL (aaF aFK (rfl)))))
open Go Go.Proofs
set_option maxRecDepth 1000000
set_option maxHeartbeats 0
def aNo : Row := ⟨40, qZx, qZp, ([(((((.ofNat 2), ([], ([[(.ofNat 500000), (.ofNat 500000)], [(.ofNat 1000000), (.negSucc 999999)]], ([(.ofNat 0), (.ofNat 250000)], (([], ((.ofNat 0), ([], ()))), ([], ((.ofNat 0), ((.ofNat 0), ())))))))), ()), ([((.ofNat 0), ((.ofNat 1000000000000), ())), ((.ofNat 1000000000000), ((.ofNat 1000000000000), ()))], ())), ([((.ofNat 500000000000), ((.ofNat 1000000000000), ())), ((.negSucc 749999999999), ((.ofNat 250000000000), ()))], ((.ofNat 0), ())))] : List ((((Int × (List (Int × (List Int × (List (Int × (Int × (Int × (Int × (Int × (Int × Unit)))))) × Unit))) × (List (List Int) × (List Int × ((List Int × (Int × (List Int × Unit))) × (List (Int × (Int × Unit)) × (Int × (Int × Unit)))))))) × Unit) × (List (Int × (Int × Unit)) × Unit)) × (List (Int × (Int × Unit)) × (Int × Unit))))⟩
def aPu : List Row := [aNo]
theorem aI2 : aa9 (abF Tryz.prog afX 100000 aP4 40) [aNo] = true := by kernel_rfl
def aMb : abO := aj9 (aoB aPu) aP4
theorem aBB : aeY Tryz.prog (Gt Tryz.prog) aMb := alV an5 an1 agT aMc 100000 40 (aaF aI2 (rfl))
open Go Go.Proofs
set_option maxRecDepth 1000000
set_option maxHeartbeats 0
theorem aLw : aa9 (abF Tryz.prog afX 100000 aMb 40) [⟨5, .unit, .pair .bool .unit, ([((), (true, ()))] : List (Unit × Bool × Unit))⟩] = true := by kernel_rfl
theorem top_at : At Tryz.prog (Gt Tryz.prog) 5 .unit qZ2 () (true, ()) := by
 have h := aLw
 rw [(apW (P := Tryz.prog) (sig := afX) 100000 aMb 40).1] at h
 exact (apX an5 an1 aBB agT 100000 40).1 _ _ _ _ _ (aqG (ag8 h _ zv) () (true, ()) zv)
end Go.Vg
