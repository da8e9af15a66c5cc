/-
  A runner over the evaluator, and calls that have been run. Own work; no condition.
-/
import Derived.Test.YtlmjbmgabddkiaaGreatDoorClR6
import Derived.Test.YtlmjbmgabddkiaaGreatDoorProg
import Derived.KernelRfl
set_option linter.unusedVariables false
set_option linter.unusedSimpArgs false
namespace Go.Vg
open Go
abbrev qZ0 : Ty := .int .u16
abbrev qZ1 : Ty := .pair (.int .u8) .unit
abbrev qZ2 : Ty := .pair (.int .i16) qZ1
abbrev qZ3 : Ty := .pair qZ0 (.pair qZ0 (.pair qZ0 (.pair qZ2 (.pair (.sl qZ2) .unit))))
abbrev qZ4 : Ty := .int .i64
abbrev qZ5 : Ty := .pair .str .unit
abbrev qZ6 : Ty := .pair .str qZ5
abbrev qZ7 : Ty := .pair qZ6 .unit
abbrev qZ8 : Ty := .pair (.int .u8) (.pair qZ4 qZ7)
abbrev qZ9 : Ty := .pair .bool .unit
abbrev qZa : Ty := .pair (.sl qZ6) .unit
abbrev qZb : Ty := .pair qZ4 (.pair qZ4 (.pair qZ6 (.pair qZ6 qZa)))
abbrev qZc : Ty := .pair qZb .unit
abbrev qZd : Ty := .pair qZ4 .unit
abbrev qZe : Ty := .pair .str qZd
abbrev qZf : Ty := .pair qZb qZc
abbrev qZg : Ty := .pair qZb qZd
abbrev qZh : Ty := .pair qZ4 qZd
abbrev qZi : Ty := .pair qZ6 qZ7
abbrev qZj : Ty := .sl qZ4
abbrev qZk : Ty := .pair qZ4 qZh
abbrev qZl : Ty := .pair qZ4 (.pair qZ4 (.pair qZ4 qZk))
abbrev qZm : Ty := .pair qZ4 (.pair qZj (.pair (.sl qZl) .unit))
abbrev qZn : Ty := .pair qZj .unit
abbrev qZo : Ty := .pair qZj (.pair qZ4 qZn)
abbrev qZp : Ty := .pair (.sl qZh) qZh
abbrev qZq : Ty := .pair qZ4 (.pair (.sl qZm) (.pair (.sl qZj) (.pair qZj (.pair qZo qZp))))
abbrev qZr : Ty := .pair qZ4 (.pair (.sl qZq) .unit)
abbrev qZs : Ty := .pair qZr (.pair qZr qZd)
abbrev qZt : Ty := .pair qZr .unit
abbrev qZu : Ty := .pair (.sl .str) .unit
abbrev qZv : Ty := .pair qZ6 qZd
abbrev qZw : Ty := .sl (.int .u32)
abbrev qZx : Ty := .pair qZw qZ9
abbrev qZy : Ty := .pair qZw .unit
abbrev qZz : Ty := .pair qZx qZy
abbrev qZ00 : Ty := .pair qZx .unit
abbrev qZ01 : Ty := .pair .bool qZn
abbrev qZ02 : Ty := .pair qZ01 .unit
abbrev qZ03 : Ty := .pair qZ01 qZ02
abbrev qZ04 : Ty := .pair qZ03 .unit
abbrev qZ05 : Ty := .pair qZ03 qZ04
abbrev qZ06 : Ty := .pair qZz .unit
abbrev qZ07 : Ty := .pair qZz qZ06
abbrev qZ08 : Ty := .pair (.sl qZ6) qZd
abbrev qZ09 : Ty := .pair qZw qZy
abbrev qZ0a : Ty := .pair (.int .u64) .unit
abbrev qZ0b : Ty := .pair (.int .u64) qZ0a
abbrev qZ0c : Ty := .pair qZj qZn
abbrev qZ0d : Ty := .pair (.int .u32) .unit
abbrev qZ0e : Ty := .pair (.int .u32) qZ0d
abbrev qZ0f : Ty := .pair qZj qZd
abbrev qZ0g : Ty := .pair qZq .unit
abbrev qZ0h : Ty := .pair qZ0g qZa
abbrev qZ0i : Ty := .pair qZo .unit
abbrev qZ0j : Ty := .pair qZm .unit
abbrev qZ0k : Ty := .pair qZo (.pair qZj (.pair qZj qZa))
def aiD : Sig := [
 (2, (.unit, .unit)),
 (3, ((.pair qZ3 (.pair qZ3 (.pair qZ8 (.pair qZ8 .unit)))), qZ9)),
 (4, ((.pair qZ3 (.pair qZ3 (.pair qZ3 .unit))), qZ9)),
 (5, (.unit, qZ9)),
 (6, ((.pair qZ3 .unit), qZ9)),
 (7, (.unit, qZ9)),
 (8, ((.pair qZ3 .unit), qZc)),
 (9, ((.pair qZ8 qZc), qZc)),
 (10, (qZc, qZe)),
 (11, (qZc, qZe)),
 (12, (qZc, qZd)),
 (13, (qZc, qZd)),
 (14, (qZf, qZg)),
 (15, (qZf, qZg)),
 (16, (qZf, qZ9)),
 (17, (qZh, qZ7)),
 (18, (qZf, qZ9)),
 (19, (qZi, qZ9)),
 (20, (qZs, qZg)),
 (21, (qZd, qZt)),
 (22, ((.pair qZr (.pair qZr qZh)), (.pair qZb qZh))),
 (23, (qZ6, qZu)),
 (24, (qZ6, qZ9)),
 (25, (qZ5, qZu)),
 (26, (.unit, qZt)),
 (27, (qZh, qZ7)),
 (29, ((.pair qZ2 .unit), qZ7)),
 (30, (qZ7, qZ7)),
 (33, (qZu, qZ5)),
 (34, (qZd, qZ5)),
 (35, (qZe, qZ5)),
 (36, (qZv, qZe)),
 (37, (qZv, qZe)),
 (38, (qZ7, qZh)),
 (39, (qZi, qZh)),
 (40, (qZ7, qZd)),
 (41, (qZa, qZd)),
 (42, (qZ7, qZd)),
 (43, (qZi, qZd)),
 (45, (qZd, qZ7)),
 (46, (qZh, qZd)),
 (47, (qZv, qZ7)),
 (48, (qZi, qZv)),
 (49, (qZi, qZv)),
 (50, (qZi, qZv)),
 (53, (qZh, qZv)),
 (54, ((.pair (.sl qZ6) qZa), qZ9)),
 (56, ((.pair (.pair qZr qZt) .unit), qZd)),
 (59, ((.pair (.pair qZr qZt) qZa), (.pair qZ6 qZ9))),
 (61, (qZk, (.pair (.sl (.sl qZ6)) qZd))),
 (63, ((.pair .str (.pair .str qZh)), qZu)),
 (64, (qZ6, qZ9)),
 (66, ((.pair (.int .i32) .unit), qZ9)),
 (67, (qZh, qZv)),
 (68, (qZi, qZv)),
 (70, ((.pair (.sl .str) qZ5), qZ5)),
 (71, (qZd, qZ5)),
 (72, (qZ7, (.pair qZz qZ9))),
 (73, ((.pair qZz qZy), qZ00)),
 (74, (qZ5, qZy)),
 (75, (qZe, qZ5)),
 (76, (qZy, qZ5)),
 (77, (qZ7, qZ9)),
 (78, (qZ04, qZ02)),
 (79, (qZ05, qZ04)),
 (80, (qZ7, qZ04)),
 (81, (qZ03, qZ04)),
 (82, (qZd, qZ02)),
 (83, (qZd, qZ02)),
 (84, (qZ03, qZ03)),
 (85, (qZ02, qZe)),
 (86, (qZ02, qZ5)),
 (87, (qZ00, qZd)),
 (89, (qZ07, qZd)),
 (90, (qZ7, qZd)),
 (91, (qZ7, qZh)),
 (92, (qZi, qZh)),
 (93, ((.pair qZz qZd), qZv)),
 (95, (qZ07, qZ06)),
 (96, (qZy, qZ9)),
 (97, (qZ06, qZ06)),
 (98, (qZ06, qZv)),
 (99, (qZ07, qZ06)),
 (100, (qZi, qZv)),
 (101, (qZi, qZv)),
 (102, (qZ6, qZv)),
 (103, (qZd, qZ5)),
 (104, (qZt, qZd)),
 (105, (qZt, qZh)),
 (107, ((.pair qZr qZa), qZ08)),
 (108, ((.pair qZ6 qZi), qZv)),
 (109, (qZ7, qZv)),
 (110, (qZi, qZv)),
 (111, (qZi, qZv)),
 (112, (qZh, qZk)),
 (113, (qZe, qZu)),
 (114, (qZ6, qZd)),
 (115, (qZ6, qZd)),
 (117, (qZ04, qZv)),
 (118, (qZh, qZ04)),
 (122, (qZh, qZ5)),
 (123, (qZ5, qZd)),
 (124, (qZ5, qZ00)),
 (125, (qZ09, qZy)),
 (126, (qZ09, qZd)),
 (127, (qZz, qZ00)),
 (128, (qZ09, qZy)),
 (129, ((.pair qZx qZ00), qZ00)),
 (130, (qZx, qZ00)),
 (131, (qZz, qZ00)),
 (132, (qZy, qZy)),
 (133, (qZ0b, qZ0b)),
 (137, (qZ5, qZ9)),
 (138, (qZ5, qZ02)),
 (139, (qZ03, qZ02)),
 (140, (qZ04, qZ02)),
 (141, (qZ05, qZ04)),
 (142, (qZ03, qZ02)),
 (143, (qZ02, qZ02)),
 (144, ((.pair qZ01 qZd), qZ02)),
 (145, (qZ01, qZ02)),
 (146, (qZ0c, qZ0c)),
 (147, (qZ03, qZ02)),
 (148, (qZ03, qZ02)),
 (149, (qZd, qZ5)),
 (150, (qZ00, qZ00)),
 (151, (qZ05, qZd)),
 (152, (qZ09, qZ09)),
 (153, (qZy, qZd)),
 (154, (qZ00, qZ5)),
 (155, (qZ05, qZ04)),
 (156, (qZz, qZ06)),
 (157, ((.pair qZt .unit), (.pair qZ4 qZ9))),
 (160, ((.pair qZq qZa), qZ08)),
 (161, (qZ07, qZ06)),
 (162, (qZ07, qZ06)),
 (163, (qZ07, qZ06)),
 (166, (qZ5, qZd)),
 (167, (qZ5, (.pair (.int .i32) qZd))),
 (169, (qZ6, qZd)),
 (170, ((.pair (.sl (.pair qZ0 (.pair qZ0 (.pair qZ0 .unit)))) (.pair qZ0 .unit)), qZ9)),
 (171, ((.pair (.sl (.pair (.int .u32) qZ0e)) qZ0d), qZ9)),
 (174, (qZd, qZ5)),
 (175, (qZ0a, qZd)),
 (176, ((.pair (.sl (.int .u8)) qZ0a), .unit)),
 (177, ((.pair (.sl (.int .u8)) (.pair (.int .u64) (.pair qZ4 (.pair .bool qZ9)))), (.pair (.sl (.int .u8)) qZ5))),
 (178, (qZ5, (.pair qZx qZ9))),
 (179, (qZ6, (.pair .str qZ9))),
 (180, (qZy, qZ0a)),
 (181, (qZ0a, qZy)),
 (182, (qZh, qZd)),
 (183, (qZ0e, qZd)),
 (184, (qZ09, qZy)),
 (185, (qZ09, qZy)),
 (186, (qZ0e, qZ0e)),
 (187, (qZ0b, qZ0b)),
 (188, (qZ0c, qZn)),
 (189, (qZn, qZn)),
 (190, (qZ0f, qZ0f)),
 (191, (qZ0c, qZd)),
 (192, (qZ0c, qZn)),
 (193, (qZ0c, qZn)),
 (194, (qZ03, qZd)),
 (195, ((.pair qZw qZ0d), (.pair qZw qZ0d))),
 (198, (qZ0g, qZh)),
 (199, (qZ0g, qZh)),
 (202, (qZa, qZa)),
 (204, (qZ0h, qZ08)),
 (205, (qZ0h, qZ08)),
 (206, (qZ0h, qZ08)),
 (207, (qZ0h, qZ08)),
 (208, (qZ06, qZ06)),
 (210, (qZ5, (.pair (.int .i32) qZd))),
 (211, ((.pair .str qZ1), qZd)),
 (213, (qZd, qZd)),
 (214, (qZ6, qZd)),
 (217, (qZd, qZd)),
 (218, (qZ0a, qZd)),
 (219, (qZ9, qZd)),
 (220, (qZd, qZ9)),
 (221, (qZ0a, qZd)),
 (222, (qZ5, qZy)),
 (223, (qZ6, (.pair .str qZ9))),
 (224, (qZd, qZ9)),
 (225, (qZ0d, qZ9)),
 (226, (qZ0g, qZd)),
 (230, ((.pair qZm qZ7), qZv)),
 (232, (qZd, qZv)),
 (233, ((.pair qZo qZa), qZ08)),
 (234, ((.pair (.sl qZh) qZ08), qZ08)),
 (236, (qZ5, qZ0e)),
 (237, (qZ0d, qZd)),
 (238, (qZ0a, qZd)),
 (239, (qZy, qZy)),
 (240, ((.pair (.sl qZm) .unit), qZ9)),
 (241, ((.pair (.sl qZj) qZn), qZ9)),
 (242, (qZ0i, qZd)),
 (243, (qZp, qZd)),
 (244, (qZ0j, qZd)),
 (245, ((.pair qZ0j qZ7), qZv)),
 (246, ((.pair qZ0j qZ7), qZv)),
 (247, ((.pair qZ0j qZ7), qZv)),
 (248, (qZ7, qZ7)),
 (253, ((.pair qZo qZa), (.pair qZ0k qZd))),
 (254, ((.pair qZ0k .unit), qZ08)),
 (258, (qZ0j, qZ9)),
 (260, (qZd, qZ9)),
 (261, (qZk, qZ9)),
 (262, (qZn, qZd)),
 (263, (qZp, qZh)),
 (264, (qZn, qZ9)),
 (265, (qZ0j, qZ9)),
 (266, (qZd, qZ7)),
 (267, (qZ7, qZe)),
 (271, (qZh, qZ7)),
 (272, ((.pair (.pair qZl (.pair qZ4 qZ9)) qZ7), qZv)),
 (275, (qZi, qZd)),
 (276, ((.pair qZo qZa), (.pair qZ0k qZd))),
 (277, ((.pair qZ0k (.pair (.arr 4 qZ4) .unit)), qZ0f)),
 (282, (qZd, qZ7)),
 (283, (qZa, qZv)),
 (284, (qZd, qZv)),
 (286, (qZi, qZv)),
 (288, (qZ7, qZv)),
 (289, (qZa, qZv)),
 (290, (qZ7, qZv)),
 (300, (qZd, (.pair qZ4 qZ9))),
 (301, ((.pair qZh qZh), qZ9)),
 (302, (qZk, qZ9)),
 (303, ((.pair (.pair qZl (.pair qZ4 qZ9)) .unit), qZ9)),
 (308, (qZv, (.pair qZ4 qZv))),
 (311, ((.pair qZo qZn), qZ0f)),
 (313, (qZh, qZ7)),
 (317, (qZa, qZd)),
 (324, ((.pair qZ0i qZn), (.pair (.arr 4 qZ4) qZ9))),
 (325, ((.pair qZ0i (.pair (.arr 4 qZ4) .unit)), qZn)),
 (327, (qZ5, qZ5)),
 (331, ((.pair qZ0i (.pair (.arr 4 qZ4) .unit)), qZd)),
 (332, (qZ1, qZ1)),
 (333, (qZ5, qZ9)),
 (374, (.unit, .unit))]
open Go Go.Proofs
set_option maxRecDepth 1000000
theorem auI : adZ (Gt Tryz.prog) := aN9 (by kernel_rfl)
theorem at7 : Tryz.prog.follows .mixedOrders = true := by kernel_rfl
def aAD (P : Program) : Sig → Bool
 | [] => true
 | x :: r => match adG P x.1 with
  | true => aAD P r
  | false => false
theorem arF {P : Program} : ∀ {s : Sig}, aAD P s = true → ∀ x ∈ s, adG P x.1 = true
 | [], _, _, h => by cases h
 | q :: r, hc, x, h => by
  simp only [aAD] at hc
  split at hc
  ·rename_i hq
   rcases zt.1 h with e | h
   ·rw [e]; exact hq
   ·exact arF hc x h
  ·cases hc
theorem ajP : ∀ x ∈ aiD, adG Tryz.prog x.1 = true := arF (by kernel_rfl)
def aDv : abP := aEU 34 75 70
theorem aQM : aeX Tryz.prog (Gt Tryz.prog) aDv :=
 aQF 34 75 70 (aSl 34 75 (by kernel_rfl) (by kernel_rfl) (fun n h0 h1 w h => Tryz.strconv_Itoa n h0 h1 w h) (fun s c w h1 h2 => Tryz.strings_Repeat s c w h1 h2)) (by kernel_rfl) (fun bk o c xs sep w h1 h2 h3 h4 h5 => Tryz.strings_Join bk o c xs sep w h1 h2 h3 h4 h5)
open Go Go.Proofs
set_option maxRecDepth 1000000
set_option maxHeartbeats 0
def aRT : Row := ⟨74, qZ5, qZy, ([(([49], ()), ([(.ofNat 1)], ())),
 (([54,53,53,51,53], ()), ([(.ofNat 65535)], ())),
 (([49,48,48,48,48,48,48], ()), ([(.ofNat 1000000)], ()))] : List ((List UInt8 × Unit) × (List Int × Unit)))⟩
def aRS : Row := ⟨76, qZy, qZ5, ([(([(.ofNat 1)], ()), ([49], ())),
 (([(.ofNat 2)], ()), ([50], ())),
 (([(.ofNat 65535)], ()), ([54,53,53,51,53], ())),
 (([(.ofNat 3)], ()), ([51], ()))] : List ((List Int × Unit) × (List UInt8 × Unit)))⟩
def aPn : Row := ⟨105, qZt, qZh, ([((((.ofNat 2), ([], ())), ()), ((.ofNat 2), ((.ofNat 0), ()))),
 ((((.ofNat 1), ([], ())), ()), ((.ofNat 1), ((.ofNat 0), ())))] : List (((Int × (List (Int × (List (Int × (List Int × (List (Int × (Int × (Int × (Int × (Int × (Int × Unit)))))) × Unit))) × (List (List Int) × (List Int × ((List Int × (Int × (List Int × Unit))) × (List (Int × (Int × Unit)) × (Int × (Int × Unit)))))))) × Unit)) × Unit) × (Int × (Int × Unit))))⟩
def aPm : Row := ⟨125, qZ09, qZy, ([(([], ([(.ofNat 1)], ())), ([(.ofNat 1)], ())),
 (([], ([(.ofNat 2)], ())), ([(.ofNat 2)], ())),
 (([(.ofNat 1)], ([(.ofNat 1)], ())), ([(.ofNat 1)], ())),
 (([(.ofNat 1)], ([(.ofNat 2)], ())), ([(.ofNat 1)], ())),
 (([(.ofNat 2)], ([(.ofNat 2)], ())), ([(.ofNat 2)], ())),
 (([(.ofNat 9)], ([(.ofNat 1)], ())), ([(.ofNat 1)], ())),
 (([(.ofNat 65535)], ([(.ofNat 1)], ())), ([(.ofNat 1)], ())),
 (([(.ofNat 65535)], ([(.ofNat 65535)], ())), ([(.ofNat 65535)], ())),
 (([(.ofNat 2)], ([(.ofNat 1)], ())), ([(.ofNat 1)], ())),
 (([(.ofNat 65535)], ([(.ofNat 2)], ())), ([(.ofNat 1)], ())),
 (([(.ofNat 3)], ([(.ofNat 1)], ())), ([(.ofNat 1)], ())),
 (([(.ofNat 2)], ([(.ofNat 3)], ())), ([(.ofNat 1)], ()))] : List ((List Int × (List Int × Unit)) × (List Int × Unit)))⟩
def aPl : Row := ⟨126, qZ09, qZd, ([(([], ([(.ofNat 1)], ())), ((.negSucc 0), ())),
 (([(.ofNat 1)], ([(.ofNat 2)], ())), ((.negSucc 0), ()))] : List ((List Int × (List Int × Unit)) × (Int × Unit)))⟩
def aPk : Row := ⟨127, qZz, qZ00, ([((([], (false, ())), ([(.ofNat 2)], ())), (([], (false, ())), ()))] : List (((List Int × (Bool × Unit)) × (List Int × Unit)) × ((List Int × (Bool × Unit)) × Unit)))⟩
def aPj : Row := ⟨128, qZ09, qZy, ([(([], ([(.ofNat 1)], ())), ([], ())),
 (([(.ofNat 1)], ([(.ofNat 1)], ())), ([(.ofNat 1)], ())),
 (([(.ofNat 65535)], ([(.ofNat 1)], ())), ([(.ofNat 65535)], ())),
 (([(.ofNat 1)], ([(.ofNat 3)], ())), ([(.ofNat 3)], ()))] : List ((List Int × (List Int × Unit)) × (List Int × Unit)))⟩
def aPi : Row := ⟨129, (.pair qZx qZ00), qZ00, ([((([], (false, ())), (([], (false, ())), ())), (([], (false, ())), ())),
 ((([(.ofNat 1)], (false, ())), (([], (false, ())), ())), (([(.ofNat 1)], (false, ())), ())),
 ((([(.ofNat 1)], (false, ())), (([(.ofNat 1)], (true, ())), ())), (([], (false, ())), ())),
 ((([], (false, ())), (([(.ofNat 1)], (false, ())), ())), (([(.ofNat 1)], (false, ())), ()))] : List (((List Int × (Bool × Unit)) × ((List Int × (Bool × Unit)) × Unit)) × ((List Int × (Bool × Unit)) × Unit)))⟩
def aPh : Row := ⟨132, qZy, qZy, ([(([(.ofNat 2), (.ofNat 0)], ()), ([(.ofNat 2)], ())),
 (([(.ofNat 2000000), (.ofNat 0)], ()), ([(.ofNat 2000000)], ()))] : List ((List Int × Unit) × (List Int × Unit)))⟩
def aPg : Row := ⟨152, qZ09, qZ09, ([(([(.ofNat 1)], ([(.ofNat 1)], ())), ([(.ofNat 1)], ([], ()))),
 (([], ([(.ofNat 2)], ())), ([], ([], ()))),
 (([(.ofNat 2)], ([(.ofNat 2)], ())), ([(.ofNat 1)], ([], ()))),
 (([(.ofNat 2)], ([(.ofNat 1)], ())), ([(.ofNat 2)], ([], ()))),
 (([(.ofNat 65535)], ([(.ofNat 1)], ())), ([(.ofNat 65535)], ([], ()))),
 (([(.ofNat 65535)], ([(.ofNat 65535)], ())), ([(.ofNat 1)], ([], ()))),
 (([(.ofNat 3)], ([(.ofNat 1)], ())), ([(.ofNat 3)], ([], ())))] : List ((List Int × (List Int × Unit)) × (List Int × (List Int × Unit))))⟩
def aPf : Row := ⟨179, qZ6, (.pair .str qZ9), ([(([48], ([45], ())), ([48], (false, ()))),
 (([49], ([45], ())), ([49], (false, ()))),
 (([50], ([45], ())), ([50], (false, ()))),
 (([57], ([45], ())), ([57], (false, ()))),
 (([45,54,53,53,51,53], ([45], ())), ([54,53,53,51,53], (true, ()))),
 (([54,53,53,51,53], ([45], ())), ([54,53,53,51,53], (false, ()))),
 (([45,49], ([45], ())), ([49], (true, ()))),
 (([51], ([45], ())), ([51], (false, ())))] : List ((List UInt8 × (List UInt8 × Unit)) × (List UInt8 × (Bool × Unit))))⟩
def aPe : Row := ⟨208, qZ06, qZ06, ([(((([], (false, ())), ([(.ofNat 1)], ())), ()), ((([], (false, ())), ([(.ofNat 1)], ())), ())),
 (((([(.ofNat 1)], (false, ())), ([(.ofNat 1)], ())), ()), ((([(.ofNat 1)], (true, ())), ([(.ofNat 1)], ())), ()))] : List ((((List Int × (Bool × Unit)) × (List Int × Unit)) × Unit) × (((List Int × (Bool × Unit)) × (List Int × Unit)) × Unit)))⟩
def aPd : Row := ⟨222, qZ5, qZy, ([(([49], ()), ([(.ofNat 1)], ())),
 (([54,53,53,51,53], ()), ([(.ofNat 65535)], ()))] : List ((List UInt8 × Unit) × (List Int × Unit)))⟩
def aPc : Row := ⟨244, qZ0j, qZd, ([((((.ofNat 2), ([(.ofNat 65535), (.ofNat 0)], ([], ()))), ()), ((.ofNat 0), ()))] : List (((Int × (List Int × (List (Int × (Int × (Int × (Int × (Int × (Int × Unit)))))) × Unit))) × Unit) × (Int × Unit)))⟩
def aTa : List Row := [aRT, aRS, aPn, aPm, aPl, aPk, aPj, aPi, aPh, aPg, aPf, aPe, aPd, aPc]
theorem aNF : aa9 (abE Tryz.prog aiD 100000 aDv 40) [aRT] = true := by kernel_rfl
theorem aNE : aa9 (abE Tryz.prog aiD 100000 aDv 40) [aRS] = true := by kernel_rfl
theorem aKa : aa9 (abE Tryz.prog aiD 100000 aDv 40) [aPn] = true := by kernel_rfl
theorem aJ9 : aa9 (abE Tryz.prog aiD 100000 aDv 40) [aPm] = true := by kernel_rfl
theorem aJ8 : aa9 (abE Tryz.prog aiD 100000 aDv 40) [aPl] = true := by kernel_rfl
theorem aJ7 : aa9 (abE Tryz.prog aiD 100000 aDv 40) [aPk] = true := by kernel_rfl
theorem aJ6 : aa9 (abE Tryz.prog aiD 100000 aDv 40) [aPj] = true := by kernel_rfl
theorem aJ5 : aa9 (abE Tryz.prog aiD 100000 aDv 40) [aPi] = true := by kernel_rfl
theorem aJ4 : aa9 (abE Tryz.prog aiD 100000 aDv 40) [aPh] = true := by kernel_rfl
theorem aJ3 : aa9 (abE Tryz.prog aiD 100000 aDv 40) [aPg] = true := by kernel_rfl
theorem aJ2 : aa9 (abE Tryz.prog aiD 100000 aDv 40) [aPf] = true := by kernel_rfl
theorem aJ1 : aa9 (abE Tryz.prog aiD 100000 aDv 40) [aPe] = true := by kernel_rfl
theorem aJ0 : aa9 (abE Tryz.prog aiD 100000 aDv 40) [aPd] = true := by kernel_rfl
theorem aJZ : aa9 (abE Tryz.prog aiD 100000 aDv 40) [aPc] = true := by kernel_rfl
theorem aaF {pf : abP} {r : Row} {rs : List Row} (h1 : aa9 pf [r] = true) (h2 : aa9 pf rs = true) : aa9 pf (r :: rs) = true := by
 simp only [aa9] at h1 ⊢
 split at h1
 ·exact h2
 ·cases h1
def aII : abP := akR (an8 aTa) aDv
theorem aQL : aeX Tryz.prog (Gt Tryz.prog) aII := alF auI at7 ajP aQM 100000 40 (aaF aNF (aaF aNE (aaF aKa (aaF aJ9 (aaF aJ8 (aaF aJ7 (aaF aJ6 (aaF aJ5 (aaF aJ4 (aaF aJ3 (aaF aJ2 (aaF aJ1 (aaF aJ0 (aaF aJZ (rfl)))))))))))))))
open Go Go.Proofs
set_option maxRecDepth 1000000
set_option maxHeartbeats 0
def aRR : Row := ⟨89, qZ07, qZd, ([(((([], (false, ())), ([(.ofNat 1)], ())), ((([], (false, ())), ([(.ofNat 1)], ())), ())), ((.ofNat 0), ())),
 (((([(.ofNat 1)], (false, ())), ([(.ofNat 2)], ())), ((([], (false, ())), ([(.ofNat 1)], ())), ())), ((.ofNat 1), ())),
 (((([(.ofNat 1)], (false, ())), ([(.ofNat 1)], ())), ((([(.ofNat 1)], (false, ())), ([(.ofNat 1)], ())), ())), ((.ofNat 0), ())),
 (((([(.ofNat 1)], (false, ())), ([(.ofNat 1)], ())), ((([], (false, ())), ([(.ofNat 1)], ())), ())), ((.ofNat 1), ()))] : List ((((List Int × (Bool × Unit)) × (List Int × Unit)) × (((List Int × (Bool × Unit)) × (List Int × Unit)) × Unit)) × (Int × Unit)))⟩
def aRQ : Row := ⟨98, qZ06, qZv, ([(((([], (false, ())), ([(.ofNat 1)], ())), ()), (([48], ([49], ())), ((.ofNat 0), ()))),
 (((([(.ofNat 1)], (false, ())), ([(.ofNat 1)], ())), ()), (([49], ([49], ())), ((.ofNat 0), ()))),
 (((([(.ofNat 1)], (false, ())), ([(.ofNat 2)], ())), ()), (([49], ([50], ())), ((.ofNat 0), ()))),
 (((([(.ofNat 65535)], (true, ())), ([(.ofNat 1)], ())), ()), (([45,54,53,53,51,53], ([49], ())), ((.ofNat 0), ()))),
 (((([(.ofNat 65535)], (false, ())), ([(.ofNat 1)], ())), ()), (([54,53,53,51,53], ([49], ())), ((.ofNat 0), ()))),
 (((([(.ofNat 2)], (false, ())), ([(.ofNat 3)], ())), ()), (([50], ([51], ())), ((.ofNat 0), ())))] : List ((((List Int × (Bool × Unit)) × (List Int × Unit)) × Unit) × ((List UInt8 × (List UInt8 × Unit)) × (Int × Unit))))⟩
def aRP : Row := ⟨99, qZ07, qZ06, ([(((([], (false, ())), ([(.ofNat 1)], ())), ((([], (false, ())), ([(.ofNat 1)], ())), ())), ((([], (false, ())), ([(.ofNat 1)], ())), ())),
 (((([(.ofNat 1)], (false, ())), ([(.ofNat 1)], ())), ((([], (false, ())), ([(.ofNat 1)], ())), ())), ((([(.ofNat 1)], (false, ())), ([(.ofNat 1)], ())), ()))] : List ((((List Int × (Bool × Unit)) × (List Int × Unit)) × (((List Int × (Bool × Unit)) × (List Int × Unit)) × Unit)) × (((List Int × (Bool × Unit)) × (List Int × Unit)) × Unit)))⟩
def aPb : Row := ⟨123, qZ5, qZd, ([(([48], ()), ((.ofNat 0), ())),
 (([49], ()), ((.ofNat 0), ())),
 (([50], ()), ((.ofNat 0), ())),
 (([57], ()), ((.ofNat 0), ())),
 (([45,54,53,53,51,53], ()), ((.ofNat 0), ())),
 (([54,53,53,51,53], ()), ((.ofNat 0), ())),
 (([51], ()), ((.ofNat 0), ()))] : List ((List UInt8 × Unit) × (Int × Unit)))⟩
def aPa : Row := ⟨124, qZ5, qZ00, ([(([48], ()), (([], (false, ())), ())),
 (([50], ()), (([(.ofNat 2)], (false, ())), ())),
 (([57], ()), (([(.ofNat 9)], (false, ())), ())),
 (([51], ()), (([(.ofNat 3)], (false, ())), ()))] : List ((List UInt8 × Unit) × ((List Int × (Bool × Unit)) × Unit)))⟩
def aO9 : Row := ⟨127, qZz, qZ00, ([((([(.ofNat 1)], (true, ())), ([(.ofNat 1)], ())), (([(.ofNat 1)], (true, ())), ())),
 ((([(.ofNat 65535)], (true, ())), ([(.ofNat 1)], ())), (([(.ofNat 65535)], (true, ())), ()))] : List (((List Int × (Bool × Unit)) × (List Int × Unit)) × ((List Int × (Bool × Unit)) × Unit)))⟩
def aO8 : Row := ⟨128, qZ09, qZy, ([(([(.ofNat 1)], ([(.ofNat 2)], ())), ([(.ofNat 2)], ())),
 (([(.ofNat 2)], ([(.ofNat 1)], ())), ([(.ofNat 2)], ())),
 (([(.ofNat 1000000)], ([(.ofNat 2)], ())), ([(.ofNat 2000000)], ()))] : List ((List Int × (List Int × Unit)) × (List Int × Unit)))⟩
def aO7 : Row := ⟨129, (.pair qZx qZ00), qZ00, ([((([], (false, ())), (([(.ofNat 1)], (true, ())), ())), (([(.ofNat 1)], (true, ())), ()))] : List (((List Int × (Bool × Unit)) × ((List Int × (Bool × Unit)) × Unit)) × ((List Int × (Bool × Unit)) × Unit)))⟩
def aO6 : Row := ⟨131, qZz, qZ00, ([((([(.ofNat 1)], (false, ())), ([(.ofNat 2)], ())), (([], (false, ())), ()))] : List (((List Int × (Bool × Unit)) × (List Int × Unit)) × ((List Int × (Bool × Unit)) × Unit)))⟩
def aO5 : Row := ⟨226, qZ0g, qZd, ([((((.ofNat 1), ([((.ofNat 2), ([(.ofNat 65535), (.ofNat 0)], ([], ())))], ([], ([], (([], ((.ofNat 0), ([], ()))), ([], ((.ofNat 0), ((.ofNat 0), ())))))))), ()), ((.ofNat 0), ()))] : List (((Int × (List (Int × (List Int × (List (Int × (Int × (Int × (Int × (Int × (Int × Unit)))))) × Unit))) × (List (List Int) × (List Int × ((List Int × (Int × (List Int × Unit))) × (List (Int × (Int × Unit)) × (Int × (Int × Unit)))))))) × Unit) × (Int × Unit)))⟩
def aS9 : List Row := [aRR, aRQ, aRP, aPb, aPa, aO9, aO8, aO7, aO6, aO5]
theorem aNC : aa9 (abE Tryz.prog aiD 100000 aII 40) [aRR] = true := by kernel_rfl
theorem aNB : aa9 (abE Tryz.prog aiD 100000 aII 40) [aRQ] = true := by kernel_rfl
theorem aNA : aa9 (abE Tryz.prog aiD 100000 aII 40) [aRP] = true := by kernel_rfl
theorem aJY : aa9 (abE Tryz.prog aiD 100000 aII 40) [aPb] = true := by kernel_rfl
theorem aJX : aa9 (abE Tryz.prog aiD 100000 aII 40) [aPa] = true := by kernel_rfl
theorem aJW : aa9 (abE Tryz.prog aiD 100000 aII 40) [aO9] = true := by kernel_rfl
theorem aJV : aa9 (abE Tryz.prog aiD 100000 aII 40) [aO8] = true := by kernel_rfl
theorem aJU : aa9 (abE Tryz.prog aiD 100000 aII 40) [aO7] = true := by kernel_rfl
theorem aJT : aa9 (abE Tryz.prog aiD 100000 aII 40) [aO6] = true := by kernel_rfl
theorem aJS : aa9 (abE Tryz.prog aiD 100000 aII 40) [aO5] = true := by kernel_rfl
def aPB : abP := akR (an8 aS9) aII
theorem aQK : aeX Tryz.prog (Gt Tryz.prog) aPB := alF auI at7 ajP aQL 100000 40 (aaF aNC (aaF aNB (aaF aNA (aaF aJY (aaF aJX (aaF aJW (aaF aJV (aaF aJU (aaF aJT (aaF aJS (rfl)))))))))))
open Go Go.Proofs
set_option maxRecDepth 1000000
set_option maxHeartbeats 0
def aRO : Row := ⟨17, qZh, qZ7, ([(((.ofNat 2), ((.ofNat 3), ())), (([50], ([51], ())), ()))] : List ((Int × (Int × Unit)) × ((List UInt8 × (List UInt8 × Unit)) × Unit)))⟩
def aRN : Row := ⟨53, qZh, qZv, ([(((.ofNat 0), ((.ofNat 1), ())), (([48], ([49], ())), ((.ofNat 0), ()))),
 (((.ofNat 0), ((.ofNat 2), ())), (([48], ([49], ())), ((.ofNat 0), ()))),
 (((.ofNat 1), ((.ofNat 1), ())), (([49], ([49], ())), ((.ofNat 0), ()))),
 (((.ofNat 1), ((.ofNat 2), ())), (([49], ([50], ())), ((.ofNat 0), ()))),
 (((.ofNat 2), ((.ofNat 2), ())), (([49], ([49], ())), ((.ofNat 0), ())))] : List ((Int × (Int × Unit)) × ((List UInt8 × (List UInt8 × Unit)) × (Int × Unit))))⟩
def aRM : Row := ⟨72, qZ7, (.pair qZz qZ9), ([((([48], ([49], ())), ()), ((([], (false, ())), ([(.ofNat 1)], ())), (true, ()))),
 ((([49], ([49], ())), ()), ((([(.ofNat 1)], (false, ())), ([(.ofNat 1)], ())), (true, ()))),
 ((([49], ([50], ())), ()), ((([(.ofNat 1)], (false, ())), ([(.ofNat 2)], ())), (true, ()))),
 ((([45,54,53,53,51,53], ([49], ())), ()), ((([(.ofNat 65535)], (true, ())), ([(.ofNat 1)], ())), (true, ()))),
 ((([54,53,53,51,53], ([49], ())), ()), ((([(.ofNat 65535)], (false, ())), ([(.ofNat 1)], ())), (true, ()))),
 ((([50], ([51], ())), ()), ((([(.ofNat 2)], (false, ())), ([(.ofNat 3)], ())), (true, ())))] : List (((List UInt8 × (List UInt8 × Unit)) × Unit) × (((List Int × (Bool × Unit)) × (List Int × Unit)) × (Bool × Unit))))⟩
def aRL : Row := ⟨89, qZ07, qZd, ([(((([], (false, ())), ([(.ofNat 1)], ())), ((([(.ofNat 1)], (false, ())), ([(.ofNat 1)], ())), ())), ((.negSucc 0), ())),
 (((([(.ofNat 1)], (false, ())), ([(.ofNat 2)], ())), ((([(.ofNat 1)], (false, ())), ([(.ofNat 1)], ())), ())), ((.negSucc 0), ()))] : List ((((List Int × (Bool × Unit)) × (List Int × Unit)) × (((List Int × (Bool × Unit)) × (List Int × Unit)) × Unit)) × (Int × Unit)))⟩
def aO4 : Row := ⟨105, qZt, qZh, ([((((.ofNat 1), ([((.ofNat 1), ([((.ofNat 2), ([(.ofNat 65535), (.ofNat 0)], ([], ())))], ([], ([], (([], ((.ofNat 0), ([], ()))), ([], ((.ofNat 0), ((.ofNat 0), ()))))))))], ())), ()), ((.ofNat 1), ((.ofNat 0), ())))] : List (((Int × (List (Int × (List (Int × (List Int × (List (Int × (Int × (Int × (Int × (Int × (Int × Unit)))))) × Unit))) × (List (List Int) × (List Int × ((List Int × (Int × (List Int × Unit))) × (List (Int × (Int × Unit)) × (Int × (Int × Unit)))))))) × Unit)) × Unit) × (Int × (Int × Unit))))⟩
def aO3 : Row := ⟨266, qZd, qZ7, ([(((.negSucc 65534), ()), (([45,54,53,53,51,53], ([49], ())), ())),
 (((.ofNat 65535), ()), (([54,53,53,51,53], ([49], ())), ()))] : List ((Int × Unit) × ((List UInt8 × (List UInt8 × Unit)) × Unit)))⟩
def aS8 : List Row := [aRO, aRN, aRM, aRL, aO4, aO3]
theorem aNz : aa9 (abE Tryz.prog aiD 100000 aPB 40) [aRO] = true := by kernel_rfl
theorem aNx : aa9 (abE Tryz.prog aiD 100000 aPB 40) [aRN] = true := by kernel_rfl
theorem aNw : aa9 (abE Tryz.prog aiD 100000 aPB 40) [aRM] = true := by kernel_rfl
theorem aNv : aa9 (abE Tryz.prog aiD 100000 aPB 40) [aRL] = true := by kernel_rfl
theorem aJR : aa9 (abE Tryz.prog aiD 100000 aPB 40) [aO4] = true := by kernel_rfl
theorem aJQ : aa9 (abE Tryz.prog aiD 100000 aPB 40) [aO3] = true := by kernel_rfl
def aOo : abP := akR (an8 aS8) aPB
theorem aQJ : aeX Tryz.prog (Gt Tryz.prog) aOo := alF auI at7 ajP aQK 100000 40 (aaF aNz (aaF aNx (aaF aNw (aaF aNv (aaF aJR (aaF aJQ (rfl)))))))
open Go Go.Proofs
set_option maxRecDepth 1000000
set_option maxHeartbeats 0
def aRK : Row := ⟨38, qZ7, qZh, ([((([48], ([49], ())), ()), ((.ofNat 0), ((.ofNat 0), ()))),
 ((([49], ([50], ())), ()), ((.ofNat 1), ((.ofNat 0), ()))),
 ((([49], ([49], ())), ()), ((.ofNat 1), ((.ofNat 0), ())))] : List (((List UInt8 × (List UInt8 × Unit)) × Unit) × (Int × (Int × Unit))))⟩
def aRJ : Row := ⟨39, qZi, qZh, ([((([48], ([49], ())), (([49], ([49], ())), ())), ((.negSucc 0), ((.ofNat 0), ()))),
 ((([49], ([50], ())), (([49], ([49], ())), ())), ((.negSucc 0), ((.ofNat 0), ()))),
 ((([48], ([49], ())), (([48], ([49], ())), ())), ((.ofNat 0), ((.ofNat 0), ()))),
 ((([49], ([49], ())), (([49], ([49], ())), ())), ((.ofNat 0), ((.ofNat 0), ())))] : List (((List UInt8 × (List UInt8 × Unit)) × ((List UInt8 × (List UInt8 × Unit)) × Unit)) × (Int × (Int × Unit))))⟩
def aRI : Row := ⟨50, qZi, qZv, ([((([48], ([49], ())), (([48], ([49], ())), ())), (([48], ([49], ())), ((.ofNat 0), ())))] : List (((List UInt8 × (List UInt8 × Unit)) × ((List UInt8 × (List UInt8 × Unit)) × Unit)) × ((List UInt8 × (List UInt8 × Unit)) × (Int × Unit))))⟩
def aO2 : Row := ⟨108, (.pair qZ6 qZi), qZv, ([((([48], ([49], ())), (([48], ([49], ())), (([49], ([49], ())), ()))), (([48], ([49], ())), ((.ofNat 0), ()))),
 ((([49], ([50], ())), (([48], ([49], ())), (([49], ([49], ())), ()))), (([49], ([50], ())), ((.ofNat 0), ()))),
 ((([49], ([49], ())), (([48], ([49], ())), (([49], ([49], ())), ()))), (([49], ([49], ())), ((.ofNat 0), ())))] : List (((List UInt8 × (List UInt8 × Unit)) × ((List UInt8 × (List UInt8 × Unit)) × ((List UInt8 × (List UInt8 × Unit)) × Unit))) × ((List UInt8 × (List UInt8 × Unit)) × (Int × Unit))))⟩
def aO1 : Row := ⟨109, qZ7, qZv, ([((([48], ([49], ())), ()), (([48], ([49], ())), ((.ofNat 0), ())))] : List (((List UInt8 × (List UInt8 × Unit)) × Unit) × ((List UInt8 × (List UInt8 × Unit)) × (Int × Unit))))⟩
def aO0 : Row := ⟨110, qZi, qZv, ([((([48], ([49], ())), (([48], ([49], ())), ())), (([48], ([49], ())), ((.ofNat 0), ()))),
 ((([49], ([50], ())), (([49], ([50], ())), ())), (([48], ([49], ())), ((.ofNat 0), ()))),
 ((([49], ([49], ())), (([49], ([49], ())), ())), (([48], ([49], ())), ((.ofNat 0), ()))),
 ((([49], ([49], ())), (([48], ([49], ())), ())), (([49], ([49], ())), ((.ofNat 0), ())))] : List (((List UInt8 × (List UInt8 × Unit)) × ((List UInt8 × (List UInt8 × Unit)) × Unit)) × ((List UInt8 × (List UInt8 × Unit)) × (Int × Unit))))⟩
def aOZ : Row := ⟨111, qZi, qZv, ([((([48], ([49], ())), (([48], ([49], ())), ())), (([48], ([49], ())), ((.ofNat 0), ()))),
 ((([48], ([49], ())), (([49], ([49], ())), ())), (([49], ([49], ())), ((.ofNat 0), ())))] : List (((List UInt8 × (List UInt8 × Unit)) × ((List UInt8 × (List UInt8 × Unit)) × Unit)) × ((List UInt8 × (List UInt8 × Unit)) × (Int × Unit))))⟩
def aS7 : List Row := [aRK, aRJ, aRI, aO2, aO1, aO0, aOZ]
theorem aNu : aa9 (abE Tryz.prog aiD 100000 aOo 40) [aRK] = true := by kernel_rfl
theorem aNt : aa9 (abE Tryz.prog aiD 100000 aOo 40) [aRJ] = true := by kernel_rfl
theorem aNs : aa9 (abE Tryz.prog aiD 100000 aOo 40) [aRI] = true := by kernel_rfl
theorem aJP : aa9 (abE Tryz.prog aiD 100000 aOo 40) [aO2] = true := by kernel_rfl
theorem aJO : aa9 (abE Tryz.prog aiD 100000 aOo 40) [aO1] = true := by kernel_rfl
theorem aJN : aa9 (abE Tryz.prog aiD 100000 aOo 40) [aO0] = true := by kernel_rfl
theorem aJM : aa9 (abE Tryz.prog aiD 100000 aOo 40) [aOZ] = true := by kernel_rfl
def aSP : abP := akR (an8 aS7) aOo
theorem aQI : aeX Tryz.prog (Gt Tryz.prog) aSP := alF auI at7 ajP aQJ 100000 40 (aaF aNu (aaF aNt (aaF aNs (aaF aJP (aaF aJO (aaF aJN (aaF aJM (rfl))))))))
open Go Go.Proofs
set_option maxRecDepth 1000000
set_option maxHeartbeats 0
def aRH : Row := ⟨20, qZs, qZg, ([((((.ofNat 1), ([], ())), (((.ofNat 1), ([((.ofNat 1), ([((.ofNat 2), ([(.ofNat 65535), (.ofNat 0)], ([], ())))], ([], ([], (([], ((.ofNat 0), ([], ()))), ([], ((.ofNat 0), ((.ofNat 0), ()))))))))], ())), ((.ofNat 3), ()))), (((.ofNat 3), ((.ofNat 0), (([49], ([49], ())), (([50], ([51], ())), ([([48], ([49], ()))], ()))))), ((.ofNat 0), ())))] : List (((Int × (List (Int × (List (Int × (List Int × (List (Int × (Int × (Int × (Int × (Int × (Int × Unit)))))) × Unit))) × (List (List Int) × (List Int × ((List Int × (Int × (List Int × Unit))) × (List (Int × (Int × Unit)) × (Int × (Int × Unit)))))))) × Unit)) × ((Int × (List (Int × (List (Int × (List Int × (List (Int × (Int × (Int × (Int × (Int × (Int × Unit)))))) × Unit))) × (List (List Int) × (List Int × ((List Int × (Int × (List Int × Unit))) × (List (Int × (Int × Unit)) × (Int × (Int × Unit)))))))) × Unit)) × (Int × Unit))) × ((Int × (Int × ((List UInt8 × (List UInt8 × Unit)) × ((List UInt8 × (List UInt8 × Unit)) × (List (List UInt8 × (List UInt8 × Unit)) × Unit))))) × (Int × Unit))))⟩
def aOY : Row := ⟨107, (.pair qZr qZa), qZ08, ([((((.ofNat 2), ([], ())), ([([48], ([49], ())), ([48], ([49], ()))], ())), ([([48], ([49], ())), ([48], ([49], ()))], ((.ofNat 0), ()))),
 ((((.ofNat 2), ([], ())), ([([48], ([49], ())), ([49], ([50], ()))], ())), ([([48], ([49], ())), ([49], ([50], ()))], ((.ofNat 0), ()))),
 ((((.ofNat 2), ([], ())), ([([48], ([49], ())), ([49], ([49], ()))], ())), ([([48], ([49], ())), ([49], ([49], ()))], ((.ofNat 0), ()))),
 ((((.ofNat 2), ([], ())), ([([49], ([50], ())), ([48], ([49], ()))], ())), ([([49], ([50], ())), ([48], ([49], ()))], ((.ofNat 0), ()))),
 ((((.ofNat 2), ([], ())), ([([49], ([50], ())), ([49], ([50], ()))], ())), ([([49], ([50], ())), ([49], ([50], ()))], ((.ofNat 0), ()))),
 ((((.ofNat 2), ([], ())), ([([49], ([50], ())), ([49], ([49], ()))], ())), ([([49], ([50], ())), ([49], ([49], ()))], ((.ofNat 0), ()))),
 ((((.ofNat 2), ([], ())), ([([49], ([49], ())), ([48], ([49], ()))], ())), ([([49], ([49], ())), ([48], ([49], ()))], ((.ofNat 0), ()))),
 ((((.ofNat 2), ([], ())), ([([49], ([49], ())), ([49], ([50], ()))], ())), ([([49], ([49], ())), ([49], ([50], ()))], ((.ofNat 0), ()))),
 ((((.ofNat 2), ([], ())), ([([49], ([49], ())), ([49], ([49], ()))], ())), ([([49], ([49], ())), ([49], ([49], ()))], ((.ofNat 0), ())))] : List (((Int × (List (Int × (List (Int × (List Int × (List (Int × (Int × (Int × (Int × (Int × (Int × Unit)))))) × Unit))) × (List (List Int) × (List Int × ((List Int × (Int × (List Int × Unit))) × (List (Int × (Int × Unit)) × (Int × (Int × Unit)))))))) × Unit)) × (List (List UInt8 × (List UInt8 × Unit)) × Unit)) × (List (List UInt8 × (List UInt8 × Unit)) × (Int × Unit))))⟩
def aS6 : List Row := [aRH, aOY]
theorem aNr : aa9 (abE Tryz.prog aiD 100000 aSP 40) [aRH] = true := by kernel_rfl
theorem aJL : aa9 (abE Tryz.prog aiD 100000 aSP 40) [aOY] = true := by kernel_rfl
def aTj : abP := akR (an8 aS6) aSP
theorem aQH : aeX Tryz.prog (Gt Tryz.prog) aTj := alF auI at7 ajP aQI 100000 40 (aaF aNr (aaF aJL (rfl)))
open Go Go.Proofs
set_option maxRecDepth 1000000
set_option maxHeartbeats 0
def aRG : Row := ⟨20, qZs, qZg, ([((((.ofNat 2), ([], ())), (((.ofNat 2), ([], ())), ((.ofNat 3), ()))), (((.ofNat 9), ((.ofNat 0), (([48], ([49], ())), (([48], ([49], ())), ([([48], ([49], ())), ([48], ([49], ()))], ()))))), ((.ofNat 0), ())))] : List (((Int × (List (Int × (List (Int × (List Int × (List (Int × (Int × (Int × (Int × (Int × (Int × Unit)))))) × Unit))) × (List (List Int) × (List Int × ((List Int × (Int × (List Int × Unit))) × (List (Int × (Int × Unit)) × (Int × (Int × Unit)))))))) × Unit)) × ((Int × (List (Int × (List (Int × (List Int × (List (Int × (Int × (Int × (Int × (Int × (Int × Unit)))))) × Unit))) × (List (List Int) × (List Int × ((List Int × (Int × (List Int × Unit))) × (List (Int × (Int × Unit)) × (Int × (Int × Unit)))))))) × Unit)) × (Int × Unit))) × ((Int × (Int × ((List UInt8 × (List UInt8 × Unit)) × ((List UInt8 × (List UInt8 × Unit)) × (List (List UInt8 × (List UInt8 × Unit)) × Unit))))) × (Int × Unit))))⟩
def aS5 : List Row := [aRG]
theorem aNq : aa9 (abE Tryz.prog aiD 100000 aTj 40) [aRG] = true := by kernel_rfl
def aTi : abP := akR (an8 aS5) aTj
theorem aQG : aeX Tryz.prog (Gt Tryz.prog) aTi := alF auI at7 ajP aQH 100000 40 (aaF aNq (rfl))
open Go Go.Proofs
set_option maxRecDepth 1000000
set_option maxHeartbeats 0
theorem aPU : aa9 (abE Tryz.prog aiD 100000 aTi 40) [⟨7, .unit, .pair .bool .unit, ([((), (true, ()))] : List (Unit × Bool × Unit))⟩] = true := by kernel_rfl
theorem top_at : At Tryz.prog (Gt Tryz.prog) 7 .unit qZ9 () (true, ()) := by
 have h := aPU
 rw [(aDR (P := Tryz.prog) (sig := aiD) 100000 aTi 40).1] at h
 exact (aDS auI at7 aQG ajP 100000 40).1 _ _ _ _ _ (aEk (apT h _ zF) () (true, ()) zF)
end Go.Vg
