/-
  A runner over the evaluator, and calls that have been run. Own work; no condition.
-/
import Derived.Test.YtlmjbmgabddkiaaGreatDoorClR6
import Derived.Test.YtlmjbmgabddkiaaGreatDoorProg
import Derived.KernelRfl
set_option linter.unusedVariables false
set_option linter.unusedSimpArgs false
namespace Go.Vg
open Go
def agK : Sig := [
 (2, (.unit, .unit)),
 (3, ((.pair (.pair (.int .u16) (.pair (.int .u16) (.pair (.int .u16) (.pair (.pair (.int .i16) (.pair (.int .u8) .unit)) (.pair (.sl (.pair (.int .i16) (.pair (.int .u8) .unit))) .unit))))) (.pair (.pair (.int .u16) (.pair (.int .u16) (.pair (.int .u16) (.pair (.pair (.int .i16) (.pair (.int .u8) .unit)) (.pair (.sl (.pair (.int .i16) (.pair (.int .u8) .unit))) .unit))))) (.pair (.pair (.int .u8) (.pair (.int .i64) (.pair (.pair .str (.pair .str .unit)) .unit))) (.pair (.pair (.int .u8) (.pair (.int .i64) (.pair (.pair .str (.pair .str .unit)) .unit))) .unit)))), (.pair .bool .unit))),
 (4, ((.pair (.pair (.int .u16) (.pair (.int .u16) (.pair (.int .u16) (.pair (.pair (.int .i16) (.pair (.int .u8) .unit)) (.pair (.sl (.pair (.int .i16) (.pair (.int .u8) .unit))) .unit))))) (.pair (.pair (.int .u16) (.pair (.int .u16) (.pair (.int .u16) (.pair (.pair (.int .i16) (.pair (.int .u8) .unit)) (.pair (.sl (.pair (.int .i16) (.pair (.int .u8) .unit))) .unit))))) (.pair (.pair (.int .u16) (.pair (.int .u16) (.pair (.int .u16) (.pair (.pair (.int .i16) (.pair (.int .u8) .unit)) (.pair (.sl (.pair (.int .i16) (.pair (.int .u8) .unit))) .unit))))) .unit))), (.pair .bool .unit))),
 (5, (.unit, (.pair .bool .unit))),
 (6, ((.pair (.pair (.int .u16) (.pair (.int .u16) (.pair (.int .u16) (.pair (.pair (.int .i16) (.pair (.int .u8) .unit)) (.pair (.sl (.pair (.int .i16) (.pair (.int .u8) .unit))) .unit))))) .unit), (.pair .bool .unit))),
 (7, (.unit, (.pair .bool .unit))),
 (8, ((.pair (.pair (.int .u16) (.pair (.int .u16) (.pair (.int .u16) (.pair (.pair (.int .i16) (.pair (.int .u8) .unit)) (.pair (.sl (.pair (.int .i16) (.pair (.int .u8) .unit))) .unit))))) .unit), (.pair (.pair (.int .i64) (.pair (.int .i64) (.pair (.pair .str (.pair .str .unit)) (.pair (.pair .str (.pair .str .unit)) (.pair (.sl (.pair .str (.pair .str .unit))) .unit))))) .unit))),
 (9, ((.pair (.pair (.int .u8) (.pair (.int .i64) (.pair (.pair .str (.pair .str .unit)) .unit))) (.pair (.pair (.int .i64) (.pair (.int .i64) (.pair (.pair .str (.pair .str .unit)) (.pair (.pair .str (.pair .str .unit)) (.pair (.sl (.pair .str (.pair .str .unit))) .unit))))) .unit)), (.pair (.pair (.int .i64) (.pair (.int .i64) (.pair (.pair .str (.pair .str .unit)) (.pair (.pair .str (.pair .str .unit)) (.pair (.sl (.pair .str (.pair .str .unit))) .unit))))) .unit))),
 (10, ((.pair (.pair (.int .i64) (.pair (.int .i64) (.pair (.pair .str (.pair .str .unit)) (.pair (.pair .str (.pair .str .unit)) (.pair (.sl (.pair .str (.pair .str .unit))) .unit))))) .unit), (.pair .str (.pair (.int .i64) .unit)))),
 (11, ((.pair (.pair (.int .i64) (.pair (.int .i64) (.pair (.pair .str (.pair .str .unit)) (.pair (.pair .str (.pair .str .unit)) (.pair (.sl (.pair .str (.pair .str .unit))) .unit))))) .unit), (.pair .str (.pair (.int .i64) .unit)))),
 (12, ((.pair (.pair (.int .i64) (.pair (.int .i64) (.pair (.pair .str (.pair .str .unit)) (.pair (.pair .str (.pair .str .unit)) (.pair (.sl (.pair .str (.pair .str .unit))) .unit))))) .unit), (.pair (.int .i64) .unit))),
 (13, ((.pair (.pair (.int .i64) (.pair (.int .i64) (.pair (.pair .str (.pair .str .unit)) (.pair (.pair .str (.pair .str .unit)) (.pair (.sl (.pair .str (.pair .str .unit))) .unit))))) .unit), (.pair (.int .i64) .unit))),
 (14, ((.pair (.pair (.int .i64) (.pair (.int .i64) (.pair (.pair .str (.pair .str .unit)) (.pair (.pair .str (.pair .str .unit)) (.pair (.sl (.pair .str (.pair .str .unit))) .unit))))) (.pair (.pair (.int .i64) (.pair (.int .i64) (.pair (.pair .str (.pair .str .unit)) (.pair (.pair .str (.pair .str .unit)) (.pair (.sl (.pair .str (.pair .str .unit))) .unit))))) .unit)), (.pair (.pair (.int .i64) (.pair (.int .i64) (.pair (.pair .str (.pair .str .unit)) (.pair (.pair .str (.pair .str .unit)) (.pair (.sl (.pair .str (.pair .str .unit))) .unit))))) (.pair (.int .i64) .unit)))),
 (15, ((.pair (.pair (.int .i64) (.pair (.int .i64) (.pair (.pair .str (.pair .str .unit)) (.pair (.pair .str (.pair .str .unit)) (.pair (.sl (.pair .str (.pair .str .unit))) .unit))))) (.pair (.pair (.int .i64) (.pair (.int .i64) (.pair (.pair .str (.pair .str .unit)) (.pair (.pair .str (.pair .str .unit)) (.pair (.sl (.pair .str (.pair .str .unit))) .unit))))) .unit)), (.pair (.pair (.int .i64) (.pair (.int .i64) (.pair (.pair .str (.pair .str .unit)) (.pair (.pair .str (.pair .str .unit)) (.pair (.sl (.pair .str (.pair .str .unit))) .unit))))) (.pair (.int .i64) .unit)))),
 (16, ((.pair (.pair (.int .i64) (.pair (.int .i64) (.pair (.pair .str (.pair .str .unit)) (.pair (.pair .str (.pair .str .unit)) (.pair (.sl (.pair .str (.pair .str .unit))) .unit))))) (.pair (.pair (.int .i64) (.pair (.int .i64) (.pair (.pair .str (.pair .str .unit)) (.pair (.pair .str (.pair .str .unit)) (.pair (.sl (.pair .str (.pair .str .unit))) .unit))))) .unit)), (.pair .bool .unit))),
 (17, ((.pair (.int .i64) (.pair (.int .i64) .unit)), (.pair (.pair .str (.pair .str .unit)) .unit))),
 (18, ((.pair (.pair (.int .i64) (.pair (.int .i64) (.pair (.pair .str (.pair .str .unit)) (.pair (.pair .str (.pair .str .unit)) (.pair (.sl (.pair .str (.pair .str .unit))) .unit))))) (.pair (.pair (.int .i64) (.pair (.int .i64) (.pair (.pair .str (.pair .str .unit)) (.pair (.pair .str (.pair .str .unit)) (.pair (.sl (.pair .str (.pair .str .unit))) .unit))))) .unit)), (.pair .bool .unit))),
 (19, ((.pair (.pair .str (.pair .str .unit)) (.pair (.pair .str (.pair .str .unit)) .unit)), (.pair .bool .unit))),
 (20, ((.pair (.pair (.int .i64) (.pair (.sl (.pair (.int .i64) (.pair (.sl (.pair (.int .i64) (.pair (.sl (.int .i64)) (.pair (.sl (.pair (.int .i64) (.pair (.int .i64) (.pair (.int .i64) (.pair (.int .i64) (.pair (.int .i64) (.pair (.int .i64) .unit))))))) .unit)))) (.pair (.sl (.sl (.int .i64))) (.pair (.sl (.int .i64)) (.pair (.pair (.sl (.int .i64)) (.pair (.int .i64) (.pair (.sl (.int .i64)) .unit))) (.pair (.sl (.pair (.int .i64) (.pair (.int .i64) .unit))) (.pair (.int .i64) (.pair (.int .i64) .unit))))))))) .unit)) (.pair (.pair (.int .i64) (.pair (.sl (.pair (.int .i64) (.pair (.sl (.pair (.int .i64) (.pair (.sl (.int .i64)) (.pair (.sl (.pair (.int .i64) (.pair (.int .i64) (.pair (.int .i64) (.pair (.int .i64) (.pair (.int .i64) (.pair (.int .i64) .unit))))))) .unit)))) (.pair (.sl (.sl (.int .i64))) (.pair (.sl (.int .i64)) (.pair (.pair (.sl (.int .i64)) (.pair (.int .i64) (.pair (.sl (.int .i64)) .unit))) (.pair (.sl (.pair (.int .i64) (.pair (.int .i64) .unit))) (.pair (.int .i64) (.pair (.int .i64) .unit))))))))) .unit)) (.pair (.int .i64) .unit))), (.pair (.pair (.int .i64) (.pair (.int .i64) (.pair (.pair .str (.pair .str .unit)) (.pair (.pair .str (.pair .str .unit)) (.pair (.sl (.pair .str (.pair .str .unit))) .unit))))) (.pair (.int .i64) .unit)))),
 (21, ((.pair (.int .i64) .unit), (.pair (.pair (.int .i64) (.pair (.sl (.pair (.int .i64) (.pair (.sl (.pair (.int .i64) (.pair (.sl (.int .i64)) (.pair (.sl (.pair (.int .i64) (.pair (.int .i64) (.pair (.int .i64) (.pair (.int .i64) (.pair (.int .i64) (.pair (.int .i64) .unit))))))) .unit)))) (.pair (.sl (.sl (.int .i64))) (.pair (.sl (.int .i64)) (.pair (.pair (.sl (.int .i64)) (.pair (.int .i64) (.pair (.sl (.int .i64)) .unit))) (.pair (.sl (.pair (.int .i64) (.pair (.int .i64) .unit))) (.pair (.int .i64) (.pair (.int .i64) .unit))))))))) .unit)) .unit))),
 (22, ((.pair (.pair (.int .i64) (.pair (.sl (.pair (.int .i64) (.pair (.sl (.pair (.int .i64) (.pair (.sl (.int .i64)) (.pair (.sl (.pair (.int .i64) (.pair (.int .i64) (.pair (.int .i64) (.pair (.int .i64) (.pair (.int .i64) (.pair (.int .i64) .unit))))))) .unit)))) (.pair (.sl (.sl (.int .i64))) (.pair (.sl (.int .i64)) (.pair (.pair (.sl (.int .i64)) (.pair (.int .i64) (.pair (.sl (.int .i64)) .unit))) (.pair (.sl (.pair (.int .i64) (.pair (.int .i64) .unit))) (.pair (.int .i64) (.pair (.int .i64) .unit))))))))) .unit)) (.pair (.pair (.int .i64) (.pair (.sl (.pair (.int .i64) (.pair (.sl (.pair (.int .i64) (.pair (.sl (.int .i64)) (.pair (.sl (.pair (.int .i64) (.pair (.int .i64) (.pair (.int .i64) (.pair (.int .i64) (.pair (.int .i64) (.pair (.int .i64) .unit))))))) .unit)))) (.pair (.sl (.sl (.int .i64))) (.pair (.sl (.int .i64)) (.pair (.pair (.sl (.int .i64)) (.pair (.int .i64) (.pair (.sl (.int .i64)) .unit))) (.pair (.sl (.pair (.int .i64) (.pair (.int .i64) .unit))) (.pair (.int .i64) (.pair (.int .i64) .unit))))))))) .unit)) (.pair (.int .i64) (.pair (.int .i64) .unit)))), (.pair (.pair (.int .i64) (.pair (.int .i64) (.pair (.pair .str (.pair .str .unit)) (.pair (.pair .str (.pair .str .unit)) (.pair (.sl (.pair .str (.pair .str .unit))) .unit))))) (.pair (.int .i64) (.pair (.int .i64) .unit))))),
 (23, ((.pair .str (.pair .str .unit)), (.pair (.sl .str) .unit))),
 (24, ((.pair .str (.pair .str .unit)), (.pair .bool .unit))),
 (25, ((.pair .str .unit), (.pair (.sl .str) .unit))),
 (26, (.unit, (.pair (.pair (.int .i64) (.pair (.sl (.pair (.int .i64) (.pair (.sl (.pair (.int .i64) (.pair (.sl (.int .i64)) (.pair (.sl (.pair (.int .i64) (.pair (.int .i64) (.pair (.int .i64) (.pair (.int .i64) (.pair (.int .i64) (.pair (.int .i64) .unit))))))) .unit)))) (.pair (.sl (.sl (.int .i64))) (.pair (.sl (.int .i64)) (.pair (.pair (.sl (.int .i64)) (.pair (.int .i64) (.pair (.sl (.int .i64)) .unit))) (.pair (.sl (.pair (.int .i64) (.pair (.int .i64) .unit))) (.pair (.int .i64) (.pair (.int .i64) .unit))))))))) .unit)) .unit))),
 (27, ((.pair (.int .i64) (.pair (.int .i64) .unit)), (.pair (.pair .str (.pair .str .unit)) .unit))),
 (29, ((.pair (.pair (.int .i16) (.pair (.int .u8) .unit)) .unit), (.pair (.pair .str (.pair .str .unit)) .unit))),
 (30, ((.pair (.pair .str (.pair .str .unit)) .unit), (.pair (.pair .str (.pair .str .unit)) .unit))),
 (33, ((.pair (.sl .str) .unit), (.pair .str .unit))),
 (34, ((.pair (.int .i64) .unit), (.pair .str .unit))),
 (35, ((.pair .str (.pair (.int .i64) .unit)), (.pair .str .unit))),
 (36, ((.pair (.pair .str (.pair .str .unit)) (.pair (.int .i64) .unit)), (.pair .str (.pair (.int .i64) .unit)))),
 (37, ((.pair (.pair .str (.pair .str .unit)) (.pair (.int .i64) .unit)), (.pair .str (.pair (.int .i64) .unit)))),
 (38, ((.pair (.pair .str (.pair .str .unit)) .unit), (.pair (.int .i64) (.pair (.int .i64) .unit)))),
 (39, ((.pair (.pair .str (.pair .str .unit)) (.pair (.pair .str (.pair .str .unit)) .unit)), (.pair (.int .i64) (.pair (.int .i64) .unit)))),
 (40, ((.pair (.pair .str (.pair .str .unit)) .unit), (.pair (.int .i64) .unit))),
 (41, ((.pair (.sl (.pair .str (.pair .str .unit))) .unit), (.pair (.int .i64) .unit))),
 (42, ((.pair (.pair .str (.pair .str .unit)) .unit), (.pair (.int .i64) .unit))),
 (43, ((.pair (.pair .str (.pair .str .unit)) (.pair (.pair .str (.pair .str .unit)) .unit)), (.pair (.int .i64) .unit))),
 (45, ((.pair (.int .i64) .unit), (.pair (.pair .str (.pair .str .unit)) .unit))),
 (46, ((.pair (.int .i64) (.pair (.int .i64) .unit)), (.pair (.int .i64) .unit))),
 (47, ((.pair (.pair .str (.pair .str .unit)) (.pair (.int .i64) .unit)), (.pair (.pair .str (.pair .str .unit)) .unit))),
 (48, ((.pair (.pair .str (.pair .str .unit)) (.pair (.pair .str (.pair .str .unit)) .unit)), (.pair (.pair .str (.pair .str .unit)) (.pair (.int .i64) .unit)))),
 (49, ((.pair (.pair .str (.pair .str .unit)) (.pair (.pair .str (.pair .str .unit)) .unit)), (.pair (.pair .str (.pair .str .unit)) (.pair (.int .i64) .unit)))),
 (50, ((.pair (.pair .str (.pair .str .unit)) (.pair (.pair .str (.pair .str .unit)) .unit)), (.pair (.pair .str (.pair .str .unit)) (.pair (.int .i64) .unit)))),
 (53, ((.pair (.int .i64) (.pair (.int .i64) .unit)), (.pair (.pair .str (.pair .str .unit)) (.pair (.int .i64) .unit)))),
 (54, ((.pair (.sl (.pair .str (.pair .str .unit))) (.pair (.sl (.pair .str (.pair .str .unit))) .unit)), (.pair .bool .unit))),
 (56, ((.pair (.pair (.pair (.int .i64) (.pair (.sl (.pair (.int .i64) (.pair (.sl (.pair (.int .i64) (.pair (.sl (.int .i64)) (.pair (.sl (.pair (.int .i64) (.pair (.int .i64) (.pair (.int .i64) (.pair (.int .i64) (.pair (.int .i64) (.pair (.int .i64) .unit))))))) .unit)))) (.pair (.sl (.sl (.int .i64))) (.pair (.sl (.int .i64)) (.pair (.pair (.sl (.int .i64)) (.pair (.int .i64) (.pair (.sl (.int .i64)) .unit))) (.pair (.sl (.pair (.int .i64) (.pair (.int .i64) .unit))) (.pair (.int .i64) (.pair (.int .i64) .unit))))))))) .unit)) (.pair (.pair (.int .i64) (.pair (.sl (.pair (.int .i64) (.pair (.sl (.pair (.int .i64) (.pair (.sl (.int .i64)) (.pair (.sl (.pair (.int .i64) (.pair (.int .i64) (.pair (.int .i64) (.pair (.int .i64) (.pair (.int .i64) (.pair (.int .i64) .unit))))))) .unit)))) (.pair (.sl (.sl (.int .i64))) (.pair (.sl (.int .i64)) (.pair (.pair (.sl (.int .i64)) (.pair (.int .i64) (.pair (.sl (.int .i64)) .unit))) (.pair (.sl (.pair (.int .i64) (.pair (.int .i64) .unit))) (.pair (.int .i64) (.pair (.int .i64) .unit))))))))) .unit)) .unit)) .unit), (.pair (.int .i64) .unit))),
 (59, ((.pair (.pair (.pair (.int .i64) (.pair (.sl (.pair (.int .i64) (.pair (.sl (.pair (.int .i64) (.pair (.sl (.int .i64)) (.pair (.sl (.pair (.int .i64) (.pair (.int .i64) (.pair (.int .i64) (.pair (.int .i64) (.pair (.int .i64) (.pair (.int .i64) .unit))))))) .unit)))) (.pair (.sl (.sl (.int .i64))) (.pair (.sl (.int .i64)) (.pair (.pair (.sl (.int .i64)) (.pair (.int .i64) (.pair (.sl (.int .i64)) .unit))) (.pair (.sl (.pair (.int .i64) (.pair (.int .i64) .unit))) (.pair (.int .i64) (.pair (.int .i64) .unit))))))))) .unit)) (.pair (.pair (.int .i64) (.pair (.sl (.pair (.int .i64) (.pair (.sl (.pair (.int .i64) (.pair (.sl (.int .i64)) (.pair (.sl (.pair (.int .i64) (.pair (.int .i64) (.pair (.int .i64) (.pair (.int .i64) (.pair (.int .i64) (.pair (.int .i64) .unit))))))) .unit)))) (.pair (.sl (.sl (.int .i64))) (.pair (.sl (.int .i64)) (.pair (.pair (.sl (.int .i64)) (.pair (.int .i64) (.pair (.sl (.int .i64)) .unit))) (.pair (.sl (.pair (.int .i64) (.pair (.int .i64) .unit))) (.pair (.int .i64) (.pair (.int .i64) .unit))))))))) .unit)) .unit)) (.pair (.sl (.pair .str (.pair .str .unit))) .unit)), (.pair (.pair .str (.pair .str .unit)) (.pair .bool .unit)))),
 (61, ((.pair (.int .i64) (.pair (.int .i64) (.pair (.int .i64) .unit))), (.pair (.sl (.sl (.pair .str (.pair .str .unit)))) (.pair (.int .i64) .unit)))),
 (63, ((.pair .str (.pair .str (.pair (.int .i64) (.pair (.int .i64) .unit)))), (.pair (.sl .str) .unit))),
 (64, ((.pair .str (.pair .str .unit)), (.pair .bool .unit))),
 (66, ((.pair (.int .i32) .unit), (.pair .bool .unit))),
 (67, ((.pair (.int .i64) (.pair (.int .i64) .unit)), (.pair (.pair .str (.pair .str .unit)) (.pair (.int .i64) .unit)))),
 (68, ((.pair (.pair .str (.pair .str .unit)) (.pair (.pair .str (.pair .str .unit)) .unit)), (.pair (.pair .str (.pair .str .unit)) (.pair (.int .i64) .unit)))),
 (70, ((.pair (.sl .str) (.pair .str .unit)), (.pair .str .unit))),
 (71, ((.pair (.int .i64) .unit), (.pair .str .unit))),
 (72, ((.pair (.pair .str (.pair .str .unit)) .unit), (.pair (.pair (.pair (.sl (.int .u32)) (.pair .bool .unit)) (.pair (.sl (.int .u32)) .unit)) (.pair .bool .unit)))),
 (73, ((.pair (.pair (.pair (.sl (.int .u32)) (.pair .bool .unit)) (.pair (.sl (.int .u32)) .unit)) (.pair (.sl (.int .u32)) .unit)), (.pair (.pair (.sl (.int .u32)) (.pair .bool .unit)) .unit))),
 (74, ((.pair .str .unit), (.pair (.sl (.int .u32)) .unit))),
 (75, ((.pair .str (.pair (.int .i64) .unit)), (.pair .str .unit))),
 (76, ((.pair (.sl (.int .u32)) .unit), (.pair .str .unit))),
 (77, ((.pair (.pair .str (.pair .str .unit)) .unit), (.pair .bool .unit))),
 (78, ((.pair (.pair (.pair .bool (.pair (.sl (.int .i64)) .unit)) (.pair (.pair .bool (.pair (.sl (.int .i64)) .unit)) .unit)) .unit), (.pair (.pair .bool (.pair (.sl (.int .i64)) .unit)) .unit))),
 (79, ((.pair (.pair (.pair .bool (.pair (.sl (.int .i64)) .unit)) (.pair (.pair .bool (.pair (.sl (.int .i64)) .unit)) .unit)) (.pair (.pair (.pair .bool (.pair (.sl (.int .i64)) .unit)) (.pair (.pair .bool (.pair (.sl (.int .i64)) .unit)) .unit)) .unit)), (.pair (.pair (.pair .bool (.pair (.sl (.int .i64)) .unit)) (.pair (.pair .bool (.pair (.sl (.int .i64)) .unit)) .unit)) .unit))),
 (80, ((.pair (.pair .str (.pair .str .unit)) .unit), (.pair (.pair (.pair .bool (.pair (.sl (.int .i64)) .unit)) (.pair (.pair .bool (.pair (.sl (.int .i64)) .unit)) .unit)) .unit))),
 (81, ((.pair (.pair .bool (.pair (.sl (.int .i64)) .unit)) (.pair (.pair .bool (.pair (.sl (.int .i64)) .unit)) .unit)), (.pair (.pair (.pair .bool (.pair (.sl (.int .i64)) .unit)) (.pair (.pair .bool (.pair (.sl (.int .i64)) .unit)) .unit)) .unit))),
 (82, ((.pair (.int .i64) .unit), (.pair (.pair .bool (.pair (.sl (.int .i64)) .unit)) .unit))),
 (83, ((.pair (.int .i64) .unit), (.pair (.pair .bool (.pair (.sl (.int .i64)) .unit)) .unit))),
 (84, ((.pair (.pair .bool (.pair (.sl (.int .i64)) .unit)) (.pair (.pair .bool (.pair (.sl (.int .i64)) .unit)) .unit)), (.pair (.pair .bool (.pair (.sl (.int .i64)) .unit)) (.pair (.pair .bool (.pair (.sl (.int .i64)) .unit)) .unit)))),
 (85, ((.pair (.pair .bool (.pair (.sl (.int .i64)) .unit)) .unit), (.pair .str (.pair (.int .i64) .unit)))),
 (86, ((.pair (.pair .bool (.pair (.sl (.int .i64)) .unit)) .unit), (.pair .str .unit))),
 (87, ((.pair (.pair (.sl (.int .u32)) (.pair .bool .unit)) .unit), (.pair (.int .i64) .unit))),
 (89, ((.pair (.pair (.pair (.sl (.int .u32)) (.pair .bool .unit)) (.pair (.sl (.int .u32)) .unit)) (.pair (.pair (.pair (.sl (.int .u32)) (.pair .bool .unit)) (.pair (.sl (.int .u32)) .unit)) .unit)), (.pair (.int .i64) .unit))),
 (90, ((.pair (.pair .str (.pair .str .unit)) .unit), (.pair (.int .i64) .unit))),
 (91, ((.pair (.pair .str (.pair .str .unit)) .unit), (.pair (.int .i64) (.pair (.int .i64) .unit)))),
 (92, ((.pair (.pair .str (.pair .str .unit)) (.pair (.pair .str (.pair .str .unit)) .unit)), (.pair (.int .i64) (.pair (.int .i64) .unit)))),
 (93, ((.pair (.pair (.pair (.sl (.int .u32)) (.pair .bool .unit)) (.pair (.sl (.int .u32)) .unit)) (.pair (.int .i64) .unit)), (.pair (.pair .str (.pair .str .unit)) (.pair (.int .i64) .unit)))),
 (95, ((.pair (.pair (.pair (.sl (.int .u32)) (.pair .bool .unit)) (.pair (.sl (.int .u32)) .unit)) (.pair (.pair (.pair (.sl (.int .u32)) (.pair .bool .unit)) (.pair (.sl (.int .u32)) .unit)) .unit)), (.pair (.pair (.pair (.sl (.int .u32)) (.pair .bool .unit)) (.pair (.sl (.int .u32)) .unit)) .unit))),
 (96, ((.pair (.sl (.int .u32)) .unit), (.pair .bool .unit))),
 (97, ((.pair (.pair (.pair (.sl (.int .u32)) (.pair .bool .unit)) (.pair (.sl (.int .u32)) .unit)) .unit), (.pair (.pair (.pair (.sl (.int .u32)) (.pair .bool .unit)) (.pair (.sl (.int .u32)) .unit)) .unit))),
 (98, ((.pair (.pair (.pair (.sl (.int .u32)) (.pair .bool .unit)) (.pair (.sl (.int .u32)) .unit)) .unit), (.pair (.pair .str (.pair .str .unit)) (.pair (.int .i64) .unit)))),
 (99, ((.pair (.pair (.pair (.sl (.int .u32)) (.pair .bool .unit)) (.pair (.sl (.int .u32)) .unit)) (.pair (.pair (.pair (.sl (.int .u32)) (.pair .bool .unit)) (.pair (.sl (.int .u32)) .unit)) .unit)), (.pair (.pair (.pair (.sl (.int .u32)) (.pair .bool .unit)) (.pair (.sl (.int .u32)) .unit)) .unit))),
 (100, ((.pair (.pair .str (.pair .str .unit)) (.pair (.pair .str (.pair .str .unit)) .unit)), (.pair (.pair .str (.pair .str .unit)) (.pair (.int .i64) .unit)))),
 (101, ((.pair (.pair .str (.pair .str .unit)) (.pair (.pair .str (.pair .str .unit)) .unit)), (.pair (.pair .str (.pair .str .unit)) (.pair (.int .i64) .unit)))),
 (102, ((.pair .str (.pair .str .unit)), (.pair (.pair .str (.pair .str .unit)) (.pair (.int .i64) .unit)))),
 (103, ((.pair (.int .i64) .unit), (.pair .str .unit))),
 (104, ((.pair (.pair (.int .i64) (.pair (.sl (.pair (.int .i64) (.pair (.sl (.pair (.int .i64) (.pair (.sl (.int .i64)) (.pair (.sl (.pair (.int .i64) (.pair (.int .i64) (.pair (.int .i64) (.pair (.int .i64) (.pair (.int .i64) (.pair (.int .i64) .unit))))))) .unit)))) (.pair (.sl (.sl (.int .i64))) (.pair (.sl (.int .i64)) (.pair (.pair (.sl (.int .i64)) (.pair (.int .i64) (.pair (.sl (.int .i64)) .unit))) (.pair (.sl (.pair (.int .i64) (.pair (.int .i64) .unit))) (.pair (.int .i64) (.pair (.int .i64) .unit))))))))) .unit)) .unit), (.pair (.int .i64) .unit))),
 (105, ((.pair (.pair (.int .i64) (.pair (.sl (.pair (.int .i64) (.pair (.sl (.pair (.int .i64) (.pair (.sl (.int .i64)) (.pair (.sl (.pair (.int .i64) (.pair (.int .i64) (.pair (.int .i64) (.pair (.int .i64) (.pair (.int .i64) (.pair (.int .i64) .unit))))))) .unit)))) (.pair (.sl (.sl (.int .i64))) (.pair (.sl (.int .i64)) (.pair (.pair (.sl (.int .i64)) (.pair (.int .i64) (.pair (.sl (.int .i64)) .unit))) (.pair (.sl (.pair (.int .i64) (.pair (.int .i64) .unit))) (.pair (.int .i64) (.pair (.int .i64) .unit))))))))) .unit)) .unit), (.pair (.int .i64) (.pair (.int .i64) .unit)))),
 (107, ((.pair (.pair (.int .i64) (.pair (.sl (.pair (.int .i64) (.pair (.sl (.pair (.int .i64) (.pair (.sl (.int .i64)) (.pair (.sl (.pair (.int .i64) (.pair (.int .i64) (.pair (.int .i64) (.pair (.int .i64) (.pair (.int .i64) (.pair (.int .i64) .unit))))))) .unit)))) (.pair (.sl (.sl (.int .i64))) (.pair (.sl (.int .i64)) (.pair (.pair (.sl (.int .i64)) (.pair (.int .i64) (.pair (.sl (.int .i64)) .unit))) (.pair (.sl (.pair (.int .i64) (.pair (.int .i64) .unit))) (.pair (.int .i64) (.pair (.int .i64) .unit))))))))) .unit)) (.pair (.sl (.pair .str (.pair .str .unit))) .unit)), (.pair (.sl (.pair .str (.pair .str .unit))) (.pair (.int .i64) .unit)))),
 (108, ((.pair (.pair .str (.pair .str .unit)) (.pair (.pair .str (.pair .str .unit)) (.pair (.pair .str (.pair .str .unit)) .unit))), (.pair (.pair .str (.pair .str .unit)) (.pair (.int .i64) .unit)))),
 (109, ((.pair (.pair .str (.pair .str .unit)) .unit), (.pair (.pair .str (.pair .str .unit)) (.pair (.int .i64) .unit)))),
 (110, ((.pair (.pair .str (.pair .str .unit)) (.pair (.pair .str (.pair .str .unit)) .unit)), (.pair (.pair .str (.pair .str .unit)) (.pair (.int .i64) .unit)))),
 (111, ((.pair (.pair .str (.pair .str .unit)) (.pair (.pair .str (.pair .str .unit)) .unit)), (.pair (.pair .str (.pair .str .unit)) (.pair (.int .i64) .unit)))),
 (112, ((.pair (.int .i64) (.pair (.int .i64) .unit)), (.pair (.int .i64) (.pair (.int .i64) (.pair (.int .i64) .unit))))),
 (113, ((.pair .str (.pair (.int .i64) .unit)), (.pair (.sl .str) .unit))),
 (114, ((.pair .str (.pair .str .unit)), (.pair (.int .i64) .unit))),
 (115, ((.pair .str (.pair .str .unit)), (.pair (.int .i64) .unit))),
 (117, ((.pair (.pair (.pair .bool (.pair (.sl (.int .i64)) .unit)) (.pair (.pair .bool (.pair (.sl (.int .i64)) .unit)) .unit)) .unit), (.pair (.pair .str (.pair .str .unit)) (.pair (.int .i64) .unit)))),
 (118, ((.pair (.int .i64) (.pair (.int .i64) .unit)), (.pair (.pair (.pair .bool (.pair (.sl (.int .i64)) .unit)) (.pair (.pair .bool (.pair (.sl (.int .i64)) .unit)) .unit)) .unit))),
 (122, ((.pair (.int .i64) (.pair (.int .i64) .unit)), (.pair .str .unit))),
 (123, ((.pair .str .unit), (.pair (.int .i64) .unit))),
 (124, ((.pair .str .unit), (.pair (.pair (.sl (.int .u32)) (.pair .bool .unit)) .unit))),
 (125, ((.pair (.sl (.int .u32)) (.pair (.sl (.int .u32)) .unit)), (.pair (.sl (.int .u32)) .unit))),
 (126, ((.pair (.sl (.int .u32)) (.pair (.sl (.int .u32)) .unit)), (.pair (.int .i64) .unit))),
 (127, ((.pair (.pair (.sl (.int .u32)) (.pair .bool .unit)) (.pair (.sl (.int .u32)) .unit)), (.pair (.pair (.sl (.int .u32)) (.pair .bool .unit)) .unit))),
 (128, ((.pair (.sl (.int .u32)) (.pair (.sl (.int .u32)) .unit)), (.pair (.sl (.int .u32)) .unit))),
 (129, ((.pair (.pair (.sl (.int .u32)) (.pair .bool .unit)) (.pair (.pair (.sl (.int .u32)) (.pair .bool .unit)) .unit)), (.pair (.pair (.sl (.int .u32)) (.pair .bool .unit)) .unit))),
 (130, ((.pair (.sl (.int .u32)) (.pair .bool .unit)), (.pair (.pair (.sl (.int .u32)) (.pair .bool .unit)) .unit))),
 (131, ((.pair (.pair (.sl (.int .u32)) (.pair .bool .unit)) (.pair (.sl (.int .u32)) .unit)), (.pair (.pair (.sl (.int .u32)) (.pair .bool .unit)) .unit))),
 (132, ((.pair (.sl (.int .u32)) .unit), (.pair (.sl (.int .u32)) .unit))),
 (133, ((.pair (.int .u64) (.pair (.int .u64) .unit)), (.pair (.int .u64) (.pair (.int .u64) .unit)))),
 (137, ((.pair .str .unit), (.pair .bool .unit))),
 (138, ((.pair .str .unit), (.pair (.pair .bool (.pair (.sl (.int .i64)) .unit)) .unit))),
 (139, ((.pair (.pair .bool (.pair (.sl (.int .i64)) .unit)) (.pair (.pair .bool (.pair (.sl (.int .i64)) .unit)) .unit)), (.pair (.pair .bool (.pair (.sl (.int .i64)) .unit)) .unit))),
 (140, ((.pair (.pair (.pair .bool (.pair (.sl (.int .i64)) .unit)) (.pair (.pair .bool (.pair (.sl (.int .i64)) .unit)) .unit)) .unit), (.pair (.pair .bool (.pair (.sl (.int .i64)) .unit)) .unit))),
 (141, ((.pair (.pair (.pair .bool (.pair (.sl (.int .i64)) .unit)) (.pair (.pair .bool (.pair (.sl (.int .i64)) .unit)) .unit)) (.pair (.pair (.pair .bool (.pair (.sl (.int .i64)) .unit)) (.pair (.pair .bool (.pair (.sl (.int .i64)) .unit)) .unit)) .unit)), (.pair (.pair (.pair .bool (.pair (.sl (.int .i64)) .unit)) (.pair (.pair .bool (.pair (.sl (.int .i64)) .unit)) .unit)) .unit))),
 (142, ((.pair (.pair .bool (.pair (.sl (.int .i64)) .unit)) (.pair (.pair .bool (.pair (.sl (.int .i64)) .unit)) .unit)), (.pair (.pair .bool (.pair (.sl (.int .i64)) .unit)) .unit))),
 (143, ((.pair (.pair .bool (.pair (.sl (.int .i64)) .unit)) .unit), (.pair (.pair .bool (.pair (.sl (.int .i64)) .unit)) .unit))),
 (144, ((.pair (.pair .bool (.pair (.sl (.int .i64)) .unit)) (.pair (.int .i64) .unit)), (.pair (.pair .bool (.pair (.sl (.int .i64)) .unit)) .unit))),
 (145, ((.pair .bool (.pair (.sl (.int .i64)) .unit)), (.pair (.pair .bool (.pair (.sl (.int .i64)) .unit)) .unit))),
 (146, ((.pair (.sl (.int .i64)) (.pair (.sl (.int .i64)) .unit)), (.pair (.sl (.int .i64)) (.pair (.sl (.int .i64)) .unit)))),
 (147, ((.pair (.pair .bool (.pair (.sl (.int .i64)) .unit)) (.pair (.pair .bool (.pair (.sl (.int .i64)) .unit)) .unit)), (.pair (.pair .bool (.pair (.sl (.int .i64)) .unit)) .unit))),
 (148, ((.pair (.pair .bool (.pair (.sl (.int .i64)) .unit)) (.pair (.pair .bool (.pair (.sl (.int .i64)) .unit)) .unit)), (.pair (.pair .bool (.pair (.sl (.int .i64)) .unit)) .unit))),
 (149, ((.pair (.int .i64) .unit), (.pair .str .unit))),
 (150, ((.pair (.pair (.sl (.int .u32)) (.pair .bool .unit)) .unit), (.pair (.pair (.sl (.int .u32)) (.pair .bool .unit)) .unit))),
 (151, ((.pair (.pair (.pair .bool (.pair (.sl (.int .i64)) .unit)) (.pair (.pair .bool (.pair (.sl (.int .i64)) .unit)) .unit)) (.pair (.pair (.pair .bool (.pair (.sl (.int .i64)) .unit)) (.pair (.pair .bool (.pair (.sl (.int .i64)) .unit)) .unit)) .unit)), (.pair (.int .i64) .unit))),
 (152, ((.pair (.sl (.int .u32)) (.pair (.sl (.int .u32)) .unit)), (.pair (.sl (.int .u32)) (.pair (.sl (.int .u32)) .unit)))),
 (153, ((.pair (.sl (.int .u32)) .unit), (.pair (.int .i64) .unit))),
 (154, ((.pair (.pair (.sl (.int .u32)) (.pair .bool .unit)) .unit), (.pair .str .unit))),
 (155, ((.pair (.pair (.pair .bool (.pair (.sl (.int .i64)) .unit)) (.pair (.pair .bool (.pair (.sl (.int .i64)) .unit)) .unit)) (.pair (.pair (.pair .bool (.pair (.sl (.int .i64)) .unit)) (.pair (.pair .bool (.pair (.sl (.int .i64)) .unit)) .unit)) .unit)), (.pair (.pair (.pair .bool (.pair (.sl (.int .i64)) .unit)) (.pair (.pair .bool (.pair (.sl (.int .i64)) .unit)) .unit)) .unit))),
 (156, ((.pair (.pair (.sl (.int .u32)) (.pair .bool .unit)) (.pair (.sl (.int .u32)) .unit)), (.pair (.pair (.pair (.sl (.int .u32)) (.pair .bool .unit)) (.pair (.sl (.int .u32)) .unit)) .unit))),
 (157, ((.pair (.pair (.pair (.int .i64) (.pair (.sl (.pair (.int .i64) (.pair (.sl (.pair (.int .i64) (.pair (.sl (.int .i64)) (.pair (.sl (.pair (.int .i64) (.pair (.int .i64) (.pair (.int .i64) (.pair (.int .i64) (.pair (.int .i64) (.pair (.int .i64) .unit))))))) .unit)))) (.pair (.sl (.sl (.int .i64))) (.pair (.sl (.int .i64)) (.pair (.pair (.sl (.int .i64)) (.pair (.int .i64) (.pair (.sl (.int .i64)) .unit))) (.pair (.sl (.pair (.int .i64) (.pair (.int .i64) .unit))) (.pair (.int .i64) (.pair (.int .i64) .unit))))))))) .unit)) .unit) .unit), (.pair (.int .i64) (.pair .bool .unit)))),
 (160, ((.pair (.pair (.int .i64) (.pair (.sl (.pair (.int .i64) (.pair (.sl (.int .i64)) (.pair (.sl (.pair (.int .i64) (.pair (.int .i64) (.pair (.int .i64) (.pair (.int .i64) (.pair (.int .i64) (.pair (.int .i64) .unit))))))) .unit)))) (.pair (.sl (.sl (.int .i64))) (.pair (.sl (.int .i64)) (.pair (.pair (.sl (.int .i64)) (.pair (.int .i64) (.pair (.sl (.int .i64)) .unit))) (.pair (.sl (.pair (.int .i64) (.pair (.int .i64) .unit))) (.pair (.int .i64) (.pair (.int .i64) .unit)))))))) (.pair (.sl (.pair .str (.pair .str .unit))) .unit)), (.pair (.sl (.pair .str (.pair .str .unit))) (.pair (.int .i64) .unit)))),
 (161, ((.pair (.pair (.pair (.sl (.int .u32)) (.pair .bool .unit)) (.pair (.sl (.int .u32)) .unit)) (.pair (.pair (.pair (.sl (.int .u32)) (.pair .bool .unit)) (.pair (.sl (.int .u32)) .unit)) .unit)), (.pair (.pair (.pair (.sl (.int .u32)) (.pair .bool .unit)) (.pair (.sl (.int .u32)) .unit)) .unit))),
 (162, ((.pair (.pair (.pair (.sl (.int .u32)) (.pair .bool .unit)) (.pair (.sl (.int .u32)) .unit)) (.pair (.pair (.pair (.sl (.int .u32)) (.pair .bool .unit)) (.pair (.sl (.int .u32)) .unit)) .unit)), (.pair (.pair (.pair (.sl (.int .u32)) (.pair .bool .unit)) (.pair (.sl (.int .u32)) .unit)) .unit))),
 (163, ((.pair (.pair (.pair (.sl (.int .u32)) (.pair .bool .unit)) (.pair (.sl (.int .u32)) .unit)) (.pair (.pair (.pair (.sl (.int .u32)) (.pair .bool .unit)) (.pair (.sl (.int .u32)) .unit)) .unit)), (.pair (.pair (.pair (.sl (.int .u32)) (.pair .bool .unit)) (.pair (.sl (.int .u32)) .unit)) .unit))),
 (166, ((.pair .str .unit), (.pair (.int .i64) .unit))),
 (167, ((.pair .str .unit), (.pair (.int .i32) (.pair (.int .i64) .unit)))),
 (169, ((.pair .str (.pair .str .unit)), (.pair (.int .i64) .unit))),
 (170, ((.pair (.sl (.pair (.int .u16) (.pair (.int .u16) (.pair (.int .u16) .unit)))) (.pair (.int .u16) .unit)), (.pair .bool .unit))),
 (171, ((.pair (.sl (.pair (.int .u32) (.pair (.int .u32) (.pair (.int .u32) .unit)))) (.pair (.int .u32) .unit)), (.pair .bool .unit))),
 (174, ((.pair (.int .i64) .unit), (.pair .str .unit))),
 (175, ((.pair (.int .u64) .unit), (.pair (.int .i64) .unit))),
 (176, ((.pair (.sl (.int .u8)) (.pair (.int .u64) .unit)), .unit)),
 (177, ((.pair (.sl (.int .u8)) (.pair (.int .u64) (.pair (.int .i64) (.pair .bool (.pair .bool .unit))))), (.pair (.sl (.int .u8)) (.pair .str .unit)))),
 (178, ((.pair .str .unit), (.pair (.pair (.sl (.int .u32)) (.pair .bool .unit)) (.pair .bool .unit)))),
 (179, ((.pair .str (.pair .str .unit)), (.pair .str (.pair .bool .unit)))),
 (180, ((.pair (.sl (.int .u32)) .unit), (.pair (.int .u64) .unit))),
 (181, ((.pair (.int .u64) .unit), (.pair (.sl (.int .u32)) .unit))),
 (182, ((.pair (.int .i64) (.pair (.int .i64) .unit)), (.pair (.int .i64) .unit))),
 (183, ((.pair (.int .u32) (.pair (.int .u32) .unit)), (.pair (.int .i64) .unit))),
 (184, ((.pair (.sl (.int .u32)) (.pair (.sl (.int .u32)) .unit)), (.pair (.sl (.int .u32)) .unit))),
 (185, ((.pair (.sl (.int .u32)) (.pair (.sl (.int .u32)) .unit)), (.pair (.sl (.int .u32)) .unit))),
 (186, ((.pair (.int .u32) (.pair (.int .u32) .unit)), (.pair (.int .u32) (.pair (.int .u32) .unit)))),
 (187, ((.pair (.int .u64) (.pair (.int .u64) .unit)), (.pair (.int .u64) (.pair (.int .u64) .unit)))),
 (188, ((.pair (.sl (.int .i64)) (.pair (.sl (.int .i64)) .unit)), (.pair (.sl (.int .i64)) .unit))),
 (189, ((.pair (.sl (.int .i64)) .unit), (.pair (.sl (.int .i64)) .unit))),
 (190, ((.pair (.sl (.int .i64)) (.pair (.int .i64) .unit)), (.pair (.sl (.int .i64)) (.pair (.int .i64) .unit)))),
 (191, ((.pair (.sl (.int .i64)) (.pair (.sl (.int .i64)) .unit)), (.pair (.int .i64) .unit))),
 (192, ((.pair (.sl (.int .i64)) (.pair (.sl (.int .i64)) .unit)), (.pair (.sl (.int .i64)) .unit))),
 (193, ((.pair (.sl (.int .i64)) (.pair (.sl (.int .i64)) .unit)), (.pair (.sl (.int .i64)) .unit))),
 (194, ((.pair (.pair .bool (.pair (.sl (.int .i64)) .unit)) (.pair (.pair .bool (.pair (.sl (.int .i64)) .unit)) .unit)), (.pair (.int .i64) .unit))),
 (195, ((.pair (.sl (.int .u32)) (.pair (.int .u32) .unit)), (.pair (.sl (.int .u32)) (.pair (.int .u32) .unit)))),
 (198, ((.pair (.pair (.int .i64) (.pair (.sl (.pair (.int .i64) (.pair (.sl (.int .i64)) (.pair (.sl (.pair (.int .i64) (.pair (.int .i64) (.pair (.int .i64) (.pair (.int .i64) (.pair (.int .i64) (.pair (.int .i64) .unit))))))) .unit)))) (.pair (.sl (.sl (.int .i64))) (.pair (.sl (.int .i64)) (.pair (.pair (.sl (.int .i64)) (.pair (.int .i64) (.pair (.sl (.int .i64)) .unit))) (.pair (.sl (.pair (.int .i64) (.pair (.int .i64) .unit))) (.pair (.int .i64) (.pair (.int .i64) .unit)))))))) .unit), (.pair (.int .i64) (.pair (.int .i64) .unit)))),
 (199, ((.pair (.pair (.int .i64) (.pair (.sl (.pair (.int .i64) (.pair (.sl (.int .i64)) (.pair (.sl (.pair (.int .i64) (.pair (.int .i64) (.pair (.int .i64) (.pair (.int .i64) (.pair (.int .i64) (.pair (.int .i64) .unit))))))) .unit)))) (.pair (.sl (.sl (.int .i64))) (.pair (.sl (.int .i64)) (.pair (.pair (.sl (.int .i64)) (.pair (.int .i64) (.pair (.sl (.int .i64)) .unit))) (.pair (.sl (.pair (.int .i64) (.pair (.int .i64) .unit))) (.pair (.int .i64) (.pair (.int .i64) .unit)))))))) .unit), (.pair (.int .i64) (.pair (.int .i64) .unit)))),
 (202, ((.pair (.sl (.pair .str (.pair .str .unit))) .unit), (.pair (.sl (.pair .str (.pair .str .unit))) .unit))),
 (204, ((.pair (.pair (.pair (.int .i64) (.pair (.sl (.pair (.int .i64) (.pair (.sl (.int .i64)) (.pair (.sl (.pair (.int .i64) (.pair (.int .i64) (.pair (.int .i64) (.pair (.int .i64) (.pair (.int .i64) (.pair (.int .i64) .unit))))))) .unit)))) (.pair (.sl (.sl (.int .i64))) (.pair (.sl (.int .i64)) (.pair (.pair (.sl (.int .i64)) (.pair (.int .i64) (.pair (.sl (.int .i64)) .unit))) (.pair (.sl (.pair (.int .i64) (.pair (.int .i64) .unit))) (.pair (.int .i64) (.pair (.int .i64) .unit)))))))) .unit) (.pair (.sl (.pair .str (.pair .str .unit))) .unit)), (.pair (.sl (.pair .str (.pair .str .unit))) (.pair (.int .i64) .unit)))),
 (205, ((.pair (.pair (.pair (.int .i64) (.pair (.sl (.pair (.int .i64) (.pair (.sl (.int .i64)) (.pair (.sl (.pair (.int .i64) (.pair (.int .i64) (.pair (.int .i64) (.pair (.int .i64) (.pair (.int .i64) (.pair (.int .i64) .unit))))))) .unit)))) (.pair (.sl (.sl (.int .i64))) (.pair (.sl (.int .i64)) (.pair (.pair (.sl (.int .i64)) (.pair (.int .i64) (.pair (.sl (.int .i64)) .unit))) (.pair (.sl (.pair (.int .i64) (.pair (.int .i64) .unit))) (.pair (.int .i64) (.pair (.int .i64) .unit)))))))) .unit) (.pair (.sl (.pair .str (.pair .str .unit))) .unit)), (.pair (.sl (.pair .str (.pair .str .unit))) (.pair (.int .i64) .unit)))),
 (206, ((.pair (.pair (.pair (.int .i64) (.pair (.sl (.pair (.int .i64) (.pair (.sl (.int .i64)) (.pair (.sl (.pair (.int .i64) (.pair (.int .i64) (.pair (.int .i64) (.pair (.int .i64) (.pair (.int .i64) (.pair (.int .i64) .unit))))))) .unit)))) (.pair (.sl (.sl (.int .i64))) (.pair (.sl (.int .i64)) (.pair (.pair (.sl (.int .i64)) (.pair (.int .i64) (.pair (.sl (.int .i64)) .unit))) (.pair (.sl (.pair (.int .i64) (.pair (.int .i64) .unit))) (.pair (.int .i64) (.pair (.int .i64) .unit)))))))) .unit) (.pair (.sl (.pair .str (.pair .str .unit))) .unit)), (.pair (.sl (.pair .str (.pair .str .unit))) (.pair (.int .i64) .unit)))),
 (207, ((.pair (.pair (.pair (.int .i64) (.pair (.sl (.pair (.int .i64) (.pair (.sl (.int .i64)) (.pair (.sl (.pair (.int .i64) (.pair (.int .i64) (.pair (.int .i64) (.pair (.int .i64) (.pair (.int .i64) (.pair (.int .i64) .unit))))))) .unit)))) (.pair (.sl (.sl (.int .i64))) (.pair (.sl (.int .i64)) (.pair (.pair (.sl (.int .i64)) (.pair (.int .i64) (.pair (.sl (.int .i64)) .unit))) (.pair (.sl (.pair (.int .i64) (.pair (.int .i64) .unit))) (.pair (.int .i64) (.pair (.int .i64) .unit)))))))) .unit) (.pair (.sl (.pair .str (.pair .str .unit))) .unit)), (.pair (.sl (.pair .str (.pair .str .unit))) (.pair (.int .i64) .unit)))),
 (208, ((.pair (.pair (.pair (.sl (.int .u32)) (.pair .bool .unit)) (.pair (.sl (.int .u32)) .unit)) .unit), (.pair (.pair (.pair (.sl (.int .u32)) (.pair .bool .unit)) (.pair (.sl (.int .u32)) .unit)) .unit))),
 (210, ((.pair .str .unit), (.pair (.int .i32) (.pair (.int .i64) .unit)))),
 (211, ((.pair .str (.pair (.int .u8) .unit)), (.pair (.int .i64) .unit))),
 (213, ((.pair (.int .i64) .unit), (.pair (.int .i64) .unit))),
 (214, ((.pair .str (.pair .str .unit)), (.pair (.int .i64) .unit))),
 (217, ((.pair (.int .i64) .unit), (.pair (.int .i64) .unit))),
 (218, ((.pair (.int .u64) .unit), (.pair (.int .i64) .unit))),
 (219, ((.pair .bool .unit), (.pair (.int .i64) .unit))),
 (220, ((.pair (.int .i64) .unit), (.pair .bool .unit))),
 (221, ((.pair (.int .u64) .unit), (.pair (.int .i64) .unit))),
 (222, ((.pair .str .unit), (.pair (.sl (.int .u32)) .unit))),
 (223, ((.pair .str (.pair .str .unit)), (.pair .str (.pair .bool .unit)))),
 (224, ((.pair (.int .i64) .unit), (.pair .bool .unit))),
 (225, ((.pair (.int .u32) .unit), (.pair .bool .unit))),
 (226, ((.pair (.pair (.int .i64) (.pair (.sl (.pair (.int .i64) (.pair (.sl (.int .i64)) (.pair (.sl (.pair (.int .i64) (.pair (.int .i64) (.pair (.int .i64) (.pair (.int .i64) (.pair (.int .i64) (.pair (.int .i64) .unit))))))) .unit)))) (.pair (.sl (.sl (.int .i64))) (.pair (.sl (.int .i64)) (.pair (.pair (.sl (.int .i64)) (.pair (.int .i64) (.pair (.sl (.int .i64)) .unit))) (.pair (.sl (.pair (.int .i64) (.pair (.int .i64) .unit))) (.pair (.int .i64) (.pair (.int .i64) .unit)))))))) .unit), (.pair (.int .i64) .unit))),
 (230, ((.pair (.pair (.int .i64) (.pair (.sl (.int .i64)) (.pair (.sl (.pair (.int .i64) (.pair (.int .i64) (.pair (.int .i64) (.pair (.int .i64) (.pair (.int .i64) (.pair (.int .i64) .unit))))))) .unit))) (.pair (.pair .str (.pair .str .unit)) .unit)), (.pair (.pair .str (.pair .str .unit)) (.pair (.int .i64) .unit)))),
 (232, ((.pair (.int .i64) .unit), (.pair (.pair .str (.pair .str .unit)) (.pair (.int .i64) .unit)))),
 (233, ((.pair (.pair (.sl (.int .i64)) (.pair (.int .i64) (.pair (.sl (.int .i64)) .unit))) (.pair (.sl (.pair .str (.pair .str .unit))) .unit)), (.pair (.sl (.pair .str (.pair .str .unit))) (.pair (.int .i64) .unit)))),
 (234, ((.pair (.sl (.pair (.int .i64) (.pair (.int .i64) .unit))) (.pair (.sl (.pair .str (.pair .str .unit))) (.pair (.int .i64) .unit))), (.pair (.sl (.pair .str (.pair .str .unit))) (.pair (.int .i64) .unit)))),
 (236, ((.pair .str .unit), (.pair (.int .u32) (.pair (.int .u32) .unit)))),
 (237, ((.pair (.int .u32) .unit), (.pair (.int .i64) .unit))),
 (238, ((.pair (.int .u64) .unit), (.pair (.int .i64) .unit))),
 (239, ((.pair (.sl (.int .u32)) .unit), (.pair (.sl (.int .u32)) .unit))),
 (240, ((.pair (.sl (.pair (.int .i64) (.pair (.sl (.int .i64)) (.pair (.sl (.pair (.int .i64) (.pair (.int .i64) (.pair (.int .i64) (.pair (.int .i64) (.pair (.int .i64) (.pair (.int .i64) .unit))))))) .unit)))) .unit), (.pair .bool .unit))),
 (241, ((.pair (.sl (.sl (.int .i64))) (.pair (.sl (.int .i64)) .unit)), (.pair .bool .unit))),
 (242, ((.pair (.pair (.sl (.int .i64)) (.pair (.int .i64) (.pair (.sl (.int .i64)) .unit))) .unit), (.pair (.int .i64) .unit))),
 (243, ((.pair (.sl (.pair (.int .i64) (.pair (.int .i64) .unit))) (.pair (.int .i64) (.pair (.int .i64) .unit))), (.pair (.int .i64) .unit))),
 (244, ((.pair (.pair (.int .i64) (.pair (.sl (.int .i64)) (.pair (.sl (.pair (.int .i64) (.pair (.int .i64) (.pair (.int .i64) (.pair (.int .i64) (.pair (.int .i64) (.pair (.int .i64) .unit))))))) .unit))) .unit), (.pair (.int .i64) .unit))),
 (245, ((.pair (.pair (.pair (.int .i64) (.pair (.sl (.int .i64)) (.pair (.sl (.pair (.int .i64) (.pair (.int .i64) (.pair (.int .i64) (.pair (.int .i64) (.pair (.int .i64) (.pair (.int .i64) .unit))))))) .unit))) .unit) (.pair (.pair .str (.pair .str .unit)) .unit)), (.pair (.pair .str (.pair .str .unit)) (.pair (.int .i64) .unit)))),
 (246, ((.pair (.pair (.pair (.int .i64) (.pair (.sl (.int .i64)) (.pair (.sl (.pair (.int .i64) (.pair (.int .i64) (.pair (.int .i64) (.pair (.int .i64) (.pair (.int .i64) (.pair (.int .i64) .unit))))))) .unit))) .unit) (.pair (.pair .str (.pair .str .unit)) .unit)), (.pair (.pair .str (.pair .str .unit)) (.pair (.int .i64) .unit)))),
 (247, ((.pair (.pair (.pair (.int .i64) (.pair (.sl (.int .i64)) (.pair (.sl (.pair (.int .i64) (.pair (.int .i64) (.pair (.int .i64) (.pair (.int .i64) (.pair (.int .i64) (.pair (.int .i64) .unit))))))) .unit))) .unit) (.pair (.pair .str (.pair .str .unit)) .unit)), (.pair (.pair .str (.pair .str .unit)) (.pair (.int .i64) .unit)))),
 (248, ((.pair (.pair .str (.pair .str .unit)) .unit), (.pair (.pair .str (.pair .str .unit)) .unit))),
 (253, ((.pair (.pair (.sl (.int .i64)) (.pair (.int .i64) (.pair (.sl (.int .i64)) .unit))) (.pair (.sl (.pair .str (.pair .str .unit))) .unit)), (.pair (.pair (.pair (.sl (.int .i64)) (.pair (.int .i64) (.pair (.sl (.int .i64)) .unit))) (.pair (.sl (.int .i64)) (.pair (.sl (.int .i64)) (.pair (.sl (.pair .str (.pair .str .unit))) .unit)))) (.pair (.int .i64) .unit)))),
 (254, ((.pair (.pair (.pair (.sl (.int .i64)) (.pair (.int .i64) (.pair (.sl (.int .i64)) .unit))) (.pair (.sl (.int .i64)) (.pair (.sl (.int .i64)) (.pair (.sl (.pair .str (.pair .str .unit))) .unit)))) .unit), (.pair (.sl (.pair .str (.pair .str .unit))) (.pair (.int .i64) .unit)))),
 (258, ((.pair (.pair (.int .i64) (.pair (.sl (.int .i64)) (.pair (.sl (.pair (.int .i64) (.pair (.int .i64) (.pair (.int .i64) (.pair (.int .i64) (.pair (.int .i64) (.pair (.int .i64) .unit))))))) .unit))) .unit), (.pair .bool .unit))),
 (260, ((.pair (.int .i64) .unit), (.pair .bool .unit))),
 (261, ((.pair (.int .i64) (.pair (.int .i64) (.pair (.int .i64) .unit))), (.pair .bool .unit))),
 (262, ((.pair (.sl (.int .i64)) .unit), (.pair (.int .i64) .unit))),
 (263, ((.pair (.sl (.pair (.int .i64) (.pair (.int .i64) .unit))) (.pair (.int .i64) (.pair (.int .i64) .unit))), (.pair (.int .i64) (.pair (.int .i64) .unit)))),
 (264, ((.pair (.sl (.int .i64)) .unit), (.pair .bool .unit))),
 (265, ((.pair (.pair (.int .i64) (.pair (.sl (.int .i64)) (.pair (.sl (.pair (.int .i64) (.pair (.int .i64) (.pair (.int .i64) (.pair (.int .i64) (.pair (.int .i64) (.pair (.int .i64) .unit))))))) .unit))) .unit), (.pair .bool .unit))),
 (266, ((.pair (.int .i64) .unit), (.pair (.pair .str (.pair .str .unit)) .unit))),
 (267, ((.pair (.pair .str (.pair .str .unit)) .unit), (.pair .str (.pair (.int .i64) .unit)))),
 (271, ((.pair (.int .i64) (.pair (.int .i64) .unit)), (.pair (.pair .str (.pair .str .unit)) .unit))),
 (272, ((.pair (.pair (.pair (.int .i64) (.pair (.int .i64) (.pair (.int .i64) (.pair (.int .i64) (.pair (.int .i64) (.pair (.int .i64) .unit)))))) (.pair (.int .i64) (.pair .bool .unit))) (.pair (.pair .str (.pair .str .unit)) .unit)), (.pair (.pair .str (.pair .str .unit)) (.pair (.int .i64) .unit)))),
 (275, ((.pair (.pair .str (.pair .str .unit)) (.pair (.pair .str (.pair .str .unit)) .unit)), (.pair (.int .i64) .unit))),
 (276, ((.pair (.pair (.sl (.int .i64)) (.pair (.int .i64) (.pair (.sl (.int .i64)) .unit))) (.pair (.sl (.pair .str (.pair .str .unit))) .unit)), (.pair (.pair (.pair (.sl (.int .i64)) (.pair (.int .i64) (.pair (.sl (.int .i64)) .unit))) (.pair (.sl (.int .i64)) (.pair (.sl (.int .i64)) (.pair (.sl (.pair .str (.pair .str .unit))) .unit)))) (.pair (.int .i64) .unit)))),
 (277, ((.pair (.pair (.pair (.sl (.int .i64)) (.pair (.int .i64) (.pair (.sl (.int .i64)) .unit))) (.pair (.sl (.int .i64)) (.pair (.sl (.int .i64)) (.pair (.sl (.pair .str (.pair .str .unit))) .unit)))) (.pair (.arr 4 (.int .i64)) .unit)), (.pair (.sl (.int .i64)) (.pair (.int .i64) .unit)))),
 (282, ((.pair (.int .i64) .unit), (.pair (.pair .str (.pair .str .unit)) .unit))),
 (283, ((.pair (.sl (.pair .str (.pair .str .unit))) .unit), (.pair (.pair .str (.pair .str .unit)) (.pair (.int .i64) .unit)))),
 (284, ((.pair (.int .i64) .unit), (.pair (.pair .str (.pair .str .unit)) (.pair (.int .i64) .unit)))),
 (286, ((.pair (.pair .str (.pair .str .unit)) (.pair (.pair .str (.pair .str .unit)) .unit)), (.pair (.pair .str (.pair .str .unit)) (.pair (.int .i64) .unit)))),
 (288, ((.pair (.pair .str (.pair .str .unit)) .unit), (.pair (.pair .str (.pair .str .unit)) (.pair (.int .i64) .unit)))),
 (289, ((.pair (.sl (.pair .str (.pair .str .unit))) .unit), (.pair (.pair .str (.pair .str .unit)) (.pair (.int .i64) .unit)))),
 (290, ((.pair (.pair .str (.pair .str .unit)) .unit), (.pair (.pair .str (.pair .str .unit)) (.pair (.int .i64) .unit)))),
 (300, ((.pair (.int .i64) .unit), (.pair (.int .i64) (.pair .bool .unit)))),
 (301, ((.pair (.pair (.int .i64) (.pair (.int .i64) .unit)) (.pair (.int .i64) (.pair (.int .i64) .unit))), (.pair .bool .unit))),
 (302, ((.pair (.int .i64) (.pair (.int .i64) (.pair (.int .i64) .unit))), (.pair .bool .unit))),
 (303, ((.pair (.pair (.pair (.int .i64) (.pair (.int .i64) (.pair (.int .i64) (.pair (.int .i64) (.pair (.int .i64) (.pair (.int .i64) .unit)))))) (.pair (.int .i64) (.pair .bool .unit))) .unit), (.pair .bool .unit))),
 (308, ((.pair (.pair .str (.pair .str .unit)) (.pair (.int .i64) .unit)), (.pair (.int .i64) (.pair (.pair .str (.pair .str .unit)) (.pair (.int .i64) .unit))))),
 (311, ((.pair (.pair (.sl (.int .i64)) (.pair (.int .i64) (.pair (.sl (.int .i64)) .unit))) (.pair (.sl (.int .i64)) .unit)), (.pair (.sl (.int .i64)) (.pair (.int .i64) .unit)))),
 (313, ((.pair (.int .i64) (.pair (.int .i64) .unit)), (.pair (.pair .str (.pair .str .unit)) .unit))),
 (317, ((.pair (.sl (.pair .str (.pair .str .unit))) .unit), (.pair (.int .i64) .unit))),
 (324, ((.pair (.pair (.pair (.sl (.int .i64)) (.pair (.int .i64) (.pair (.sl (.int .i64)) .unit))) .unit) (.pair (.sl (.int .i64)) .unit)), (.pair (.arr 4 (.int .i64)) (.pair .bool .unit)))),
 (325, ((.pair (.pair (.pair (.sl (.int .i64)) (.pair (.int .i64) (.pair (.sl (.int .i64)) .unit))) .unit) (.pair (.arr 4 (.int .i64)) .unit)), (.pair (.sl (.int .i64)) .unit))),
 (327, ((.pair .str .unit), (.pair .str .unit))),
 (331, ((.pair (.pair (.pair (.sl (.int .i64)) (.pair (.int .i64) (.pair (.sl (.int .i64)) .unit))) .unit) (.pair (.arr 4 (.int .i64)) .unit)), (.pair (.int .i64) .unit))),
 (332, ((.pair (.int .u8) .unit), (.pair (.int .u8) .unit))),
 (333, ((.pair .str .unit), (.pair .bool .unit))),
 (374, (.unit, .unit))]
open Go Go.Proofs
set_option maxRecDepth 1000000
theorem aqO : adF (Gt Tryz.prog) := aJ0 (by kernel_rfl)
theorem aqC : Tryz.prog.follows .mixedOrders = true := by kernel_rfl
def awH (P : Program) : Sig → Bool
 | [] => true
 | x :: r => match acF P x.1 with
  | true => awH P r
  | false => false
theorem an7 {P : Program} : ∀ {s : Sig}, awH P s = true → ∀ x ∈ s, acF P x.1 = true
 | [], _, _, h => by cases h
 | q :: r, hc, x, h => by
  simp only [awH] at hc
  split at hc
  ·rename_i hq
   rcases zm.1 h with e | h
   ·rw [e]; exact hq
   ·exact an7 hc x h
  ·cases hc
theorem ahP : ∀ x ∈ agK, acF Tryz.prog x.1 = true := an7 (by kernel_rfl)
def aAk : aa8 := aBm 34 75 70
theorem aMq : adR Tryz.prog (Gt Tryz.prog) aAk :=
 aMj 34 75 70 (aN1 34 75 (by kernel_rfl) (by kernel_rfl) (fun n h0 h1 w h => Tryz.strconv_Itoa n h0 h1 w h) (fun s c w h1 h2 => Tryz.strings_Repeat s c w h1 h2)) (by kernel_rfl) (fun bk o c xs sep w h1 h2 h3 h4 h5 => Tryz.strings_Join bk o c xs sep w h1 h2 h3 h4 h5)
open Go Go.Proofs
set_option maxRecDepth 1000000
set_option maxHeartbeats 0
def aNw : Row := ⟨74, (.pair .str .unit), (.pair (.sl (.int .u32)) .unit), ([(([49], ()), ([(.ofNat 1)], ())),
 (([54,53,53,51,53], ()), ([(.ofNat 65535)], ())),
 (([49,48,48,48,48,48,48], ()), ([(.ofNat 1000000)], ()))] : List ((List UInt8 × Unit) × (List Int × Unit)))⟩
def aNv : Row := ⟨76, (.pair (.sl (.int .u32)) .unit), (.pair .str .unit), ([(([(.ofNat 1)], ()), ([49], ())),
 (([(.ofNat 2)], ()), ([50], ())),
 (([(.ofNat 65535)], ()), ([54,53,53,51,53], ())),
 (([(.ofNat 3)], ()), ([51], ()))] : List ((List Int × Unit) × (List UInt8 × Unit)))⟩
def aLb : Row := ⟨105, (.pair (.pair (.int .i64) (.pair (.sl (.pair (.int .i64) (.pair (.sl (.pair (.int .i64) (.pair (.sl (.int .i64)) (.pair (.sl (.pair (.int .i64) (.pair (.int .i64) (.pair (.int .i64) (.pair (.int .i64) (.pair (.int .i64) (.pair (.int .i64) .unit))))))) .unit)))) (.pair (.sl (.sl (.int .i64))) (.pair (.sl (.int .i64)) (.pair (.pair (.sl (.int .i64)) (.pair (.int .i64) (.pair (.sl (.int .i64)) .unit))) (.pair (.sl (.pair (.int .i64) (.pair (.int .i64) .unit))) (.pair (.int .i64) (.pair (.int .i64) .unit))))))))) .unit)) .unit), (.pair (.int .i64) (.pair (.int .i64) .unit)), ([((((.ofNat 2), ([], ())), ()), ((.ofNat 2), ((.ofNat 0), ()))),
 ((((.ofNat 1), ([], ())), ()), ((.ofNat 1), ((.ofNat 0), ())))] : List (((Int × (List (Int × (List (Int × (List Int × (List (Int × (Int × (Int × (Int × (Int × (Int × Unit)))))) × Unit))) × (List (List Int) × (List Int × ((List Int × (Int × (List Int × Unit))) × (List (Int × (Int × Unit)) × (Int × (Int × Unit)))))))) × Unit)) × Unit) × (Int × (Int × Unit))))⟩
def aLa : Row := ⟨125, (.pair (.sl (.int .u32)) (.pair (.sl (.int .u32)) .unit)), (.pair (.sl (.int .u32)) .unit), ([(([], ([(.ofNat 1)], ())), ([(.ofNat 1)], ())),
 (([], ([(.ofNat 2)], ())), ([(.ofNat 2)], ())),
 (([(.ofNat 1)], ([(.ofNat 1)], ())), ([(.ofNat 1)], ())),
 (([(.ofNat 1)], ([(.ofNat 2)], ())), ([(.ofNat 1)], ())),
 (([(.ofNat 2)], ([(.ofNat 2)], ())), ([(.ofNat 2)], ())),
 (([(.ofNat 9)], ([(.ofNat 1)], ())), ([(.ofNat 1)], ())),
 (([(.ofNat 65535)], ([(.ofNat 1)], ())), ([(.ofNat 1)], ())),
 (([(.ofNat 65535)], ([(.ofNat 65535)], ())), ([(.ofNat 65535)], ())),
 (([(.ofNat 2)], ([(.ofNat 1)], ())), ([(.ofNat 1)], ())),
 (([(.ofNat 65535)], ([(.ofNat 2)], ())), ([(.ofNat 1)], ())),
 (([(.ofNat 3)], ([(.ofNat 1)], ())), ([(.ofNat 1)], ())),
 (([(.ofNat 2)], ([(.ofNat 3)], ())), ([(.ofNat 1)], ()))] : List ((List Int × (List Int × Unit)) × (List Int × Unit)))⟩
def aK9 : Row := ⟨126, (.pair (.sl (.int .u32)) (.pair (.sl (.int .u32)) .unit)), (.pair (.int .i64) .unit), ([(([], ([(.ofNat 1)], ())), ((.negSucc 0), ())),
 (([(.ofNat 1)], ([(.ofNat 2)], ())), ((.negSucc 0), ()))] : List ((List Int × (List Int × Unit)) × (Int × Unit)))⟩
def aK8 : Row := ⟨127, (.pair (.pair (.sl (.int .u32)) (.pair .bool .unit)) (.pair (.sl (.int .u32)) .unit)), (.pair (.pair (.sl (.int .u32)) (.pair .bool .unit)) .unit), ([((([], (false, ())), ([(.ofNat 2)], ())), (([], (false, ())), ()))] : List (((List Int × (Bool × Unit)) × (List Int × Unit)) × ((List Int × (Bool × Unit)) × Unit)))⟩
def aK7 : Row := ⟨128, (.pair (.sl (.int .u32)) (.pair (.sl (.int .u32)) .unit)), (.pair (.sl (.int .u32)) .unit), ([(([], ([(.ofNat 1)], ())), ([], ())),
 (([(.ofNat 1)], ([(.ofNat 1)], ())), ([(.ofNat 1)], ())),
 (([(.ofNat 65535)], ([(.ofNat 1)], ())), ([(.ofNat 65535)], ())),
 (([(.ofNat 1)], ([(.ofNat 3)], ())), ([(.ofNat 3)], ()))] : List ((List Int × (List Int × Unit)) × (List Int × Unit)))⟩
def aK6 : Row := ⟨129, (.pair (.pair (.sl (.int .u32)) (.pair .bool .unit)) (.pair (.pair (.sl (.int .u32)) (.pair .bool .unit)) .unit)), (.pair (.pair (.sl (.int .u32)) (.pair .bool .unit)) .unit), ([((([], (false, ())), (([], (false, ())), ())), (([], (false, ())), ())),
 ((([(.ofNat 1)], (false, ())), (([], (false, ())), ())), (([(.ofNat 1)], (false, ())), ())),
 ((([(.ofNat 1)], (false, ())), (([(.ofNat 1)], (true, ())), ())), (([], (false, ())), ())),
 ((([], (false, ())), (([(.ofNat 1)], (false, ())), ())), (([(.ofNat 1)], (false, ())), ()))] : List (((List Int × (Bool × Unit)) × ((List Int × (Bool × Unit)) × Unit)) × ((List Int × (Bool × Unit)) × Unit)))⟩
def aK5 : Row := ⟨132, (.pair (.sl (.int .u32)) .unit), (.pair (.sl (.int .u32)) .unit), ([(([(.ofNat 2), (.ofNat 0)], ()), ([(.ofNat 2)], ())),
 (([(.ofNat 2000000), (.ofNat 0)], ()), ([(.ofNat 2000000)], ()))] : List ((List Int × Unit) × (List Int × Unit)))⟩
def aK4 : Row := ⟨152, (.pair (.sl (.int .u32)) (.pair (.sl (.int .u32)) .unit)), (.pair (.sl (.int .u32)) (.pair (.sl (.int .u32)) .unit)), ([(([(.ofNat 1)], ([(.ofNat 1)], ())), ([(.ofNat 1)], ([], ()))),
 (([], ([(.ofNat 2)], ())), ([], ([], ()))),
 (([(.ofNat 2)], ([(.ofNat 2)], ())), ([(.ofNat 1)], ([], ()))),
 (([(.ofNat 2)], ([(.ofNat 1)], ())), ([(.ofNat 2)], ([], ()))),
 (([(.ofNat 65535)], ([(.ofNat 1)], ())), ([(.ofNat 65535)], ([], ()))),
 (([(.ofNat 65535)], ([(.ofNat 65535)], ())), ([(.ofNat 1)], ([], ()))),
 (([(.ofNat 3)], ([(.ofNat 1)], ())), ([(.ofNat 3)], ([], ())))] : List ((List Int × (List Int × Unit)) × (List Int × (List Int × Unit))))⟩
def aK3 : Row := ⟨179, (.pair .str (.pair .str .unit)), (.pair .str (.pair .bool .unit)), ([(([48], ([45], ())), ([48], (false, ()))),
 (([49], ([45], ())), ([49], (false, ()))),
 (([50], ([45], ())), ([50], (false, ()))),
 (([57], ([45], ())), ([57], (false, ()))),
 (([45,54,53,53,51,53], ([45], ())), ([54,53,53,51,53], (true, ()))),
 (([54,53,53,51,53], ([45], ())), ([54,53,53,51,53], (false, ()))),
 (([45,49], ([45], ())), ([49], (true, ()))),
 (([51], ([45], ())), ([51], (false, ())))] : List ((List UInt8 × (List UInt8 × Unit)) × (List UInt8 × (Bool × Unit))))⟩
def aK2 : Row := ⟨208, (.pair (.pair (.pair (.sl (.int .u32)) (.pair .bool .unit)) (.pair (.sl (.int .u32)) .unit)) .unit), (.pair (.pair (.pair (.sl (.int .u32)) (.pair .bool .unit)) (.pair (.sl (.int .u32)) .unit)) .unit), ([(((([], (false, ())), ([(.ofNat 1)], ())), ()), ((([], (false, ())), ([(.ofNat 1)], ())), ())),
 (((([(.ofNat 1)], (false, ())), ([(.ofNat 1)], ())), ()), ((([(.ofNat 1)], (true, ())), ([(.ofNat 1)], ())), ()))] : List ((((List Int × (Bool × Unit)) × (List Int × Unit)) × Unit) × (((List Int × (Bool × Unit)) × (List Int × Unit)) × Unit)))⟩
def aK1 : Row := ⟨222, (.pair .str .unit), (.pair (.sl (.int .u32)) .unit), ([(([49], ()), ([(.ofNat 1)], ())),
 (([54,53,53,51,53], ()), ([(.ofNat 65535)], ()))] : List ((List UInt8 × Unit) × (List Int × Unit)))⟩
def aK0 : Row := ⟨244, (.pair (.pair (.int .i64) (.pair (.sl (.int .i64)) (.pair (.sl (.pair (.int .i64) (.pair (.int .i64) (.pair (.int .i64) (.pair (.int .i64) (.pair (.int .i64) (.pair (.int .i64) .unit))))))) .unit))) .unit), (.pair (.int .i64) .unit), ([((((.ofNat 2), ([(.ofNat 65535), (.ofNat 0)], ([], ()))), ()), ((.ofNat 0), ()))] : List (((Int × (List Int × (List (Int × (Int × (Int × (Int × (Int × (Int × Unit)))))) × Unit))) × Unit) × (Int × Unit)))⟩
def aOQ : List Row := [aNw, aNv, aLb, aLa, aK9, aK8, aK7, aK6, aK5, aK4, aK3, aK2, aK1, aK0]
theorem aJA : aaV (aaZ Tryz.prog agK 100000 aAk 40) [aNw] = true := by kernel_rfl
theorem aJz : aaV (aaZ Tryz.prog agK 100000 aAk 40) [aNv] = true := by kernel_rfl
theorem aGk : aaV (aaZ Tryz.prog agK 100000 aAk 40) [aLb] = true := by kernel_rfl
theorem aGj : aaV (aaZ Tryz.prog agK 100000 aAk 40) [aLa] = true := by kernel_rfl
theorem aGi : aaV (aaZ Tryz.prog agK 100000 aAk 40) [aK9] = true := by kernel_rfl
theorem aGh : aaV (aaZ Tryz.prog agK 100000 aAk 40) [aK8] = true := by kernel_rfl
theorem aGg : aaV (aaZ Tryz.prog agK 100000 aAk 40) [aK7] = true := by kernel_rfl
theorem aGf : aaV (aaZ Tryz.prog agK 100000 aAk 40) [aK6] = true := by kernel_rfl
theorem aGe : aaV (aaZ Tryz.prog agK 100000 aAk 40) [aK5] = true := by kernel_rfl
theorem aGd : aaV (aaZ Tryz.prog agK 100000 aAk 40) [aK4] = true := by kernel_rfl
theorem aGc : aaV (aaZ Tryz.prog agK 100000 aAk 40) [aK3] = true := by kernel_rfl
theorem aGb : aaV (aaZ Tryz.prog agK 100000 aAk 40) [aK2] = true := by kernel_rfl
theorem aGa : aaV (aaZ Tryz.prog agK 100000 aAk 40) [aK1] = true := by kernel_rfl
theorem aF9 : aaV (aaZ Tryz.prog agK 100000 aAk 40) [aK0] = true := by kernel_rfl
theorem aaC {pf : aa8} {r : Row} {rs : List Row} (h1 : aaV pf [r] = true) (h2 : aaV pf rs = true) : aaV pf (r :: rs) = true := by
 simp only [aaV] at h1 ⊢
 split at h1
 ·exact h2
 ·cases h1
def aEU : aa8 := aiH (alR aOQ) aAk
theorem aMp : adR Tryz.prog (Gt Tryz.prog) aEU := ai4 aqO aqC ahP aMq 100000 40 (aaC aJA (aaC aJz (aaC aGk (aaC aGj (aaC aGi (aaC aGh (aaC aGg (aaC aGf (aaC aGe (aaC aGd (aaC aGc (aaC aGb (aaC aGa (aaC aF9 (rfl)))))))))))))))
open Go Go.Proofs
set_option maxRecDepth 1000000
set_option maxHeartbeats 0
def aNu : Row := ⟨89, (.pair (.pair (.pair (.sl (.int .u32)) (.pair .bool .unit)) (.pair (.sl (.int .u32)) .unit)) (.pair (.pair (.pair (.sl (.int .u32)) (.pair .bool .unit)) (.pair (.sl (.int .u32)) .unit)) .unit)), (.pair (.int .i64) .unit), ([(((([], (false, ())), ([(.ofNat 1)], ())), ((([], (false, ())), ([(.ofNat 1)], ())), ())), ((.ofNat 0), ())),
 (((([(.ofNat 1)], (false, ())), ([(.ofNat 2)], ())), ((([], (false, ())), ([(.ofNat 1)], ())), ())), ((.ofNat 1), ())),
 (((([(.ofNat 1)], (false, ())), ([(.ofNat 1)], ())), ((([(.ofNat 1)], (false, ())), ([(.ofNat 1)], ())), ())), ((.ofNat 0), ())),
 (((([(.ofNat 1)], (false, ())), ([(.ofNat 1)], ())), ((([], (false, ())), ([(.ofNat 1)], ())), ())), ((.ofNat 1), ()))] : List ((((List Int × (Bool × Unit)) × (List Int × Unit)) × (((List Int × (Bool × Unit)) × (List Int × Unit)) × Unit)) × (Int × Unit)))⟩
def aNt : Row := ⟨98, (.pair (.pair (.pair (.sl (.int .u32)) (.pair .bool .unit)) (.pair (.sl (.int .u32)) .unit)) .unit), (.pair (.pair .str (.pair .str .unit)) (.pair (.int .i64) .unit)), ([(((([], (false, ())), ([(.ofNat 1)], ())), ()), (([48], ([49], ())), ((.ofNat 0), ()))),
 (((([(.ofNat 1)], (false, ())), ([(.ofNat 1)], ())), ()), (([49], ([49], ())), ((.ofNat 0), ()))),
 (((([(.ofNat 1)], (false, ())), ([(.ofNat 2)], ())), ()), (([49], ([50], ())), ((.ofNat 0), ()))),
 (((([(.ofNat 65535)], (true, ())), ([(.ofNat 1)], ())), ()), (([45,54,53,53,51,53], ([49], ())), ((.ofNat 0), ()))),
 (((([(.ofNat 65535)], (false, ())), ([(.ofNat 1)], ())), ()), (([54,53,53,51,53], ([49], ())), ((.ofNat 0), ()))),
 (((([(.ofNat 2)], (false, ())), ([(.ofNat 3)], ())), ()), (([50], ([51], ())), ((.ofNat 0), ())))] : List ((((List Int × (Bool × Unit)) × (List Int × Unit)) × Unit) × ((List UInt8 × (List UInt8 × Unit)) × (Int × Unit))))⟩
def aNs : Row := ⟨99, (.pair (.pair (.pair (.sl (.int .u32)) (.pair .bool .unit)) (.pair (.sl (.int .u32)) .unit)) (.pair (.pair (.pair (.sl (.int .u32)) (.pair .bool .unit)) (.pair (.sl (.int .u32)) .unit)) .unit)), (.pair (.pair (.pair (.sl (.int .u32)) (.pair .bool .unit)) (.pair (.sl (.int .u32)) .unit)) .unit), ([(((([], (false, ())), ([(.ofNat 1)], ())), ((([], (false, ())), ([(.ofNat 1)], ())), ())), ((([], (false, ())), ([(.ofNat 1)], ())), ())),
 (((([(.ofNat 1)], (false, ())), ([(.ofNat 1)], ())), ((([], (false, ())), ([(.ofNat 1)], ())), ())), ((([(.ofNat 1)], (false, ())), ([(.ofNat 1)], ())), ()))] : List ((((List Int × (Bool × Unit)) × (List Int × Unit)) × (((List Int × (Bool × Unit)) × (List Int × Unit)) × Unit)) × (((List Int × (Bool × Unit)) × (List Int × Unit)) × Unit)))⟩
def aKZ : Row := ⟨123, (.pair .str .unit), (.pair (.int .i64) .unit), ([(([48], ()), ((.ofNat 0), ())),
 (([49], ()), ((.ofNat 0), ())),
 (([50], ()), ((.ofNat 0), ())),
 (([57], ()), ((.ofNat 0), ())),
 (([45,54,53,53,51,53], ()), ((.ofNat 0), ())),
 (([54,53,53,51,53], ()), ((.ofNat 0), ())),
 (([51], ()), ((.ofNat 0), ()))] : List ((List UInt8 × Unit) × (Int × Unit)))⟩
def aKY : Row := ⟨124, (.pair .str .unit), (.pair (.pair (.sl (.int .u32)) (.pair .bool .unit)) .unit), ([(([48], ()), (([], (false, ())), ())),
 (([50], ()), (([(.ofNat 2)], (false, ())), ())),
 (([57], ()), (([(.ofNat 9)], (false, ())), ())),
 (([51], ()), (([(.ofNat 3)], (false, ())), ()))] : List ((List UInt8 × Unit) × ((List Int × (Bool × Unit)) × Unit)))⟩
def aKX : Row := ⟨127, (.pair (.pair (.sl (.int .u32)) (.pair .bool .unit)) (.pair (.sl (.int .u32)) .unit)), (.pair (.pair (.sl (.int .u32)) (.pair .bool .unit)) .unit), ([((([(.ofNat 1)], (true, ())), ([(.ofNat 1)], ())), (([(.ofNat 1)], (true, ())), ())),
 ((([(.ofNat 65535)], (true, ())), ([(.ofNat 1)], ())), (([(.ofNat 65535)], (true, ())), ()))] : List (((List Int × (Bool × Unit)) × (List Int × Unit)) × ((List Int × (Bool × Unit)) × Unit)))⟩
def aKW : Row := ⟨128, (.pair (.sl (.int .u32)) (.pair (.sl (.int .u32)) .unit)), (.pair (.sl (.int .u32)) .unit), ([(([(.ofNat 1)], ([(.ofNat 2)], ())), ([(.ofNat 2)], ())),
 (([(.ofNat 2)], ([(.ofNat 1)], ())), ([(.ofNat 2)], ())),
 (([(.ofNat 1000000)], ([(.ofNat 2)], ())), ([(.ofNat 2000000)], ()))] : List ((List Int × (List Int × Unit)) × (List Int × Unit)))⟩
def aKV : Row := ⟨129, (.pair (.pair (.sl (.int .u32)) (.pair .bool .unit)) (.pair (.pair (.sl (.int .u32)) (.pair .bool .unit)) .unit)), (.pair (.pair (.sl (.int .u32)) (.pair .bool .unit)) .unit), ([((([], (false, ())), (([(.ofNat 1)], (true, ())), ())), (([(.ofNat 1)], (true, ())), ()))] : List (((List Int × (Bool × Unit)) × ((List Int × (Bool × Unit)) × Unit)) × ((List Int × (Bool × Unit)) × Unit)))⟩
def aKU : Row := ⟨131, (.pair (.pair (.sl (.int .u32)) (.pair .bool .unit)) (.pair (.sl (.int .u32)) .unit)), (.pair (.pair (.sl (.int .u32)) (.pair .bool .unit)) .unit), ([((([(.ofNat 1)], (false, ())), ([(.ofNat 2)], ())), (([], (false, ())), ()))] : List (((List Int × (Bool × Unit)) × (List Int × Unit)) × ((List Int × (Bool × Unit)) × Unit)))⟩
def aKT : Row := ⟨226, (.pair (.pair (.int .i64) (.pair (.sl (.pair (.int .i64) (.pair (.sl (.int .i64)) (.pair (.sl (.pair (.int .i64) (.pair (.int .i64) (.pair (.int .i64) (.pair (.int .i64) (.pair (.int .i64) (.pair (.int .i64) .unit))))))) .unit)))) (.pair (.sl (.sl (.int .i64))) (.pair (.sl (.int .i64)) (.pair (.pair (.sl (.int .i64)) (.pair (.int .i64) (.pair (.sl (.int .i64)) .unit))) (.pair (.sl (.pair (.int .i64) (.pair (.int .i64) .unit))) (.pair (.int .i64) (.pair (.int .i64) .unit)))))))) .unit), (.pair (.int .i64) .unit), ([((((.ofNat 1), ([((.ofNat 2), ([(.ofNat 65535), (.ofNat 0)], ([], ())))], ([], ([], (([], ((.ofNat 0), ([], ()))), ([], ((.ofNat 0), ((.ofNat 0), ())))))))), ()), ((.ofNat 0), ()))] : List (((Int × (List (Int × (List Int × (List (Int × (Int × (Int × (Int × (Int × (Int × Unit)))))) × Unit))) × (List (List Int) × (List Int × ((List Int × (Int × (List Int × Unit))) × (List (Int × (Int × Unit)) × (Int × (Int × Unit)))))))) × Unit) × (Int × Unit)))⟩
def aOP : List Row := [aNu, aNt, aNs, aKZ, aKY, aKX, aKW, aKV, aKU, aKT]
theorem aJy : aaV (aaZ Tryz.prog agK 100000 aEU 40) [aNu] = true := by kernel_rfl
theorem aJx : aaV (aaZ Tryz.prog agK 100000 aEU 40) [aNt] = true := by kernel_rfl
theorem aJw : aaV (aaZ Tryz.prog agK 100000 aEU 40) [aNs] = true := by kernel_rfl
theorem aF8 : aaV (aaZ Tryz.prog agK 100000 aEU 40) [aKZ] = true := by kernel_rfl
theorem aF7 : aaV (aaZ Tryz.prog agK 100000 aEU 40) [aKY] = true := by kernel_rfl
theorem aF6 : aaV (aaZ Tryz.prog agK 100000 aEU 40) [aKX] = true := by kernel_rfl
theorem aF5 : aaV (aaZ Tryz.prog agK 100000 aEU 40) [aKW] = true := by kernel_rfl
theorem aF4 : aaV (aaZ Tryz.prog agK 100000 aEU 40) [aKV] = true := by kernel_rfl
theorem aF3 : aaV (aaZ Tryz.prog agK 100000 aEU 40) [aKU] = true := by kernel_rfl
theorem aF2 : aaV (aaZ Tryz.prog agK 100000 aEU 40) [aKT] = true := by kernel_rfl
def aLn : aa8 := aiH (alR aOP) aEU
theorem aMo : adR Tryz.prog (Gt Tryz.prog) aLn := ai4 aqO aqC ahP aMp 100000 40 (aaC aJy (aaC aJx (aaC aJw (aaC aF8 (aaC aF7 (aaC aF6 (aaC aF5 (aaC aF4 (aaC aF3 (aaC aF2 (rfl)))))))))))
open Go Go.Proofs
set_option maxRecDepth 1000000
set_option maxHeartbeats 0
def aNr : Row := ⟨17, (.pair (.int .i64) (.pair (.int .i64) .unit)), (.pair (.pair .str (.pair .str .unit)) .unit), ([(((.ofNat 2), ((.ofNat 3), ())), (([50], ([51], ())), ()))] : List ((Int × (Int × Unit)) × ((List UInt8 × (List UInt8 × Unit)) × Unit)))⟩
def aNq : Row := ⟨53, (.pair (.int .i64) (.pair (.int .i64) .unit)), (.pair (.pair .str (.pair .str .unit)) (.pair (.int .i64) .unit)), ([(((.ofNat 0), ((.ofNat 1), ())), (([48], ([49], ())), ((.ofNat 0), ()))),
 (((.ofNat 0), ((.ofNat 2), ())), (([48], ([49], ())), ((.ofNat 0), ()))),
 (((.ofNat 1), ((.ofNat 1), ())), (([49], ([49], ())), ((.ofNat 0), ()))),
 (((.ofNat 1), ((.ofNat 2), ())), (([49], ([50], ())), ((.ofNat 0), ()))),
 (((.ofNat 2), ((.ofNat 2), ())), (([49], ([49], ())), ((.ofNat 0), ())))] : List ((Int × (Int × Unit)) × ((List UInt8 × (List UInt8 × Unit)) × (Int × Unit))))⟩
def aNp : Row := ⟨72, (.pair (.pair .str (.pair .str .unit)) .unit), (.pair (.pair (.pair (.sl (.int .u32)) (.pair .bool .unit)) (.pair (.sl (.int .u32)) .unit)) (.pair .bool .unit)), ([((([48], ([49], ())), ()), ((([], (false, ())), ([(.ofNat 1)], ())), (true, ()))),
 ((([49], ([49], ())), ()), ((([(.ofNat 1)], (false, ())), ([(.ofNat 1)], ())), (true, ()))),
 ((([49], ([50], ())), ()), ((([(.ofNat 1)], (false, ())), ([(.ofNat 2)], ())), (true, ()))),
 ((([45,54,53,53,51,53], ([49], ())), ()), ((([(.ofNat 65535)], (true, ())), ([(.ofNat 1)], ())), (true, ()))),
 ((([54,53,53,51,53], ([49], ())), ()), ((([(.ofNat 65535)], (false, ())), ([(.ofNat 1)], ())), (true, ()))),
 ((([50], ([51], ())), ()), ((([(.ofNat 2)], (false, ())), ([(.ofNat 3)], ())), (true, ())))] : List (((List UInt8 × (List UInt8 × Unit)) × Unit) × (((List Int × (Bool × Unit)) × (List Int × Unit)) × (Bool × Unit))))⟩
def aNo : Row := ⟨89, (.pair (.pair (.pair (.sl (.int .u32)) (.pair .bool .unit)) (.pair (.sl (.int .u32)) .unit)) (.pair (.pair (.pair (.sl (.int .u32)) (.pair .bool .unit)) (.pair (.sl (.int .u32)) .unit)) .unit)), (.pair (.int .i64) .unit), ([(((([], (false, ())), ([(.ofNat 1)], ())), ((([(.ofNat 1)], (false, ())), ([(.ofNat 1)], ())), ())), ((.negSucc 0), ())),
 (((([(.ofNat 1)], (false, ())), ([(.ofNat 2)], ())), ((([(.ofNat 1)], (false, ())), ([(.ofNat 1)], ())), ())), ((.negSucc 0), ()))] : List ((((List Int × (Bool × Unit)) × (List Int × Unit)) × (((List Int × (Bool × Unit)) × (List Int × Unit)) × Unit)) × (Int × Unit)))⟩
def aKS : Row := ⟨105, (.pair (.pair (.int .i64) (.pair (.sl (.pair (.int .i64) (.pair (.sl (.pair (.int .i64) (.pair (.sl (.int .i64)) (.pair (.sl (.pair (.int .i64) (.pair (.int .i64) (.pair (.int .i64) (.pair (.int .i64) (.pair (.int .i64) (.pair (.int .i64) .unit))))))) .unit)))) (.pair (.sl (.sl (.int .i64))) (.pair (.sl (.int .i64)) (.pair (.pair (.sl (.int .i64)) (.pair (.int .i64) (.pair (.sl (.int .i64)) .unit))) (.pair (.sl (.pair (.int .i64) (.pair (.int .i64) .unit))) (.pair (.int .i64) (.pair (.int .i64) .unit))))))))) .unit)) .unit), (.pair (.int .i64) (.pair (.int .i64) .unit)), ([((((.ofNat 1), ([((.ofNat 1), ([((.ofNat 2), ([(.ofNat 65535), (.ofNat 0)], ([], ())))], ([], ([], (([], ((.ofNat 0), ([], ()))), ([], ((.ofNat 0), ((.ofNat 0), ()))))))))], ())), ()), ((.ofNat 1), ((.ofNat 0), ())))] : List (((Int × (List (Int × (List (Int × (List Int × (List (Int × (Int × (Int × (Int × (Int × (Int × Unit)))))) × Unit))) × (List (List Int) × (List Int × ((List Int × (Int × (List Int × Unit))) × (List (Int × (Int × Unit)) × (Int × (Int × Unit)))))))) × Unit)) × Unit) × (Int × (Int × Unit))))⟩
def aKR : Row := ⟨266, (.pair (.int .i64) .unit), (.pair (.pair .str (.pair .str .unit)) .unit), ([(((.negSucc 65534), ()), (([45,54,53,53,51,53], ([49], ())), ())),
 (((.ofNat 65535), ()), (([54,53,53,51,53], ([49], ())), ()))] : List ((Int × Unit) × ((List UInt8 × (List UInt8 × Unit)) × Unit)))⟩
def aOO : List Row := [aNr, aNq, aNp, aNo, aKS, aKR]
theorem aJv : aaV (aaZ Tryz.prog agK 100000 aLn 40) [aNr] = true := by kernel_rfl
theorem aJu : aaV (aaZ Tryz.prog agK 100000 aLn 40) [aNq] = true := by kernel_rfl
theorem aJt : aaV (aaZ Tryz.prog agK 100000 aLn 40) [aNp] = true := by kernel_rfl
theorem aJs : aaV (aaZ Tryz.prog agK 100000 aLn 40) [aNo] = true := by kernel_rfl
theorem aF1 : aaV (aaZ Tryz.prog agK 100000 aLn 40) [aKS] = true := by kernel_rfl
theorem aF0 : aaV (aaZ Tryz.prog agK 100000 aLn 40) [aKR] = true := by kernel_rfl
def aKd : aa8 := aiH (alR aOO) aLn
theorem aMn : adR Tryz.prog (Gt Tryz.prog) aKd := ai4 aqO aqC ahP aMo 100000 40 (aaC aJv (aaC aJu (aaC aJt (aaC aJs (aaC aF1 (aaC aF0 (rfl)))))))
open Go Go.Proofs
set_option maxRecDepth 1000000
set_option maxHeartbeats 0
def aNn : Row := ⟨38, (.pair (.pair .str (.pair .str .unit)) .unit), (.pair (.int .i64) (.pair (.int .i64) .unit)), ([((([48], ([49], ())), ()), ((.ofNat 0), ((.ofNat 0), ()))),
 ((([49], ([50], ())), ()), ((.ofNat 1), ((.ofNat 0), ()))),
 ((([49], ([49], ())), ()), ((.ofNat 1), ((.ofNat 0), ())))] : List (((List UInt8 × (List UInt8 × Unit)) × Unit) × (Int × (Int × Unit))))⟩
def aNm : Row := ⟨39, (.pair (.pair .str (.pair .str .unit)) (.pair (.pair .str (.pair .str .unit)) .unit)), (.pair (.int .i64) (.pair (.int .i64) .unit)), ([((([48], ([49], ())), (([49], ([49], ())), ())), ((.negSucc 0), ((.ofNat 0), ()))),
 ((([49], ([50], ())), (([49], ([49], ())), ())), ((.negSucc 0), ((.ofNat 0), ()))),
 ((([48], ([49], ())), (([48], ([49], ())), ())), ((.ofNat 0), ((.ofNat 0), ()))),
 ((([49], ([49], ())), (([49], ([49], ())), ())), ((.ofNat 0), ((.ofNat 0), ())))] : List (((List UInt8 × (List UInt8 × Unit)) × ((List UInt8 × (List UInt8 × Unit)) × Unit)) × (Int × (Int × Unit))))⟩
def aNl : Row := ⟨50, (.pair (.pair .str (.pair .str .unit)) (.pair (.pair .str (.pair .str .unit)) .unit)), (.pair (.pair .str (.pair .str .unit)) (.pair (.int .i64) .unit)), ([((([48], ([49], ())), (([48], ([49], ())), ())), (([48], ([49], ())), ((.ofNat 0), ())))] : List (((List UInt8 × (List UInt8 × Unit)) × ((List UInt8 × (List UInt8 × Unit)) × Unit)) × ((List UInt8 × (List UInt8 × Unit)) × (Int × Unit))))⟩
def aKQ : Row := ⟨108, (.pair (.pair .str (.pair .str .unit)) (.pair (.pair .str (.pair .str .unit)) (.pair (.pair .str (.pair .str .unit)) .unit))), (.pair (.pair .str (.pair .str .unit)) (.pair (.int .i64) .unit)), ([((([48], ([49], ())), (([48], ([49], ())), (([49], ([49], ())), ()))), (([48], ([49], ())), ((.ofNat 0), ()))),
 ((([49], ([50], ())), (([48], ([49], ())), (([49], ([49], ())), ()))), (([49], ([50], ())), ((.ofNat 0), ()))),
 ((([49], ([49], ())), (([48], ([49], ())), (([49], ([49], ())), ()))), (([49], ([49], ())), ((.ofNat 0), ())))] : List (((List UInt8 × (List UInt8 × Unit)) × ((List UInt8 × (List UInt8 × Unit)) × ((List UInt8 × (List UInt8 × Unit)) × Unit))) × ((List UInt8 × (List UInt8 × Unit)) × (Int × Unit))))⟩
def aKP : Row := ⟨109, (.pair (.pair .str (.pair .str .unit)) .unit), (.pair (.pair .str (.pair .str .unit)) (.pair (.int .i64) .unit)), ([((([48], ([49], ())), ()), (([48], ([49], ())), ((.ofNat 0), ())))] : List (((List UInt8 × (List UInt8 × Unit)) × Unit) × ((List UInt8 × (List UInt8 × Unit)) × (Int × Unit))))⟩
def aKO : Row := ⟨110, (.pair (.pair .str (.pair .str .unit)) (.pair (.pair .str (.pair .str .unit)) .unit)), (.pair (.pair .str (.pair .str .unit)) (.pair (.int .i64) .unit)), ([((([48], ([49], ())), (([48], ([49], ())), ())), (([48], ([49], ())), ((.ofNat 0), ()))),
 ((([49], ([50], ())), (([49], ([50], ())), ())), (([48], ([49], ())), ((.ofNat 0), ()))),
 ((([49], ([49], ())), (([49], ([49], ())), ())), (([48], ([49], ())), ((.ofNat 0), ()))),
 ((([49], ([49], ())), (([48], ([49], ())), ())), (([49], ([49], ())), ((.ofNat 0), ())))] : List (((List UInt8 × (List UInt8 × Unit)) × ((List UInt8 × (List UInt8 × Unit)) × Unit)) × ((List UInt8 × (List UInt8 × Unit)) × (Int × Unit))))⟩
def aKN : Row := ⟨111, (.pair (.pair .str (.pair .str .unit)) (.pair (.pair .str (.pair .str .unit)) .unit)), (.pair (.pair .str (.pair .str .unit)) (.pair (.int .i64) .unit)), ([((([48], ([49], ())), (([48], ([49], ())), ())), (([48], ([49], ())), ((.ofNat 0), ()))),
 ((([48], ([49], ())), (([49], ([49], ())), ())), (([49], ([49], ())), ((.ofNat 0), ())))] : List (((List UInt8 × (List UInt8 × Unit)) × ((List UInt8 × (List UInt8 × Unit)) × Unit)) × ((List UInt8 × (List UInt8 × Unit)) × (Int × Unit))))⟩
def aON : List Row := [aNn, aNm, aNl, aKQ, aKP, aKO, aKN]
theorem aJr : aaV (aaZ Tryz.prog agK 100000 aKd 40) [aNn] = true := by kernel_rfl
theorem aJq : aaV (aaZ Tryz.prog agK 100000 aKd 40) [aNm] = true := by kernel_rfl
theorem aJp : aaV (aaZ Tryz.prog agK 100000 aKd 40) [aNl] = true := by kernel_rfl
theorem aFZ : aaV (aaZ Tryz.prog agK 100000 aKd 40) [aKQ] = true := by kernel_rfl
theorem aFY : aaV (aaZ Tryz.prog agK 100000 aKd 40) [aKP] = true := by kernel_rfl
theorem aFX : aaV (aaZ Tryz.prog agK 100000 aKd 40) [aKO] = true := by kernel_rfl
theorem aFW : aaV (aaZ Tryz.prog agK 100000 aKd 40) [aKN] = true := by kernel_rfl
def aOv : aa8 := aiH (alR aON) aKd
theorem aMm : adR Tryz.prog (Gt Tryz.prog) aOv := ai4 aqO aqC ahP aMn 100000 40 (aaC aJr (aaC aJq (aaC aJp (aaC aFZ (aaC aFY (aaC aFX (aaC aFW (rfl))))))))
open Go Go.Proofs
set_option maxRecDepth 1000000
set_option maxHeartbeats 0
def aNk : Row := ⟨20, (.pair (.pair (.int .i64) (.pair (.sl (.pair (.int .i64) (.pair (.sl (.pair (.int .i64) (.pair (.sl (.int .i64)) (.pair (.sl (.pair (.int .i64) (.pair (.int .i64) (.pair (.int .i64) (.pair (.int .i64) (.pair (.int .i64) (.pair (.int .i64) .unit))))))) .unit)))) (.pair (.sl (.sl (.int .i64))) (.pair (.sl (.int .i64)) (.pair (.pair (.sl (.int .i64)) (.pair (.int .i64) (.pair (.sl (.int .i64)) .unit))) (.pair (.sl (.pair (.int .i64) (.pair (.int .i64) .unit))) (.pair (.int .i64) (.pair (.int .i64) .unit))))))))) .unit)) (.pair (.pair (.int .i64) (.pair (.sl (.pair (.int .i64) (.pair (.sl (.pair (.int .i64) (.pair (.sl (.int .i64)) (.pair (.sl (.pair (.int .i64) (.pair (.int .i64) (.pair (.int .i64) (.pair (.int .i64) (.pair (.int .i64) (.pair (.int .i64) .unit))))))) .unit)))) (.pair (.sl (.sl (.int .i64))) (.pair (.sl (.int .i64)) (.pair (.pair (.sl (.int .i64)) (.pair (.int .i64) (.pair (.sl (.int .i64)) .unit))) (.pair (.sl (.pair (.int .i64) (.pair (.int .i64) .unit))) (.pair (.int .i64) (.pair (.int .i64) .unit))))))))) .unit)) (.pair (.int .i64) .unit))), (.pair (.pair (.int .i64) (.pair (.int .i64) (.pair (.pair .str (.pair .str .unit)) (.pair (.pair .str (.pair .str .unit)) (.pair (.sl (.pair .str (.pair .str .unit))) .unit))))) (.pair (.int .i64) .unit)), ([((((.ofNat 1), ([], ())), (((.ofNat 1), ([((.ofNat 1), ([((.ofNat 2), ([(.ofNat 65535), (.ofNat 0)], ([], ())))], ([], ([], (([], ((.ofNat 0), ([], ()))), ([], ((.ofNat 0), ((.ofNat 0), ()))))))))], ())), ((.ofNat 3), ()))), (((.ofNat 3), ((.ofNat 0), (([49], ([49], ())), (([50], ([51], ())), ([([48], ([49], ()))], ()))))), ((.ofNat 0), ())))] : List (((Int × (List (Int × (List (Int × (List Int × (List (Int × (Int × (Int × (Int × (Int × (Int × Unit)))))) × Unit))) × (List (List Int) × (List Int × ((List Int × (Int × (List Int × Unit))) × (List (Int × (Int × Unit)) × (Int × (Int × Unit)))))))) × Unit)) × ((Int × (List (Int × (List (Int × (List Int × (List (Int × (Int × (Int × (Int × (Int × (Int × Unit)))))) × Unit))) × (List (List Int) × (List Int × ((List Int × (Int × (List Int × Unit))) × (List (Int × (Int × Unit)) × (Int × (Int × Unit)))))))) × Unit)) × (Int × Unit))) × ((Int × (Int × ((List UInt8 × (List UInt8 × Unit)) × ((List UInt8 × (List UInt8 × Unit)) × (List (List UInt8 × (List UInt8 × Unit)) × Unit))))) × (Int × Unit))))⟩
def aKM : Row := ⟨107, (.pair (.pair (.int .i64) (.pair (.sl (.pair (.int .i64) (.pair (.sl (.pair (.int .i64) (.pair (.sl (.int .i64)) (.pair (.sl (.pair (.int .i64) (.pair (.int .i64) (.pair (.int .i64) (.pair (.int .i64) (.pair (.int .i64) (.pair (.int .i64) .unit))))))) .unit)))) (.pair (.sl (.sl (.int .i64))) (.pair (.sl (.int .i64)) (.pair (.pair (.sl (.int .i64)) (.pair (.int .i64) (.pair (.sl (.int .i64)) .unit))) (.pair (.sl (.pair (.int .i64) (.pair (.int .i64) .unit))) (.pair (.int .i64) (.pair (.int .i64) .unit))))))))) .unit)) (.pair (.sl (.pair .str (.pair .str .unit))) .unit)), (.pair (.sl (.pair .str (.pair .str .unit))) (.pair (.int .i64) .unit)), ([((((.ofNat 2), ([], ())), ([([48], ([49], ())), ([48], ([49], ()))], ())), ([([48], ([49], ())), ([48], ([49], ()))], ((.ofNat 0), ()))),
 ((((.ofNat 2), ([], ())), ([([48], ([49], ())), ([49], ([50], ()))], ())), ([([48], ([49], ())), ([49], ([50], ()))], ((.ofNat 0), ()))),
 ((((.ofNat 2), ([], ())), ([([48], ([49], ())), ([49], ([49], ()))], ())), ([([48], ([49], ())), ([49], ([49], ()))], ((.ofNat 0), ()))),
 ((((.ofNat 2), ([], ())), ([([49], ([50], ())), ([48], ([49], ()))], ())), ([([49], ([50], ())), ([48], ([49], ()))], ((.ofNat 0), ()))),
 ((((.ofNat 2), ([], ())), ([([49], ([50], ())), ([49], ([50], ()))], ())), ([([49], ([50], ())), ([49], ([50], ()))], ((.ofNat 0), ()))),
 ((((.ofNat 2), ([], ())), ([([49], ([50], ())), ([49], ([49], ()))], ())), ([([49], ([50], ())), ([49], ([49], ()))], ((.ofNat 0), ()))),
 ((((.ofNat 2), ([], ())), ([([49], ([49], ())), ([48], ([49], ()))], ())), ([([49], ([49], ())), ([48], ([49], ()))], ((.ofNat 0), ()))),
 ((((.ofNat 2), ([], ())), ([([49], ([49], ())), ([49], ([50], ()))], ())), ([([49], ([49], ())), ([49], ([50], ()))], ((.ofNat 0), ()))),
 ((((.ofNat 2), ([], ())), ([([49], ([49], ())), ([49], ([49], ()))], ())), ([([49], ([49], ())), ([49], ([49], ()))], ((.ofNat 0), ())))] : List (((Int × (List (Int × (List (Int × (List Int × (List (Int × (Int × (Int × (Int × (Int × (Int × Unit)))))) × Unit))) × (List (List Int) × (List Int × ((List Int × (Int × (List Int × Unit))) × (List (Int × (Int × Unit)) × (Int × (Int × Unit)))))))) × Unit)) × (List (List UInt8 × (List UInt8 × Unit)) × Unit)) × (List (List UInt8 × (List UInt8 × Unit)) × (Int × Unit))))⟩
def aOM : List Row := [aNk, aKM]
theorem aJo : aaV (aaZ Tryz.prog agK 100000 aOv 40) [aNk] = true := by kernel_rfl
theorem aFV : aaV (aaZ Tryz.prog agK 100000 aOv 40) [aKM] = true := by kernel_rfl
def aO2 : aa8 := aiH (alR aOM) aOv
theorem aMl : adR Tryz.prog (Gt Tryz.prog) aO2 := ai4 aqO aqC ahP aMm 100000 40 (aaC aJo (aaC aFV (rfl)))
open Go Go.Proofs
set_option maxRecDepth 1000000
set_option maxHeartbeats 0
def aNj : Row := ⟨20, (.pair (.pair (.int .i64) (.pair (.sl (.pair (.int .i64) (.pair (.sl (.pair (.int .i64) (.pair (.sl (.int .i64)) (.pair (.sl (.pair (.int .i64) (.pair (.int .i64) (.pair (.int .i64) (.pair (.int .i64) (.pair (.int .i64) (.pair (.int .i64) .unit))))))) .unit)))) (.pair (.sl (.sl (.int .i64))) (.pair (.sl (.int .i64)) (.pair (.pair (.sl (.int .i64)) (.pair (.int .i64) (.pair (.sl (.int .i64)) .unit))) (.pair (.sl (.pair (.int .i64) (.pair (.int .i64) .unit))) (.pair (.int .i64) (.pair (.int .i64) .unit))))))))) .unit)) (.pair (.pair (.int .i64) (.pair (.sl (.pair (.int .i64) (.pair (.sl (.pair (.int .i64) (.pair (.sl (.int .i64)) (.pair (.sl (.pair (.int .i64) (.pair (.int .i64) (.pair (.int .i64) (.pair (.int .i64) (.pair (.int .i64) (.pair (.int .i64) .unit))))))) .unit)))) (.pair (.sl (.sl (.int .i64))) (.pair (.sl (.int .i64)) (.pair (.pair (.sl (.int .i64)) (.pair (.int .i64) (.pair (.sl (.int .i64)) .unit))) (.pair (.sl (.pair (.int .i64) (.pair (.int .i64) .unit))) (.pair (.int .i64) (.pair (.int .i64) .unit))))))))) .unit)) (.pair (.int .i64) .unit))), (.pair (.pair (.int .i64) (.pair (.int .i64) (.pair (.pair .str (.pair .str .unit)) (.pair (.pair .str (.pair .str .unit)) (.pair (.sl (.pair .str (.pair .str .unit))) .unit))))) (.pair (.int .i64) .unit)), ([((((.ofNat 2), ([], ())), (((.ofNat 2), ([], ())), ((.ofNat 3), ()))), (((.ofNat 9), ((.ofNat 0), (([48], ([49], ())), (([48], ([49], ())), ([([48], ([49], ())), ([48], ([49], ()))], ()))))), ((.ofNat 0), ())))] : List (((Int × (List (Int × (List (Int × (List Int × (List (Int × (Int × (Int × (Int × (Int × (Int × Unit)))))) × Unit))) × (List (List Int) × (List Int × ((List Int × (Int × (List Int × Unit))) × (List (Int × (Int × Unit)) × (Int × (Int × Unit)))))))) × Unit)) × ((Int × (List (Int × (List (Int × (List Int × (List (Int × (Int × (Int × (Int × (Int × (Int × Unit)))))) × Unit))) × (List (List Int) × (List Int × ((List Int × (Int × (List Int × Unit))) × (List (Int × (Int × Unit)) × (Int × (Int × Unit)))))))) × Unit)) × (Int × Unit))) × ((Int × (Int × ((List UInt8 × (List UInt8 × Unit)) × ((List UInt8 × (List UInt8 × Unit)) × (List (List UInt8 × (List UInt8 × Unit)) × Unit))))) × (Int × Unit))))⟩
def aOL : List Row := [aNj]
theorem aJn : aaV (aaZ Tryz.prog agK 100000 aO2 40) [aNj] = true := by kernel_rfl
def aO1 : aa8 := aiH (alR aOL) aO2
theorem aMk : adR Tryz.prog (Gt Tryz.prog) aO1 := ai4 aqO aqC ahP aMl 100000 40 (aaC aJn (rfl))
open Go Go.Proofs
set_option maxRecDepth 1000000
set_option maxHeartbeats 0
theorem aLA : aaV (aaZ Tryz.prog agK 100000 aO1 40) [⟨7, .unit, .pair .bool .unit, ([((), (true, ()))] : List (Unit × Bool × Unit))⟩] = true := by kernel_rfl
theorem top_at : At Tryz.prog (Gt Tryz.prog) 7 .unit (.pair .bool .unit) () (true, ()) := by
 have h := aLA
 rw [(aAB (P := Tryz.prog) (sig := agK) 100000 aO1 40).1] at h
 exact (aAC aqO aqC aMk ahP 100000 40).1 _ _ _ _ _ (aAT (amO h _ zx) () (true, ()) zx)
end Go.Vg
