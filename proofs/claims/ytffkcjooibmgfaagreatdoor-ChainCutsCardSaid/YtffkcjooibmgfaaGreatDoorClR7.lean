/-
  A runner over the evaluator, and calls that have been run. Own work; no condition.
-/
import Derived.Test.YtffkcjooibmgfaaGreatDoorClR6
import Derived.Test.YtffkcjooibmgfaaGreatDoorProg
import Derived.KernelRfl
set_option linter.unusedVariables false
set_option linter.unusedSimpArgs false
namespace Go.Vg
open Go
def aeZ : Sig := [
 (2, (.unit, .unit)),
 (3, ((.pair (.pair (.int .u8) (.pair (.sl (.pair (.int .u8) (.pair (.int .u8) (.pair (.arr 4 (.pair (.int .u8) (.pair (.sl (.int .u16)) (.pair (.sl (.pair (.int .u8) (.pair (.int .i16) (.pair (.int .i16) (.pair (.int .i16) (.pair (.int .u8) (.pair (.int .u8) .unit))))))) (.pair .bool (.pair .bool .unit)))))) (.pair (.arr 4 (.arr 4 (.int .i16))) (.pair (.arr 4 (.int .i16)) (.pair (.pair (.sl (.int .u8)) (.pair (.int .u8) (.pair (.sl (.int .u16)) (.pair .bool .unit)))) (.pair (.pair (.int .u8) (.pair (.int .u8) (.pair (.sl (.pair (.int .u8) (.pair (.int .i16) .unit))) .unit))) .unit)))))))) (.pair .bool .unit))) (.pair (.pair (.int .u8) (.pair (.sl (.pair (.int .u8) (.pair (.int .u8) (.pair (.arr 4 (.pair (.int .u8) (.pair (.sl (.int .u16)) (.pair (.sl (.pair (.int .u8) (.pair (.int .i16) (.pair (.int .i16) (.pair (.int .i16) (.pair (.int .u8) (.pair (.int .u8) .unit))))))) (.pair .bool (.pair .bool .unit)))))) (.pair (.arr 4 (.arr 4 (.int .i16))) (.pair (.arr 4 (.int .i16)) (.pair (.pair (.sl (.int .u8)) (.pair (.int .u8) (.pair (.sl (.int .u16)) (.pair .bool .unit)))) (.pair (.pair (.int .u8) (.pair (.int .u8) (.pair (.sl (.pair (.int .u8) (.pair (.int .i16) .unit))) .unit))) .unit)))))))) (.pair .bool .unit))) (.pair (.pair (.int .u8) (.pair (.sl (.pair (.int .u8) (.pair (.int .u8) (.pair (.arr 4 (.pair (.int .u8) (.pair (.sl (.int .u16)) (.pair (.sl (.pair (.int .u8) (.pair (.int .i16) (.pair (.int .i16) (.pair (.int .i16) (.pair (.int .u8) (.pair (.int .u8) .unit))))))) (.pair .bool (.pair .bool .unit)))))) (.pair (.arr 4 (.arr 4 (.int .i16))) (.pair (.arr 4 (.int .i16)) (.pair (.pair (.sl (.int .u8)) (.pair (.int .u8) (.pair (.sl (.int .u16)) (.pair .bool .unit)))) (.pair (.pair (.int .u8) (.pair (.int .u8) (.pair (.sl (.pair (.int .u8) (.pair (.int .i16) .unit))) .unit))) .unit)))))))) (.pair .bool .unit))) (.pair (.int .u8) .unit)))), (.pair .bool .unit))),
 (4, (.unit, (.pair .bool .unit))),
 (5, ((.pair (.pair (.int .u8) (.pair (.sl (.pair (.int .u8) (.pair (.int .u8) (.pair (.arr 4 (.pair (.int .u8) (.pair (.sl (.int .u16)) (.pair (.sl (.pair (.int .u8) (.pair (.int .i16) (.pair (.int .i16) (.pair (.int .i16) (.pair (.int .u8) (.pair (.int .u8) .unit))))))) (.pair .bool (.pair .bool .unit)))))) (.pair (.arr 4 (.arr 4 (.int .i16))) (.pair (.arr 4 (.int .i16)) (.pair (.pair (.sl (.int .u8)) (.pair (.int .u8) (.pair (.sl (.int .u16)) (.pair .bool .unit)))) (.pair (.pair (.int .u8) (.pair (.int .u8) (.pair (.sl (.pair (.int .u8) (.pair (.int .i16) .unit))) .unit))) .unit)))))))) (.pair .bool .unit))) .unit), (.pair (.pair (.int .i64) (.pair (.sl (.pair (.int .i64) (.pair (.sl (.pair (.int .i64) (.pair (.sl (.int .i64)) (.pair (.sl (.pair (.int .i64) (.pair (.int .i64) (.pair (.int .i64) (.pair (.int .i64) (.pair (.int .i64) (.pair (.int .i64) .unit))))))) .unit)))) (.pair (.sl (.sl (.int .i64))) (.pair (.sl (.int .i64)) (.pair (.pair (.sl (.int .i64)) (.pair (.int .i64) (.pair (.sl (.int .i64)) .unit))) (.pair (.sl (.pair (.int .i64) (.pair (.int .i64) .unit))) (.pair (.int .i64) (.pair (.int .i64) .unit))))))))) .unit)) .unit))),
 (6, ((.pair (.pair (.int .i64) (.pair (.sl (.pair (.int .i64) (.pair (.sl (.pair (.int .i64) (.pair (.sl (.int .i64)) (.pair (.sl (.pair (.int .i64) (.pair (.int .i64) (.pair (.int .i64) (.pair (.int .i64) (.pair (.int .i64) (.pair (.int .i64) .unit))))))) .unit)))) (.pair (.sl (.sl (.int .i64))) (.pair (.sl (.int .i64)) (.pair (.pair (.sl (.int .i64)) (.pair (.int .i64) (.pair (.sl (.int .i64)) .unit))) (.pair (.sl (.pair (.int .i64) (.pair (.int .i64) .unit))) (.pair (.int .i64) (.pair (.int .i64) .unit))))))))) .unit)) (.pair (.int .i64) (.pair (.int .i64) .unit))), (.pair (.pair (.int .i64) (.pair (.sl (.pair (.int .i64) (.pair (.sl (.pair (.int .i64) (.pair (.sl (.int .i64)) (.pair (.sl (.pair (.int .i64) (.pair (.int .i64) (.pair (.int .i64) (.pair (.int .i64) (.pair (.int .i64) (.pair (.int .i64) .unit))))))) .unit)))) (.pair (.sl (.sl (.int .i64))) (.pair (.sl (.int .i64)) (.pair (.pair (.sl (.int .i64)) (.pair (.int .i64) (.pair (.sl (.int .i64)) .unit))) (.pair (.sl (.pair (.int .i64) (.pair (.int .i64) .unit))) (.pair (.int .i64) (.pair (.int .i64) .unit))))))))) .unit)) (.pair (.int .i64) .unit)))),
 (7, ((.pair (.pair (.int .i64) (.pair (.sl (.pair (.int .i64) (.pair (.sl (.pair (.int .i64) (.pair (.sl (.int .i64)) (.pair (.sl (.pair (.int .i64) (.pair (.int .i64) (.pair (.int .i64) (.pair (.int .i64) (.pair (.int .i64) (.pair (.int .i64) .unit))))))) .unit)))) (.pair (.sl (.sl (.int .i64))) (.pair (.sl (.int .i64)) (.pair (.pair (.sl (.int .i64)) (.pair (.int .i64) (.pair (.sl (.int .i64)) .unit))) (.pair (.sl (.pair (.int .i64) (.pair (.int .i64) .unit))) (.pair (.int .i64) (.pair (.int .i64) .unit))))))))) .unit)) (.pair (.pair (.int .i64) (.pair (.sl (.pair (.int .i64) (.pair (.sl (.pair (.int .i64) (.pair (.sl (.int .i64)) (.pair (.sl (.pair (.int .i64) (.pair (.int .i64) (.pair (.int .i64) (.pair (.int .i64) (.pair (.int .i64) (.pair (.int .i64) .unit))))))) .unit)))) (.pair (.sl (.sl (.int .i64))) (.pair (.sl (.int .i64)) (.pair (.pair (.sl (.int .i64)) (.pair (.int .i64) (.pair (.sl (.int .i64)) .unit))) (.pair (.sl (.pair (.int .i64) (.pair (.int .i64) .unit))) (.pair (.int .i64) (.pair (.int .i64) .unit))))))))) .unit)) .unit)), (.pair (.pair (.int .i64) (.pair (.sl (.pair (.int .i64) (.pair (.sl (.pair (.int .i64) (.pair (.sl (.int .i64)) (.pair (.sl (.pair (.int .i64) (.pair (.int .i64) (.pair (.int .i64) (.pair (.int .i64) (.pair (.int .i64) (.pair (.int .i64) .unit))))))) .unit)))) (.pair (.sl (.sl (.int .i64))) (.pair (.sl (.int .i64)) (.pair (.pair (.sl (.int .i64)) (.pair (.int .i64) (.pair (.sl (.int .i64)) .unit))) (.pair (.sl (.pair (.int .i64) (.pair (.int .i64) .unit))) (.pair (.int .i64) (.pair (.int .i64) .unit))))))))) .unit)) (.pair (.int .i64) .unit)))),
 (8, ((.pair (.pair (.int .i64) (.pair (.sl (.pair (.int .i64) (.pair (.sl (.pair (.int .i64) (.pair (.sl (.int .i64)) (.pair (.sl (.pair (.int .i64) (.pair (.int .i64) (.pair (.int .i64) (.pair (.int .i64) (.pair (.int .i64) (.pair (.int .i64) .unit))))))) .unit)))) (.pair (.sl (.sl (.int .i64))) (.pair (.sl (.int .i64)) (.pair (.pair (.sl (.int .i64)) (.pair (.int .i64) (.pair (.sl (.int .i64)) .unit))) (.pair (.sl (.pair (.int .i64) (.pair (.int .i64) .unit))) (.pair (.int .i64) (.pair (.int .i64) .unit))))))))) .unit)) .unit), (.pair (.int .i64) (.pair (.int .i64) .unit)))),
 (9, ((.pair (.pair (.int .i64) (.pair (.sl (.pair (.int .i64) (.pair (.sl (.pair (.int .i64) (.pair (.sl (.int .i64)) (.pair (.sl (.pair (.int .i64) (.pair (.int .i64) (.pair (.int .i64) (.pair (.int .i64) (.pair (.int .i64) (.pair (.int .i64) .unit))))))) .unit)))) (.pair (.sl (.sl (.int .i64))) (.pair (.sl (.int .i64)) (.pair (.pair (.sl (.int .i64)) (.pair (.int .i64) (.pair (.sl (.int .i64)) .unit))) (.pair (.sl (.pair (.int .i64) (.pair (.int .i64) .unit))) (.pair (.int .i64) (.pair (.int .i64) .unit))))))))) .unit)) (.pair (.pair (.int .i64) (.pair (.sl (.pair (.int .i64) (.pair (.sl (.pair (.int .i64) (.pair (.sl (.int .i64)) (.pair (.sl (.pair (.int .i64) (.pair (.int .i64) (.pair (.int .i64) (.pair (.int .i64) (.pair (.int .i64) (.pair (.int .i64) .unit))))))) .unit)))) (.pair (.sl (.sl (.int .i64))) (.pair (.sl (.int .i64)) (.pair (.pair (.sl (.int .i64)) (.pair (.int .i64) (.pair (.sl (.int .i64)) .unit))) (.pair (.sl (.pair (.int .i64) (.pair (.int .i64) .unit))) (.pair (.int .i64) (.pair (.int .i64) .unit))))))))) .unit)) .unit)), (.pair .bool .unit))),
 (10, ((.pair (.pair (.int .u8) (.pair (.sl (.pair (.int .u8) (.pair (.int .u8) (.pair (.arr 4 (.pair (.int .u8) (.pair (.sl (.int .u16)) (.pair (.sl (.pair (.int .u8) (.pair (.int .i16) (.pair (.int .i16) (.pair (.int .i16) (.pair (.int .u8) (.pair (.int .u8) .unit))))))) (.pair .bool (.pair .bool .unit)))))) (.pair (.arr 4 (.arr 4 (.int .i16))) (.pair (.arr 4 (.int .i16)) (.pair (.pair (.sl (.int .u8)) (.pair (.int .u8) (.pair (.sl (.int .u16)) (.pair .bool .unit)))) (.pair (.pair (.int .u8) (.pair (.int .u8) (.pair (.sl (.pair (.int .u8) (.pair (.int .i16) .unit))) .unit))) .unit)))))))) (.pair .bool .unit))) (.pair (.int .i64) .unit)), (.pair (.pair (.int .i64) (.pair (.sl (.pair (.int .i64) (.pair (.sl (.pair (.int .i64) (.pair (.sl (.int .i64)) (.pair (.sl (.pair (.int .i64) (.pair (.int .i64) (.pair (.int .i64) (.pair (.int .i64) (.pair (.int .i64) (.pair (.int .i64) .unit))))))) .unit)))) (.pair (.sl (.sl (.int .i64))) (.pair (.sl (.int .i64)) (.pair (.pair (.sl (.int .i64)) (.pair (.int .i64) (.pair (.sl (.int .i64)) .unit))) (.pair (.sl (.pair (.int .i64) (.pair (.int .i64) .unit))) (.pair (.int .i64) (.pair (.int .i64) .unit))))))))) .unit)) .unit))),
 (11, ((.pair (.pair (.int .i64) (.pair (.sl (.pair (.int .i64) (.pair (.sl (.pair (.int .i64) (.pair (.sl (.int .i64)) (.pair (.sl (.pair (.int .i64) (.pair (.int .i64) (.pair (.int .i64) (.pair (.int .i64) (.pair (.int .i64) (.pair (.int .i64) .unit))))))) .unit)))) (.pair (.sl (.sl (.int .i64))) (.pair (.sl (.int .i64)) (.pair (.pair (.sl (.int .i64)) (.pair (.int .i64) (.pair (.sl (.int .i64)) .unit))) (.pair (.sl (.pair (.int .i64) (.pair (.int .i64) .unit))) (.pair (.int .i64) (.pair (.int .i64) .unit))))))))) .unit)) (.pair (.sl (.pair .str (.pair .str .unit))) .unit)), (.pair (.sl (.pair .str (.pair .str .unit))) (.pair (.int .i64) .unit)))),
 (12, (.unit, (.pair (.pair (.int .i64) (.pair (.sl (.pair (.int .i64) (.pair (.sl (.pair (.int .i64) (.pair (.sl (.int .i64)) (.pair (.sl (.pair (.int .i64) (.pair (.int .i64) (.pair (.int .i64) (.pair (.int .i64) (.pair (.int .i64) (.pair (.int .i64) .unit))))))) .unit)))) (.pair (.sl (.sl (.int .i64))) (.pair (.sl (.int .i64)) (.pair (.pair (.sl (.int .i64)) (.pair (.int .i64) (.pair (.sl (.int .i64)) .unit))) (.pair (.sl (.pair (.int .i64) (.pair (.int .i64) .unit))) (.pair (.int .i64) (.pair (.int .i64) .unit))))))))) .unit)) .unit))),
 (13, ((.pair (.int .i64) (.pair (.int .i64) .unit)), (.pair (.pair .str (.pair .str .unit)) .unit))),
 (14, ((.pair (.pair (.int .i64) (.pair (.sl (.pair (.int .i64) (.pair (.sl (.pair (.int .i64) (.pair (.sl (.int .i64)) (.pair (.sl (.pair (.int .i64) (.pair (.int .i64) (.pair (.int .i64) (.pair (.int .i64) (.pair (.int .i64) (.pair (.int .i64) .unit))))))) .unit)))) (.pair (.sl (.sl (.int .i64))) (.pair (.sl (.int .i64)) (.pair (.pair (.sl (.int .i64)) (.pair (.int .i64) (.pair (.sl (.int .i64)) .unit))) (.pair (.sl (.pair (.int .i64) (.pair (.int .i64) .unit))) (.pair (.int .i64) (.pair (.int .i64) .unit))))))))) .unit)) (.pair (.sl (.pair (.int .i64) (.pair (.int .i64) .unit))) .unit)), (.pair (.sl (.pair (.int .i64) (.pair (.int .i64) .unit))) (.pair (.int .i64) .unit)))),
 (15, ((.pair (.sl (.pair .str (.pair .str .unit))) (.pair (.sl (.pair .str (.pair .str .unit))) .unit)), (.pair .bool .unit))),
 (16, (.unit, (.pair (.pair (.int .i64) (.pair (.sl (.pair (.int .i64) (.pair (.sl (.int .i64)) (.pair (.sl (.pair (.int .i64) (.pair (.int .i64) (.pair (.int .i64) (.pair (.int .i64) (.pair (.int .i64) (.pair (.int .i64) .unit))))))) .unit)))) (.pair (.sl (.sl (.int .i64))) (.pair (.sl (.int .i64)) (.pair (.pair (.sl (.int .i64)) (.pair (.int .i64) (.pair (.sl (.int .i64)) .unit))) (.pair (.sl (.pair (.int .i64) (.pair (.int .i64) .unit))) (.pair (.int .i64) (.pair (.int .i64) .unit)))))))) .unit))),
 (17, ((.pair (.sl (.pair (.int .i64) (.pair (.int .i64) .unit))) (.pair (.sl (.pair (.int .i64) (.pair (.int .i64) .unit))) .unit)), (.pair .bool .unit))),
 (18, ((.pair (.pair (.int .i64) (.pair (.sl (.pair (.int .i64) (.pair (.sl (.pair (.int .i64) (.pair (.sl (.int .i64)) (.pair (.sl (.pair (.int .i64) (.pair (.int .i64) (.pair (.int .i64) (.pair (.int .i64) (.pair (.int .i64) (.pair (.int .i64) .unit))))))) .unit)))) (.pair (.sl (.sl (.int .i64))) (.pair (.sl (.int .i64)) (.pair (.pair (.sl (.int .i64)) (.pair (.int .i64) (.pair (.sl (.int .i64)) .unit))) (.pair (.sl (.pair (.int .i64) (.pair (.int .i64) .unit))) (.pair (.int .i64) (.pair (.int .i64) .unit))))))))) .unit)) .unit), (.pair (.int .i64) .unit))),
 (19, ((.pair (.pair (.pair (.int .i64) (.pair (.sl (.pair (.int .i64) (.pair (.sl (.pair (.int .i64) (.pair (.sl (.int .i64)) (.pair (.sl (.pair (.int .i64) (.pair (.int .i64) (.pair (.int .i64) (.pair (.int .i64) (.pair (.int .i64) (.pair (.int .i64) .unit))))))) .unit)))) (.pair (.sl (.sl (.int .i64))) (.pair (.sl (.int .i64)) (.pair (.pair (.sl (.int .i64)) (.pair (.int .i64) (.pair (.sl (.int .i64)) .unit))) (.pair (.sl (.pair (.int .i64) (.pair (.int .i64) .unit))) (.pair (.int .i64) (.pair (.int .i64) .unit))))))))) .unit)) .unit) .unit), (.pair (.int .i64) (.pair .bool .unit)))),
 (20, ((.pair (.sl (.sl (.pair (.int .i64) (.pair (.sl (.pair (.int .i64) (.pair (.sl (.int .i64)) (.pair (.sl (.pair (.int .i64) (.pair (.int .i64) (.pair (.int .i64) (.pair (.int .i64) (.pair (.int .i64) (.pair (.int .i64) .unit))))))) .unit)))) (.pair (.sl (.sl (.int .i64))) (.pair (.sl (.int .i64)) (.pair (.pair (.sl (.int .i64)) (.pair (.int .i64) (.pair (.sl (.int .i64)) .unit))) (.pair (.sl (.pair (.int .i64) (.pair (.int .i64) .unit))) (.pair (.int .i64) (.pair (.int .i64) .unit)))))))))) .unit), (.pair (.sl (.pair (.int .i64) (.pair (.sl (.pair (.int .i64) (.pair (.sl (.int .i64)) (.pair (.sl (.pair (.int .i64) (.pair (.int .i64) (.pair (.int .i64) (.pair (.int .i64) (.pair (.int .i64) (.pair (.int .i64) .unit))))))) .unit)))) (.pair (.sl (.sl (.int .i64))) (.pair (.sl (.int .i64)) (.pair (.pair (.sl (.int .i64)) (.pair (.int .i64) (.pair (.sl (.int .i64)) .unit))) (.pair (.sl (.pair (.int .i64) (.pair (.int .i64) .unit))) (.pair (.int .i64) (.pair (.int .i64) .unit))))))))) .unit))),
 (22, ((.pair (.pair (.int .i64) (.pair (.sl (.pair (.int .i64) (.pair (.sl (.int .i64)) (.pair (.sl (.pair (.int .i64) (.pair (.int .i64) (.pair (.int .i64) (.pair (.int .i64) (.pair (.int .i64) (.pair (.int .i64) .unit))))))) .unit)))) (.pair (.sl (.sl (.int .i64))) (.pair (.sl (.int .i64)) (.pair (.pair (.sl (.int .i64)) (.pair (.int .i64) (.pair (.sl (.int .i64)) .unit))) (.pair (.sl (.pair (.int .i64) (.pair (.int .i64) .unit))) (.pair (.int .i64) (.pair (.int .i64) .unit)))))))) (.pair (.pair (.int .i64) (.pair (.sl (.pair (.int .i64) (.pair (.sl (.int .i64)) (.pair (.sl (.pair (.int .i64) (.pair (.int .i64) (.pair (.int .i64) (.pair (.int .i64) (.pair (.int .i64) (.pair (.int .i64) .unit))))))) .unit)))) (.pair (.sl (.sl (.int .i64))) (.pair (.sl (.int .i64)) (.pair (.pair (.sl (.int .i64)) (.pair (.int .i64) (.pair (.sl (.int .i64)) .unit))) (.pair (.sl (.pair (.int .i64) (.pair (.int .i64) .unit))) (.pair (.int .i64) (.pair (.int .i64) .unit)))))))) .unit)), (.pair .bool .unit))),
 (23, ((.pair (.pair (.int .u8) (.pair (.int .u8) (.pair (.arr 4 (.pair (.int .u8) (.pair (.sl (.int .u16)) (.pair (.sl (.pair (.int .u8) (.pair (.int .i16) (.pair (.int .i16) (.pair (.int .i16) (.pair (.int .u8) (.pair (.int .u8) .unit))))))) (.pair .bool (.pair .bool .unit)))))) (.pair (.arr 4 (.arr 4 (.int .i16))) (.pair (.arr 4 (.int .i16)) (.pair (.pair (.sl (.int .u8)) (.pair (.int .u8) (.pair (.sl (.int .u16)) (.pair .bool .unit)))) (.pair (.pair (.int .u8) (.pair (.int .u8) (.pair (.sl (.pair (.int .u8) (.pair (.int .i16) .unit))) .unit))) .unit))))))) (.pair (.int .i64) .unit)), (.pair (.pair (.int .i64) (.pair (.sl (.pair (.int .i64) (.pair (.sl (.int .i64)) (.pair (.sl (.pair (.int .i64) (.pair (.int .i64) (.pair (.int .i64) (.pair (.int .i64) (.pair (.int .i64) (.pair (.int .i64) .unit))))))) .unit)))) (.pair (.sl (.sl (.int .i64))) (.pair (.sl (.int .i64)) (.pair (.pair (.sl (.int .i64)) (.pair (.int .i64) (.pair (.sl (.int .i64)) .unit))) (.pair (.sl (.pair (.int .i64) (.pair (.int .i64) .unit))) (.pair (.int .i64) (.pair (.int .i64) .unit)))))))) .unit))),
 (24, ((.pair (.pair (.int .i64) (.pair (.sl (.pair (.int .i64) (.pair (.sl (.int .i64)) (.pair (.sl (.pair (.int .i64) (.pair (.int .i64) (.pair (.int .i64) (.pair (.int .i64) (.pair (.int .i64) (.pair (.int .i64) .unit))))))) .unit)))) (.pair (.sl (.sl (.int .i64))) (.pair (.sl (.int .i64)) (.pair (.pair (.sl (.int .i64)) (.pair (.int .i64) (.pair (.sl (.int .i64)) .unit))) (.pair (.sl (.pair (.int .i64) (.pair (.int .i64) .unit))) (.pair (.int .i64) (.pair (.int .i64) .unit)))))))) .unit), (.pair (.int .i64) (.pair (.int .i64) .unit)))),
 (26, ((.pair (.pair .str (.pair .str .unit)) .unit), (.pair (.int .i64) (.pair (.int .i64) .unit)))),
 (27, ((.pair (.pair .str (.pair .str .unit)) (.pair (.pair .str (.pair .str .unit)) .unit)), (.pair (.int .i64) (.pair (.int .i64) .unit)))),
 (29, ((.pair (.pair .str (.pair .str .unit)) .unit), (.pair (.int .i64) .unit))),
 (30, ((.pair (.pair (.int .i64) (.pair (.sl (.pair (.int .i64) (.pair (.sl (.int .i64)) (.pair (.sl (.pair (.int .i64) (.pair (.int .i64) (.pair (.int .i64) (.pair (.int .i64) (.pair (.int .i64) (.pair (.int .i64) .unit))))))) .unit)))) (.pair (.sl (.sl (.int .i64))) (.pair (.sl (.int .i64)) (.pair (.pair (.sl (.int .i64)) (.pair (.int .i64) (.pair (.sl (.int .i64)) .unit))) (.pair (.sl (.pair (.int .i64) (.pair (.int .i64) .unit))) (.pair (.int .i64) (.pair (.int .i64) .unit)))))))) (.pair (.sl (.pair .str (.pair .str .unit))) .unit)), (.pair (.sl (.pair .str (.pair .str .unit))) (.pair (.int .i64) .unit)))),
 (31, (.unit, (.pair (.pair (.int .i64) (.pair (.sl (.pair (.int .i64) (.pair (.sl (.int .i64)) (.pair (.sl (.pair (.int .i64) (.pair (.int .i64) (.pair (.int .i64) (.pair (.int .i64) (.pair (.int .i64) (.pair (.int .i64) .unit))))))) .unit)))) (.pair (.sl (.sl (.int .i64))) (.pair (.sl (.int .i64)) (.pair (.pair (.sl (.int .i64)) (.pair (.int .i64) (.pair (.sl (.int .i64)) .unit))) (.pair (.sl (.pair (.int .i64) (.pair (.int .i64) .unit))) (.pair (.int .i64) (.pair (.int .i64) .unit)))))))) .unit))),
 (32, ((.pair (.int .i64) (.pair (.int .i64) .unit)), (.pair (.pair .str (.pair .str .unit)) (.pair (.int .i64) .unit)))),
 (33, ((.pair (.pair (.int .i64) (.pair (.int .i64) .unit)) .unit), (.pair .bool .unit))),
 (35, ((.pair (.pair (.int .i64) (.pair (.int .i64) .unit)) .unit), (.pair (.int .i64) .unit))),
 (36, ((.pair (.pair (.int .i64) (.pair (.sl (.pair (.int .i64) (.pair (.sl (.int .i64)) (.pair (.sl (.pair (.int .i64) (.pair (.int .i64) (.pair (.int .i64) (.pair (.int .i64) (.pair (.int .i64) (.pair (.int .i64) .unit))))))) .unit)))) (.pair (.sl (.sl (.int .i64))) (.pair (.sl (.int .i64)) (.pair (.pair (.sl (.int .i64)) (.pair (.int .i64) (.pair (.sl (.int .i64)) .unit))) (.pair (.sl (.pair (.int .i64) (.pair (.int .i64) .unit))) (.pair (.int .i64) (.pair (.int .i64) .unit)))))))) (.pair (.sl (.pair (.int .i64) (.pair (.int .i64) .unit))) .unit)), (.pair (.sl (.pair (.int .i64) (.pair (.int .i64) .unit))) (.pair (.int .i64) .unit)))),
 (38, ((.pair (.pair (.int .i64) (.pair (.sl (.pair (.int .i64) (.pair (.sl (.int .i64)) (.pair (.sl (.pair (.int .i64) (.pair (.int .i64) (.pair (.int .i64) (.pair (.int .i64) (.pair (.int .i64) (.pair (.int .i64) .unit))))))) .unit)))) (.pair (.sl (.sl (.int .i64))) (.pair (.sl (.int .i64)) (.pair (.pair (.sl (.int .i64)) (.pair (.int .i64) (.pair (.sl (.int .i64)) .unit))) (.pair (.sl (.pair (.int .i64) (.pair (.int .i64) .unit))) (.pair (.int .i64) (.pair (.int .i64) .unit)))))))) .unit), (.pair (.int .i64) (.pair (.int .i64) .unit)))),
 (39, ((.pair (.pair (.int .i64) (.pair (.sl (.pair (.int .i64) (.pair (.sl (.int .i64)) (.pair (.sl (.pair (.int .i64) (.pair (.int .i64) (.pair (.int .i64) (.pair (.int .i64) (.pair (.int .i64) (.pair (.int .i64) .unit))))))) .unit)))) (.pair (.sl (.sl (.int .i64))) (.pair (.sl (.int .i64)) (.pair (.pair (.sl (.int .i64)) (.pair (.int .i64) (.pair (.sl (.int .i64)) .unit))) (.pair (.sl (.pair (.int .i64) (.pair (.int .i64) .unit))) (.pair (.int .i64) (.pair (.int .i64) .unit)))))))) .unit), (.pair (.int .i64) (.pair (.int .i64) .unit)))),
 (41, ((.pair (.pair (.int .i64) (.pair (.sl (.int .i64)) (.pair (.sl (.pair (.int .i64) (.pair (.int .i64) (.pair (.int .i64) (.pair (.int .i64) (.pair (.int .i64) (.pair (.int .i64) .unit))))))) .unit))) (.pair (.pair (.int .i64) (.pair (.sl (.int .i64)) (.pair (.sl (.pair (.int .i64) (.pair (.int .i64) (.pair (.int .i64) (.pair (.int .i64) (.pair (.int .i64) (.pair (.int .i64) .unit))))))) .unit))) .unit)), (.pair .bool .unit))),
 (43, ((.pair (.sl (.int .i64)) (.pair (.sl (.int .i64)) .unit)), (.pair .bool .unit))),
 (44, ((.pair (.sl (.int .i64)) (.pair (.sl (.int .i64)) .unit)), (.pair .bool .unit))),
 (45, ((.pair (.pair (.sl (.int .i64)) (.pair (.int .i64) (.pair (.sl (.int .i64)) .unit))) (.pair (.pair (.sl (.int .i64)) (.pair (.int .i64) (.pair (.sl (.int .i64)) .unit))) .unit)), (.pair .bool .unit))),
 (46, ((.pair (.sl (.pair (.int .i64) (.pair (.int .i64) .unit))) (.pair (.sl (.pair (.int .i64) (.pair (.int .i64) .unit))) .unit)), (.pair .bool .unit))),
 (47, ((.pair (.pair (.int .u8) (.pair (.sl (.int .u16)) (.pair (.sl (.pair (.int .u8) (.pair (.int .i16) (.pair (.int .i16) (.pair (.int .i16) (.pair (.int .u8) (.pair (.int .u8) .unit))))))) (.pair .bool (.pair .bool .unit))))) .unit), (.pair (.pair (.int .i64) (.pair (.sl (.int .i64)) (.pair (.sl (.pair (.int .i64) (.pair (.int .i64) (.pair (.int .i64) (.pair (.int .i64) (.pair (.int .i64) (.pair (.int .i64) .unit))))))) .unit))) .unit))),
 (48, ((.pair (.pair (.sl (.int .u8)) (.pair (.int .u8) (.pair (.sl (.int .u16)) (.pair .bool .unit)))) (.pair (.sl (.int .u8)) (.pair (.int .i64) .unit))), (.pair (.pair (.sl (.int .i64)) (.pair (.int .i64) (.pair (.sl (.int .i64)) .unit))) .unit))),
 (49, ((.pair (.pair (.int .u8) (.pair (.int .u8) (.pair (.sl (.pair (.int .u8) (.pair (.int .i16) .unit))) .unit))) .unit), (.pair (.sl (.pair (.int .i64) (.pair (.int .i64) .unit))) .unit))),
 (50, ((.pair (.pair (.int .u8) (.pair (.int .u8) (.pair (.sl (.pair (.int .u8) (.pair (.int .i16) .unit))) .unit))) .unit), (.pair (.int .i64) .unit))),
 (51, ((.pair (.pair (.int .i64) (.pair (.sl (.pair (.int .i64) (.pair (.sl (.int .i64)) (.pair (.sl (.pair (.int .i64) (.pair (.int .i64) (.pair (.int .i64) (.pair (.int .i64) (.pair (.int .i64) (.pair (.int .i64) .unit))))))) .unit)))) (.pair (.sl (.sl (.int .i64))) (.pair (.sl (.int .i64)) (.pair (.pair (.sl (.int .i64)) (.pair (.int .i64) (.pair (.sl (.int .i64)) .unit))) (.pair (.sl (.pair (.int .i64) (.pair (.int .i64) .unit))) (.pair (.int .i64) (.pair (.int .i64) .unit)))))))) .unit), (.pair .bool .unit))),
 (52, ((.pair (.pair .str (.pair .str .unit)) .unit), (.pair (.pair (.pair (.sl (.int .u32)) (.pair .bool .unit)) (.pair (.sl (.int .u32)) .unit)) (.pair .bool .unit)))),
 (53, ((.pair (.pair (.sl (.int .u32)) (.pair .bool .unit)) .unit), (.pair (.int .i64) .unit))),
 (55, ((.pair (.pair (.pair (.sl (.int .u32)) (.pair .bool .unit)) (.pair (.sl (.int .u32)) .unit)) (.pair (.pair (.pair (.sl (.int .u32)) (.pair .bool .unit)) (.pair (.sl (.int .u32)) .unit)) .unit)), (.pair (.int .i64) .unit))),
 (58, ((.pair (.sl (.pair .str (.pair .str .unit))) .unit), (.pair (.sl (.pair .str (.pair .str .unit))) .unit))),
 (60, ((.pair (.pair (.pair (.int .i64) (.pair (.sl (.pair (.int .i64) (.pair (.sl (.int .i64)) (.pair (.sl (.pair (.int .i64) (.pair (.int .i64) (.pair (.int .i64) (.pair (.int .i64) (.pair (.int .i64) (.pair (.int .i64) .unit))))))) .unit)))) (.pair (.sl (.sl (.int .i64))) (.pair (.sl (.int .i64)) (.pair (.pair (.sl (.int .i64)) (.pair (.int .i64) (.pair (.sl (.int .i64)) .unit))) (.pair (.sl (.pair (.int .i64) (.pair (.int .i64) .unit))) (.pair (.int .i64) (.pair (.int .i64) .unit)))))))) .unit) (.pair (.sl (.pair .str (.pair .str .unit))) .unit)), (.pair (.sl (.pair .str (.pair .str .unit))) (.pair (.int .i64) .unit)))),
 (61, ((.pair (.pair (.pair (.int .i64) (.pair (.sl (.pair (.int .i64) (.pair (.sl (.int .i64)) (.pair (.sl (.pair (.int .i64) (.pair (.int .i64) (.pair (.int .i64) (.pair (.int .i64) (.pair (.int .i64) (.pair (.int .i64) .unit))))))) .unit)))) (.pair (.sl (.sl (.int .i64))) (.pair (.sl (.int .i64)) (.pair (.pair (.sl (.int .i64)) (.pair (.int .i64) (.pair (.sl (.int .i64)) .unit))) (.pair (.sl (.pair (.int .i64) (.pair (.int .i64) .unit))) (.pair (.int .i64) (.pair (.int .i64) .unit)))))))) .unit) (.pair (.sl (.pair .str (.pair .str .unit))) .unit)), (.pair (.sl (.pair .str (.pair .str .unit))) (.pair (.int .i64) .unit)))),
 (62, ((.pair (.pair (.pair (.int .i64) (.pair (.sl (.pair (.int .i64) (.pair (.sl (.int .i64)) (.pair (.sl (.pair (.int .i64) (.pair (.int .i64) (.pair (.int .i64) (.pair (.int .i64) (.pair (.int .i64) (.pair (.int .i64) .unit))))))) .unit)))) (.pair (.sl (.sl (.int .i64))) (.pair (.sl (.int .i64)) (.pair (.pair (.sl (.int .i64)) (.pair (.int .i64) (.pair (.sl (.int .i64)) .unit))) (.pair (.sl (.pair (.int .i64) (.pair (.int .i64) .unit))) (.pair (.int .i64) (.pair (.int .i64) .unit)))))))) .unit) (.pair (.sl (.pair .str (.pair .str .unit))) .unit)), (.pair (.sl (.pair .str (.pair .str .unit))) (.pair (.int .i64) .unit)))),
 (63, ((.pair (.pair (.pair (.int .i64) (.pair (.sl (.pair (.int .i64) (.pair (.sl (.int .i64)) (.pair (.sl (.pair (.int .i64) (.pair (.int .i64) (.pair (.int .i64) (.pair (.int .i64) (.pair (.int .i64) (.pair (.int .i64) .unit))))))) .unit)))) (.pair (.sl (.sl (.int .i64))) (.pair (.sl (.int .i64)) (.pair (.pair (.sl (.int .i64)) (.pair (.int .i64) (.pair (.sl (.int .i64)) .unit))) (.pair (.sl (.pair (.int .i64) (.pair (.int .i64) .unit))) (.pair (.int .i64) (.pair (.int .i64) .unit)))))))) .unit) (.pair (.sl (.pair .str (.pair .str .unit))) .unit)), (.pair (.sl (.pair .str (.pair .str .unit))) (.pair (.int .i64) .unit)))),
 (64, ((.pair (.pair (.pair .bool (.pair (.sl (.int .i64)) .unit)) (.pair (.pair .bool (.pair (.sl (.int .i64)) .unit)) .unit)) .unit), (.pair (.pair .str (.pair .str .unit)) (.pair (.int .i64) .unit)))),
 (65, ((.pair (.int .i64) (.pair (.int .i64) .unit)), (.pair (.pair (.pair .bool (.pair (.sl (.int .i64)) .unit)) (.pair (.pair .bool (.pair (.sl (.int .i64)) .unit)) .unit)) .unit))),
 (68, ((.pair (.sl (.pair (.int .i64) (.pair (.int .i64) .unit))) .unit), (.pair (.sl (.pair (.int .i64) (.pair (.int .i64) .unit))) .unit))),
 (69, ((.pair (.int .i64) (.pair (.int .i64) .unit)), (.pair .bool .unit))),
 (71, ((.pair (.pair (.pair (.int .i64) (.pair (.sl (.pair (.int .i64) (.pair (.sl (.int .i64)) (.pair (.sl (.pair (.int .i64) (.pair (.int .i64) (.pair (.int .i64) (.pair (.int .i64) (.pair (.int .i64) (.pair (.int .i64) .unit))))))) .unit)))) (.pair (.sl (.sl (.int .i64))) (.pair (.sl (.int .i64)) (.pair (.pair (.sl (.int .i64)) (.pair (.int .i64) (.pair (.sl (.int .i64)) .unit))) (.pair (.sl (.pair (.int .i64) (.pair (.int .i64) .unit))) (.pair (.int .i64) (.pair (.int .i64) .unit)))))))) .unit) (.pair (.sl (.pair (.int .i64) (.pair (.int .i64) .unit))) .unit)), (.pair (.sl (.pair (.int .i64) (.pair (.int .i64) .unit))) (.pair (.int .i64) .unit)))),
 (72, ((.pair (.pair (.pair (.int .i64) (.pair (.sl (.pair (.int .i64) (.pair (.sl (.int .i64)) (.pair (.sl (.pair (.int .i64) (.pair (.int .i64) (.pair (.int .i64) (.pair (.int .i64) (.pair (.int .i64) (.pair (.int .i64) .unit))))))) .unit)))) (.pair (.sl (.sl (.int .i64))) (.pair (.sl (.int .i64)) (.pair (.pair (.sl (.int .i64)) (.pair (.int .i64) (.pair (.sl (.int .i64)) .unit))) (.pair (.sl (.pair (.int .i64) (.pair (.int .i64) .unit))) (.pair (.int .i64) (.pair (.int .i64) .unit)))))))) .unit) (.pair (.sl (.pair (.int .i64) (.pair (.int .i64) .unit))) .unit)), (.pair (.sl (.pair (.int .i64) (.pair (.int .i64) .unit))) (.pair (.int .i64) .unit)))),
 (73, ((.pair (.pair (.pair (.int .i64) (.pair (.sl (.pair (.int .i64) (.pair (.sl (.int .i64)) (.pair (.sl (.pair (.int .i64) (.pair (.int .i64) (.pair (.int .i64) (.pair (.int .i64) (.pair (.int .i64) (.pair (.int .i64) .unit))))))) .unit)))) (.pair (.sl (.sl (.int .i64))) (.pair (.sl (.int .i64)) (.pair (.pair (.sl (.int .i64)) (.pair (.int .i64) (.pair (.sl (.int .i64)) .unit))) (.pair (.sl (.pair (.int .i64) (.pair (.int .i64) .unit))) (.pair (.int .i64) (.pair (.int .i64) .unit)))))))) .unit) (.pair (.sl (.pair (.int .i64) (.pair (.int .i64) .unit))) .unit)), (.pair (.sl (.pair (.int .i64) (.pair (.int .i64) .unit))) (.pair (.int .i64) .unit)))),
 (74, ((.pair (.pair (.pair (.int .i64) (.pair (.sl (.pair (.int .i64) (.pair (.sl (.int .i64)) (.pair (.sl (.pair (.int .i64) (.pair (.int .i64) (.pair (.int .i64) (.pair (.int .i64) (.pair (.int .i64) (.pair (.int .i64) .unit))))))) .unit)))) (.pair (.sl (.sl (.int .i64))) (.pair (.sl (.int .i64)) (.pair (.pair (.sl (.int .i64)) (.pair (.int .i64) (.pair (.sl (.int .i64)) .unit))) (.pair (.sl (.pair (.int .i64) (.pair (.int .i64) .unit))) (.pair (.int .i64) (.pair (.int .i64) .unit)))))))) .unit) (.pair (.sl (.pair (.int .i64) (.pair (.int .i64) .unit))) .unit)), (.pair (.sl (.pair (.int .i64) (.pair (.int .i64) .unit))) (.pair (.int .i64) .unit)))),
 (75, ((.pair (.pair (.int .i64) (.pair (.sl (.pair (.int .i64) (.pair (.sl (.int .i64)) (.pair (.sl (.pair (.int .i64) (.pair (.int .i64) (.pair (.int .i64) (.pair (.int .i64) (.pair (.int .i64) (.pair (.int .i64) .unit))))))) .unit)))) (.pair (.sl (.sl (.int .i64))) (.pair (.sl (.int .i64)) (.pair (.pair (.sl (.int .i64)) (.pair (.int .i64) (.pair (.sl (.int .i64)) .unit))) (.pair (.sl (.pair (.int .i64) (.pair (.int .i64) .unit))) (.pair (.int .i64) (.pair (.int .i64) .unit)))))))) .unit), (.pair (.int .i64) .unit))),
 (76, ((.pair (.sl (.pair (.int .i64) (.pair (.int .i64) (.pair (.int .i64) (.pair (.int .i64) (.pair (.int .i64) (.pair (.int .i64) .unit))))))) (.pair (.sl (.pair (.int .i64) (.pair (.int .i64) (.pair (.int .i64) (.pair (.int .i64) (.pair (.int .i64) (.pair (.int .i64) .unit))))))) .unit)), (.pair .bool .unit))),
 (77, ((.pair (.pair (.int .u8) (.pair (.sl (.int .u16)) (.pair (.sl (.pair (.int .u8) (.pair (.int .i16) (.pair (.int .i16) (.pair (.int .i16) (.pair (.int .u8) (.pair (.int .u8) .unit))))))) (.pair .bool (.pair .bool .unit))))) .unit), (.pair (.pair (.int .i64) (.pair (.sl (.int .i64)) (.pair (.sl (.pair (.int .i64) (.pair (.int .i64) (.pair (.int .i64) (.pair (.int .i64) (.pair (.int .i64) (.pair (.int .i64) .unit))))))) .unit))) .unit))),
 (78, ((.pair (.pair (.int .u8) (.pair (.sl (.int .u16)) (.pair (.sl (.pair (.int .u8) (.pair (.int .i16) (.pair (.int .i16) (.pair (.int .i16) (.pair (.int .u8) (.pair (.int .u8) .unit))))))) (.pair .bool (.pair .bool .unit))))) .unit), (.pair (.pair (.int .i64) (.pair (.sl (.int .i64)) (.pair (.sl (.pair (.int .i64) (.pair (.int .i64) (.pair (.int .i64) (.pair (.int .i64) (.pair (.int .i64) (.pair (.int .i64) .unit))))))) .unit))) .unit))),
 (79, ((.pair (.pair (.sl (.int .u8)) (.pair (.int .u8) (.pair (.sl (.int .u16)) (.pair .bool .unit)))) (.pair (.sl (.int .i64)) (.pair (.int .i64) .unit))), (.pair (.pair (.sl (.int .i64)) (.pair (.int .i64) (.pair (.sl (.int .i64)) .unit))) .unit))),
 (80, ((.pair (.int .i64) .unit), (.pair (.int .i64) .unit))),
 (81, ((.pair (.pair (.int .u8) (.pair (.int .u8) (.pair (.sl (.pair (.int .u8) (.pair (.int .i16) .unit))) .unit))) .unit), (.pair (.int .i64) .unit))),
 (82, ((.pair (.pair (.sl (.int .i64)) (.pair (.int .i64) (.pair (.sl (.int .i64)) .unit))) .unit), (.pair .bool .unit))),
 (83, ((.pair (.sl (.pair (.int .i64) (.pair (.sl (.int .i64)) (.pair (.sl (.pair (.int .i64) (.pair (.int .i64) (.pair (.int .i64) (.pair (.int .i64) (.pair (.int .i64) (.pair (.int .i64) .unit))))))) .unit)))) .unit), (.pair .bool .unit))),
 (84, ((.pair (.pair (.int .i64) (.pair (.sl (.pair (.int .i64) (.pair (.sl (.int .i64)) (.pair (.sl (.pair (.int .i64) (.pair (.int .i64) (.pair (.int .i64) (.pair (.int .i64) (.pair (.int .i64) (.pair (.int .i64) .unit))))))) .unit)))) (.pair (.sl (.sl (.int .i64))) (.pair (.sl (.int .i64)) (.pair (.pair (.sl (.int .i64)) (.pair (.int .i64) (.pair (.sl (.int .i64)) .unit))) (.pair (.sl (.pair (.int .i64) (.pair (.int .i64) .unit))) (.pair (.int .i64) (.pair (.int .i64) .unit)))))))) .unit), (.pair .bool .unit))),
 (85, ((.pair (.pair (.sl (.int .i64)) (.pair (.int .i64) (.pair (.sl (.int .i64)) .unit))) .unit), (.pair .bool .unit))),
 (86, ((.pair (.sl (.pair (.int .i64) (.pair (.int .i64) .unit))) (.pair (.int .i64) (.pair (.int .i64) .unit))), (.pair .bool .unit))),
 (87, ((.pair .str .unit), (.pair (.int .i64) .unit))),
 (88, ((.pair .str .unit), (.pair (.pair (.sl (.int .u32)) (.pair .bool .unit)) .unit))),
 (89, ((.pair (.sl (.int .u32)) (.pair (.sl (.int .u32)) .unit)), (.pair (.sl (.int .u32)) .unit))),
 (90, ((.pair (.sl (.int .u32)) (.pair (.sl (.int .u32)) .unit)), (.pair (.int .i64) .unit))),
 (91, ((.pair (.sl (.int .u32)) .unit), (.pair .bool .unit))),
 (92, ((.pair (.pair (.sl (.int .u32)) (.pair .bool .unit)) (.pair (.sl (.int .u32)) .unit)), (.pair (.pair (.sl (.int .u32)) (.pair .bool .unit)) .unit))),
 (93, ((.pair (.pair (.sl (.int .u32)) (.pair .bool .unit)) (.pair (.pair (.sl (.int .u32)) (.pair .bool .unit)) .unit)), (.pair (.pair (.sl (.int .u32)) (.pair .bool .unit)) .unit))),
 (94, ((.pair (.pair (.sl (.int .u32)) (.pair .bool .unit)) .unit), (.pair (.pair (.sl (.int .u32)) (.pair .bool .unit)) .unit))),
 (98, ((.pair (.pair (.int .i64) (.pair (.sl (.int .i64)) (.pair (.sl (.pair (.int .i64) (.pair (.int .i64) (.pair (.int .i64) (.pair (.int .i64) (.pair (.int .i64) (.pair (.int .i64) .unit))))))) .unit))) (.pair (.pair .str (.pair .str .unit)) .unit)), (.pair (.pair .str (.pair .str .unit)) (.pair (.int .i64) .unit)))),
 (100, ((.pair (.int .i64) .unit), (.pair (.pair .str (.pair .str .unit)) (.pair (.int .i64) .unit)))),
 (101, ((.pair (.pair .str (.pair .str .unit)) (.pair (.pair .str (.pair .str .unit)) .unit)), (.pair (.pair .str (.pair .str .unit)) (.pair (.int .i64) .unit)))),
 (102, ((.pair (.pair .str (.pair .str .unit)) (.pair (.pair .str (.pair .str .unit)) .unit)), (.pair (.pair .str (.pair .str .unit)) (.pair (.int .i64) .unit)))),
 (103, ((.pair (.pair (.sl (.int .i64)) (.pair (.int .i64) (.pair (.sl (.int .i64)) .unit))) (.pair (.sl (.pair .str (.pair .str .unit))) .unit)), (.pair (.sl (.pair .str (.pair .str .unit))) (.pair (.int .i64) .unit)))),
 (104, ((.pair (.sl (.pair (.int .i64) (.pair (.int .i64) .unit))) (.pair (.sl (.pair .str (.pair .str .unit))) (.pair (.int .i64) .unit))), (.pair (.sl (.pair .str (.pair .str .unit))) (.pair (.int .i64) .unit)))),
 (105, ((.pair (.pair .bool (.pair (.sl (.int .i64)) .unit)) .unit), (.pair .str (.pair (.int .i64) .unit)))),
 (106, ((.pair (.pair .bool (.pair (.sl (.int .i64)) .unit)) (.pair (.pair .bool (.pair (.sl (.int .i64)) .unit)) .unit)), (.pair (.pair (.pair .bool (.pair (.sl (.int .i64)) .unit)) (.pair (.pair .bool (.pair (.sl (.int .i64)) .unit)) .unit)) .unit))),
 (107, ((.pair (.int .i64) .unit), (.pair (.pair .bool (.pair (.sl (.int .i64)) .unit)) .unit))),
 (111, ((.pair (.pair (.int .i64) (.pair (.sl (.int .i64)) (.pair (.sl (.pair (.int .i64) (.pair (.int .i64) (.pair (.int .i64) (.pair (.int .i64) (.pair (.int .i64) (.pair (.int .i64) .unit))))))) .unit))) (.pair (.pair (.int .i64) (.pair (.int .i64) .unit)) .unit)), (.pair (.pair (.int .i64) (.pair (.int .i64) .unit)) (.pair (.int .i64) .unit)))),
 (113, ((.pair (.int .i64) .unit), (.pair (.pair (.int .i64) (.pair (.int .i64) .unit)) (.pair (.int .i64) .unit)))),
 (114, ((.pair (.pair (.int .i64) (.pair (.int .i64) .unit)) (.pair (.pair (.int .i64) (.pair (.int .i64) .unit)) .unit)), (.pair (.pair (.int .i64) (.pair (.int .i64) .unit)) (.pair (.int .i64) .unit)))),
 (115, ((.pair (.pair (.int .i64) (.pair (.int .i64) .unit)) (.pair (.pair (.int .i64) (.pair (.int .i64) .unit)) .unit)), (.pair (.pair (.int .i64) (.pair (.int .i64) .unit)) (.pair (.int .i64) .unit)))),
 (116, ((.pair (.pair (.sl (.int .i64)) (.pair (.int .i64) (.pair (.sl (.int .i64)) .unit))) (.pair (.sl (.pair (.int .i64) (.pair (.int .i64) .unit))) .unit)), (.pair (.sl (.pair (.int .i64) (.pair (.int .i64) .unit))) (.pair (.int .i64) .unit)))),
 (117, ((.pair (.sl (.pair (.int .i64) (.pair (.int .i64) .unit))) (.pair (.sl (.pair (.int .i64) (.pair (.int .i64) .unit))) (.pair (.int .i64) .unit))), (.pair (.sl (.pair (.int .i64) (.pair (.int .i64) .unit))) (.pair (.int .i64) .unit)))),
 (118, ((.pair (.sl (.pair (.int .i64) (.pair (.sl (.int .i64)) (.pair (.sl (.pair (.int .i64) (.pair (.int .i64) (.pair (.int .i64) (.pair (.int .i64) (.pair (.int .i64) (.pair (.int .i64) .unit))))))) .unit)))) .unit), (.pair .bool .unit))),
 (119, ((.pair (.sl (.sl (.int .i64))) (.pair (.sl (.int .i64)) .unit)), (.pair .bool .unit))),
 (120, ((.pair (.pair (.sl (.int .i64)) (.pair (.int .i64) (.pair (.sl (.int .i64)) .unit))) .unit), (.pair (.int .i64) .unit))),
 (121, ((.pair (.sl (.pair (.int .i64) (.pair (.int .i64) .unit))) (.pair (.int .i64) (.pair (.int .i64) .unit))), (.pair (.int .i64) .unit))),
 (122, ((.pair (.int .i64) (.pair (.int .i64) .unit)), (.pair .bool .unit))),
 (123, ((.pair (.sl (.int .i64)) .unit), (.pair (.int .i64) .unit))),
 (124, ((.pair (.sl (.int .i64)) (.pair (.int .i64) .unit)), (.pair (.sl (.int .i64)) .unit))),
 (125, ((.pair (.pair (.int .i64) (.pair (.sl (.int .i64)) (.pair (.sl (.pair (.int .i64) (.pair (.int .i64) (.pair (.int .i64) (.pair (.int .i64) (.pair (.int .i64) (.pair (.int .i64) .unit))))))) .unit))) .unit), (.pair .bool .unit))),
 (126, ((.pair (.sl (.int .i64)) .unit), (.pair .bool .unit))),
 (127, ((.pair (.int .i64) (.pair (.int .i64) (.pair (.int .i64) .unit))), (.pair .bool .unit))),
 (128, ((.pair (.sl (.pair (.int .i64) (.pair (.int .i64) .unit))) (.pair (.int .i64) (.pair (.int .i64) .unit))), (.pair (.int .i64) (.pair .bool .unit)))),
 (129, ((.pair .str .unit), (.pair (.pair (.sl (.int .u32)) (.pair .bool .unit)) (.pair .bool .unit)))),
 (130, ((.pair .str (.pair .str .unit)), (.pair .str (.pair .bool .unit)))),
 (131, ((.pair .str .unit), (.pair (.sl (.int .u32)) .unit))),
 (132, ((.pair (.sl (.int .u32)) .unit), (.pair (.int .u64) .unit))),
 (133, ((.pair (.int .u64) .unit), (.pair (.sl (.int .u32)) .unit))),
 (134, ((.pair (.sl (.int .u32)) (.pair (.sl (.int .u32)) .unit)), (.pair (.sl (.int .u32)) (.pair (.sl (.int .u32)) .unit)))),
 (135, ((.pair (.int .i64) (.pair (.int .i64) .unit)), (.pair (.int .i64) .unit))),
 (136, ((.pair (.int .u32) (.pair (.int .u32) .unit)), (.pair (.int .i64) .unit))),
 (137, ((.pair (.sl (.int .u32)) (.pair .bool .unit)), (.pair (.pair (.sl (.int .u32)) (.pair .bool .unit)) .unit))),
 (138, ((.pair (.sl (.int .u32)) (.pair (.sl (.int .u32)) .unit)), (.pair (.sl (.int .u32)) .unit))),
 (139, ((.pair (.sl (.int .u32)) (.pair (.sl (.int .u32)) .unit)), (.pair (.sl (.int .u32)) .unit))),
 (140, ((.pair (.sl (.int .u32)) (.pair (.sl (.int .u32)) .unit)), (.pair (.sl (.int .u32)) .unit))),
 (141, ((.pair (.pair (.int .i64) (.pair (.sl (.int .i64)) (.pair (.sl (.pair (.int .i64) (.pair (.int .i64) (.pair (.int .i64) (.pair (.int .i64) (.pair (.int .i64) (.pair (.int .i64) .unit))))))) .unit))) .unit), (.pair (.int .i64) .unit))),
 (142, ((.pair (.pair (.pair (.int .i64) (.pair (.sl (.int .i64)) (.pair (.sl (.pair (.int .i64) (.pair (.int .i64) (.pair (.int .i64) (.pair (.int .i64) (.pair (.int .i64) (.pair (.int .i64) .unit))))))) .unit))) .unit) (.pair (.pair .str (.pair .str .unit)) .unit)), (.pair (.pair .str (.pair .str .unit)) (.pair (.int .i64) .unit)))),
 (143, ((.pair (.pair (.pair (.int .i64) (.pair (.sl (.int .i64)) (.pair (.sl (.pair (.int .i64) (.pair (.int .i64) (.pair (.int .i64) (.pair (.int .i64) (.pair (.int .i64) (.pair (.int .i64) .unit))))))) .unit))) .unit) (.pair (.pair .str (.pair .str .unit)) .unit)), (.pair (.pair .str (.pair .str .unit)) (.pair (.int .i64) .unit)))),
 (144, ((.pair (.pair (.pair (.int .i64) (.pair (.sl (.int .i64)) (.pair (.sl (.pair (.int .i64) (.pair (.int .i64) (.pair (.int .i64) (.pair (.int .i64) (.pair (.int .i64) (.pair (.int .i64) .unit))))))) .unit))) .unit) (.pair (.pair .str (.pair .str .unit)) .unit)), (.pair (.pair .str (.pair .str .unit)) (.pair (.int .i64) .unit)))),
 (145, ((.pair (.pair .str (.pair .str .unit)) .unit), (.pair (.pair .str (.pair .str .unit)) .unit))),
 (150, ((.pair (.int .i64) (.pair (.int .i64) .unit)), (.pair (.pair .str (.pair .str .unit)) (.pair (.int .i64) .unit)))),
 (151, ((.pair (.pair (.pair (.sl (.int .u32)) (.pair .bool .unit)) (.pair (.sl (.int .u32)) .unit)) (.pair (.int .i64) .unit)), (.pair (.pair .str (.pair .str .unit)) (.pair (.int .i64) .unit)))),
 (153, ((.pair (.pair (.pair (.sl (.int .u32)) (.pair .bool .unit)) (.pair (.sl (.int .u32)) .unit)) (.pair (.pair (.pair (.sl (.int .u32)) (.pair .bool .unit)) (.pair (.sl (.int .u32)) .unit)) .unit)), (.pair (.pair (.pair (.sl (.int .u32)) (.pair .bool .unit)) (.pair (.sl (.int .u32)) .unit)) .unit))),
 (154, ((.pair (.pair (.pair (.sl (.int .u32)) (.pair .bool .unit)) (.pair (.sl (.int .u32)) .unit)) (.pair (.pair (.pair (.sl (.int .u32)) (.pair .bool .unit)) (.pair (.sl (.int .u32)) .unit)) .unit)), (.pair (.pair (.pair (.sl (.int .u32)) (.pair .bool .unit)) (.pair (.sl (.int .u32)) .unit)) .unit))),
 (155, ((.pair (.pair (.sl (.int .i64)) (.pair (.int .i64) (.pair (.sl (.int .i64)) .unit))) (.pair (.sl (.pair .str (.pair .str .unit))) .unit)), (.pair (.pair (.pair (.sl (.int .i64)) (.pair (.int .i64) (.pair (.sl (.int .i64)) .unit))) (.pair (.sl (.int .i64)) (.pair (.sl (.int .i64)) (.pair (.sl (.pair .str (.pair .str .unit))) .unit)))) (.pair (.int .i64) .unit)))),
 (156, ((.pair (.pair (.pair (.sl (.int .i64)) (.pair (.int .i64) (.pair (.sl (.int .i64)) .unit))) (.pair (.sl (.int .i64)) (.pair (.sl (.int .i64)) (.pair (.sl (.pair .str (.pair .str .unit))) .unit)))) .unit), (.pair (.sl (.pair .str (.pair .str .unit))) (.pair (.int .i64) .unit)))),
 (159, ((.pair (.pair .bool (.pair (.sl (.int .i64)) .unit)) .unit), (.pair .str .unit))),
 (160, ((.pair (.pair .bool (.pair (.sl (.int .i64)) .unit)) .unit), (.pair (.pair .bool (.pair (.sl (.int .i64)) .unit)) .unit))),
 (161, ((.pair (.pair .bool (.pair (.sl (.int .i64)) .unit)) (.pair (.pair .bool (.pair (.sl (.int .i64)) .unit)) .unit)), (.pair (.pair .bool (.pair (.sl (.int .i64)) .unit)) .unit))),
 (162, ((.pair (.pair .bool (.pair (.sl (.int .i64)) .unit)) (.pair (.pair .bool (.pair (.sl (.int .i64)) .unit)) .unit)), (.pair (.pair .bool (.pair (.sl (.int .i64)) .unit)) (.pair (.pair .bool (.pair (.sl (.int .i64)) .unit)) .unit)))),
 (163, ((.pair .bool (.pair (.sl (.int .i64)) .unit)), (.pair (.pair .bool (.pair (.sl (.int .i64)) .unit)) .unit))),
 (164, ((.pair (.pair (.int .i64) (.pair (.int .i64) .unit)) (.pair (.int .i64) (.pair (.int .i64) .unit))), (.pair (.pair (.int .i64) (.pair (.int .i64) .unit)) (.pair (.int .i64) .unit)))),
 (165, ((.pair (.pair (.pair (.int .i64) (.pair (.sl (.int .i64)) (.pair (.sl (.pair (.int .i64) (.pair (.int .i64) (.pair (.int .i64) (.pair (.int .i64) (.pair (.int .i64) (.pair (.int .i64) .unit))))))) .unit))) .unit) (.pair (.pair (.int .i64) (.pair (.int .i64) .unit)) .unit)), (.pair (.pair (.int .i64) (.pair (.int .i64) .unit)) (.pair (.int .i64) .unit)))),
 (166, ((.pair (.pair (.pair (.int .i64) (.pair (.sl (.int .i64)) (.pair (.sl (.pair (.int .i64) (.pair (.int .i64) (.pair (.int .i64) (.pair (.int .i64) (.pair (.int .i64) (.pair (.int .i64) .unit))))))) .unit))) .unit) (.pair (.pair (.int .i64) (.pair (.int .i64) .unit)) .unit)), (.pair (.pair (.int .i64) (.pair (.int .i64) .unit)) (.pair (.int .i64) .unit)))),
 (167, ((.pair (.pair (.pair (.int .i64) (.pair (.sl (.int .i64)) (.pair (.sl (.pair (.int .i64) (.pair (.int .i64) (.pair (.int .i64) (.pair (.int .i64) (.pair (.int .i64) (.pair (.int .i64) .unit))))))) .unit))) .unit) (.pair (.pair (.int .i64) (.pair (.int .i64) .unit)) .unit)), (.pair (.pair (.int .i64) (.pair (.int .i64) .unit)) (.pair (.int .i64) .unit)))),
 (172, ((.pair (.pair .str (.pair .str .unit)) .unit), (.pair (.pair (.int .i64) (.pair (.int .i64) .unit)) (.pair (.int .i64) .unit)))),
 (176, ((.pair (.int .i64) (.pair (.int .i64) (.pair .bool .unit))), (.pair (.int .i64) (.pair .bool .unit)))),
 (177, ((.pair (.int .i64) (.pair (.int .i64) (.pair (.int .i64) (.pair .bool .unit)))), (.pair (.int .i64) (.pair .bool .unit)))),
 (179, ((.pair (.int .i64) (.pair (.int .i64) .unit)), (.pair (.pair (.int .i64) (.pair (.int .i64) .unit)) (.pair (.int .i64) .unit)))),
 (180, ((.pair (.pair (.sl (.int .i64)) (.pair (.int .i64) (.pair (.sl (.int .i64)) .unit))) .unit), (.pair (.sl (.int .i64)) (.pair (.sl (.int .i64)) (.pair (.int .i64) .unit))))),
 (183, ((.pair (.int .i64) (.pair (.int .i64) .unit)), (.pair (.pair .str (.pair .str .unit)) .unit))),
 (184, ((.pair (.pair (.sl (.int .i64)) (.pair (.int .i64) (.pair (.sl (.int .i64)) .unit))) .unit), (.pair (.sl (.sl (.int .i64))) (.pair (.int .i64) .unit)))),
 (186, ((.pair (.sl (.int .i64)) (.pair (.sl (.pair .str (.pair .str .unit))) .unit)), (.pair (.pair .str (.pair .str .unit)) (.pair (.int .i64) .unit)))),
 (187, ((.pair (.pair .str (.pair .str .unit)) (.pair (.pair .str (.pair .str .unit)) (.pair (.pair .str (.pair .str .unit)) (.pair (.pair .str (.pair .str .unit)) .unit)))), (.pair (.pair (.int .i64) (.pair (.int .i64) .unit)) (.pair (.int .i64) .unit)))),
 (191, ((.pair (.pair (.int .i64) (.pair (.sl (.int .i64)) (.pair (.sl (.pair (.int .i64) (.pair (.int .i64) (.pair (.int .i64) (.pair (.int .i64) (.pair (.int .i64) (.pair (.int .i64) .unit))))))) .unit))) .unit), (.pair .bool .unit))),
 (193, ((.pair (.int .i64) .unit), (.pair .bool .unit))),
 (194, ((.pair (.int .i64) (.pair (.int .i64) (.pair (.int .i64) .unit))), (.pair .bool .unit))),
 (195, ((.pair (.sl (.int .i64)) .unit), (.pair (.int .i64) .unit))),
 (196, ((.pair (.sl (.pair (.int .i64) (.pair (.int .i64) .unit))) (.pair (.int .i64) (.pair (.int .i64) .unit))), (.pair (.int .i64) (.pair (.int .i64) .unit)))),
 (197, ((.pair (.int .i64) (.pair (.int .i64) (.pair (.int .i64) .unit))), (.pair .bool .unit))),
 (198, ((.pair (.pair (.int .i64) (.pair (.int .i64) (.pair (.int .i64) (.pair (.int .i64) (.pair (.int .i64) (.pair (.int .i64) .unit)))))) .unit), (.pair .bool .unit))),
 (199, ((.pair (.pair (.int .i64) (.pair (.int .i64) .unit)) (.pair (.int .i64) (.pair (.int .i64) .unit))), (.pair .bool .unit))),
 (200, ((.pair .str .unit), (.pair (.sl (.int .u32)) .unit))),
 (201, ((.pair .str (.pair .str .unit)), (.pair .str (.pair .bool .unit)))),
 (202, ((.pair (.sl (.int .u32)) .unit), (.pair (.sl (.int .u32)) .unit))),
 (203, ((.pair (.sl (.int .u32)) (.pair (.int .u32) .unit)), (.pair (.sl (.int .u32)) (.pair (.int .u32) .unit)))),
 (205, ((.pair (.int .i64) .unit), (.pair .bool .unit))),
 (206, ((.pair (.int .u32) .unit), (.pair .bool .unit))),
 (207, ((.pair (.sl (.int .i64)) .unit), (.pair .bool .unit))),
 (208, ((.pair (.pair (.int .i64) (.pair (.sl (.int .i64)) (.pair (.sl (.pair (.int .i64) (.pair (.int .i64) (.pair (.int .i64) (.pair (.int .i64) (.pair (.int .i64) (.pair (.int .i64) .unit))))))) .unit))) .unit), (.pair .bool .unit))),
 (209, ((.pair (.int .i64) .unit), (.pair (.pair .str (.pair .str .unit)) .unit))),
 (210, ((.pair (.pair .str (.pair .str .unit)) .unit), (.pair .str (.pair (.int .i64) .unit)))),
 (213, ((.pair (.pair .str (.pair .str .unit)) (.pair (.pair .str (.pair .str .unit)) .unit)), (.pair (.pair .str (.pair .str .unit)) (.pair (.int .i64) .unit)))),
 (214, ((.pair (.pair .str (.pair .str .unit)) (.pair (.pair .str (.pair .str .unit)) .unit)), (.pair (.pair .str (.pair .str .unit)) (.pair (.int .i64) .unit)))),
 (216, ((.pair (.int .i64) (.pair (.int .i64) .unit)), (.pair (.pair .str (.pair .str .unit)) .unit))),
 (217, ((.pair (.pair (.pair (.int .i64) (.pair (.int .i64) (.pair (.int .i64) (.pair (.int .i64) (.pair (.int .i64) (.pair (.int .i64) .unit)))))) (.pair (.int .i64) (.pair .bool .unit))) (.pair (.pair .str (.pair .str .unit)) .unit)), (.pair (.pair .str (.pair .str .unit)) (.pair (.int .i64) .unit)))),
 (220, ((.pair (.pair .str (.pair .str .unit)) (.pair (.pair .str (.pair .str .unit)) .unit)), (.pair (.int .i64) .unit))),
 (221, ((.pair .str (.pair .str .unit)), (.pair (.pair .str (.pair .str .unit)) (.pair (.int .i64) .unit)))),
 (222, ((.pair (.int .i64) .unit), (.pair .str .unit))),
 (223, ((.pair (.pair (.pair (.sl (.int .u32)) (.pair .bool .unit)) (.pair (.sl (.int .u32)) .unit)) .unit), (.pair (.pair .str (.pair .str .unit)) (.pair (.int .i64) .unit)))),
 (224, ((.pair (.pair (.sl (.int .i64)) (.pair (.int .i64) (.pair (.sl (.int .i64)) .unit))) (.pair (.sl (.pair .str (.pair .str .unit))) .unit)), (.pair (.pair (.pair (.sl (.int .i64)) (.pair (.int .i64) (.pair (.sl (.int .i64)) .unit))) (.pair (.sl (.int .i64)) (.pair (.sl (.int .i64)) (.pair (.sl (.pair .str (.pair .str .unit))) .unit)))) (.pair (.int .i64) .unit)))),
 (225, ((.pair (.pair (.pair (.sl (.int .i64)) (.pair (.int .i64) (.pair (.sl (.int .i64)) .unit))) (.pair (.sl (.int .i64)) (.pair (.sl (.int .i64)) (.pair (.sl (.pair .str (.pair .str .unit))) .unit)))) (.pair (.arr 4 (.int .i64)) .unit)), (.pair (.sl (.int .i64)) (.pair (.int .i64) .unit)))),
 (230, ((.pair (.int .i64) .unit), (.pair (.pair .str (.pair .str .unit)) .unit))),
 (231, ((.pair (.sl (.pair .str (.pair .str .unit))) .unit), (.pair (.pair .str (.pair .str .unit)) (.pair (.int .i64) .unit)))),
 (232, ((.pair (.int .i64) .unit), (.pair (.pair .str (.pair .str .unit)) (.pair (.int .i64) .unit)))),
 (234, ((.pair (.pair .str (.pair .str .unit)) (.pair (.pair .str (.pair .str .unit)) .unit)), (.pair (.pair .str (.pair .str .unit)) (.pair (.int .i64) .unit)))),
 (235, ((.pair (.pair .str (.pair .str .unit)) (.pair (.pair .str (.pair .str .unit)) .unit)), (.pair (.pair .str (.pair .str .unit)) (.pair (.int .i64) .unit)))),
 (237, ((.pair (.pair .str (.pair .str .unit)) .unit), (.pair (.pair .str (.pair .str .unit)) (.pair (.int .i64) .unit)))),
 (238, ((.pair (.pair .str (.pair .str .unit)) .unit), (.pair (.pair .str (.pair .str .unit)) (.pair (.int .i64) .unit)))),
 (239, ((.pair (.sl (.pair .str (.pair .str .unit))) .unit), (.pair (.pair .str (.pair .str .unit)) (.pair (.int .i64) .unit)))),
 (240, ((.pair (.pair .str (.pair .str .unit)) .unit), (.pair (.pair .str (.pair .str .unit)) (.pair (.int .i64) .unit)))),
 (241, ((.pair (.pair .str (.pair .str .unit)) (.pair (.pair .str (.pair .str .unit)) (.pair (.pair .str (.pair .str .unit)) .unit))), (.pair (.pair .str (.pair .str .unit)) (.pair (.int .i64) .unit)))),
 (247, ((.pair (.int .i64) .unit), (.pair .str .unit))),
 (248, ((.pair (.sl (.int .i64)) (.pair (.sl (.int .i64)) .unit)), (.pair (.sl (.int .i64)) (.pair (.sl (.int .i64)) .unit)))),
 (249, ((.pair (.pair .bool (.pair (.sl (.int .i64)) .unit)) (.pair (.pair .bool (.pair (.sl (.int .i64)) .unit)) .unit)), (.pair (.pair .bool (.pair (.sl (.int .i64)) .unit)) .unit))),
 (250, ((.pair (.pair .bool (.pair (.sl (.int .i64)) .unit)) (.pair (.pair .bool (.pair (.sl (.int .i64)) .unit)) .unit)), (.pair (.pair .bool (.pair (.sl (.int .i64)) .unit)) .unit))),
 (251, ((.pair (.sl (.int .i64)) .unit), (.pair (.sl (.int .i64)) .unit))),
 (253, ((.pair (.int .i64) (.pair (.int .i64) (.pair (.int .i64) .unit))), (.pair .bool .unit))),
 (254, ((.pair (.sl (.pair .str (.pair .str .unit))) .unit), (.pair (.pair (.int .i64) (.pair (.int .i64) .unit)) (.pair (.int .i64) .unit)))),
 (255, ((.pair (.pair (.pair (.int .i64) (.pair (.int .i64) (.pair (.int .i64) (.pair (.int .i64) (.pair (.int .i64) (.pair (.int .i64) .unit)))))) (.pair (.int .i64) (.pair .bool .unit))) (.pair (.int .i64) (.pair (.int .i64) .unit))), (.pair (.pair (.int .i64) (.pair (.int .i64) .unit)) (.pair (.int .i64) .unit)))),
 (256, ((.pair (.sl (.pair (.int .i64) (.pair (.int .i64) .unit))) .unit), (.pair (.pair (.int .i64) (.pair (.int .i64) .unit)) (.pair (.int .i64) .unit)))),
 (257, ((.pair (.pair .str (.pair .str .unit)) (.pair (.int .i64) .unit)), (.pair (.int .i64) (.pair (.int .i64) .unit)))),
 (258, ((.pair (.sl (.int .i64)) .unit), (.pair (.int .i64) .unit))),
 (259, ((.pair (.sl (.int .i64)) .unit), (.pair (.int .i64) .unit))),
 (260, ((.pair (.int .u64) (.pair (.int .u64) .unit)), (.pair (.int .u64) (.pair (.int .u64) .unit)))),
 (261, ((.pair (.int .i64) .unit), (.pair (.int .u64) .unit))),
 (262, ((.pair (.int .u64) (.pair (.int .u64) (.pair (.int .u64) .unit))), (.pair (.int .u64) (.pair (.int .u64) .unit)))),
 (265, ((.pair (.int .i64) (.pair (.int .i64) .unit)), (.pair .bool .unit))),
 (266, ((.pair (.int .i64) (.pair (.int .i64) .unit)), (.pair .bool .unit))),
 (269, ((.pair (.pair (.int .i64) (.pair (.int .i64) .unit)) (.pair (.pair (.int .i64) (.pair (.int .i64) .unit)) .unit)), (.pair (.pair (.int .i64) (.pair (.int .i64) .unit)) (.pair (.int .i64) .unit)))),
 (270, ((.pair (.int .i64) (.pair (.int .i64) .unit)), (.pair (.pair (.int .i64) (.pair (.int .i64) .unit)) (.pair (.int .i64) .unit)))),
 (271, ((.pair (.int .i64) .unit), (.pair (.pair (.int .i64) (.pair (.int .i64) .unit)) (.pair (.int .i64) .unit)))),
 (273, ((.pair (.pair (.int .i64) (.pair (.int .i64) .unit)) (.pair (.pair (.int .i64) (.pair (.int .i64) .unit)) .unit)), (.pair (.pair (.int .i64) (.pair (.int .i64) .unit)) (.pair (.int .i64) .unit)))),
 (274, ((.pair (.pair (.int .i64) (.pair (.int .i64) .unit)) (.pair (.pair (.int .i64) (.pair (.int .i64) .unit)) .unit)), (.pair (.pair (.int .i64) (.pair (.int .i64) .unit)) (.pair (.int .i64) .unit)))),
 (275, ((.pair (.pair (.int .i64) (.pair (.int .i64) .unit)) (.pair (.pair (.int .i64) (.pair (.int .i64) .unit)) .unit)), (.pair (.pair (.int .i64) (.pair (.int .i64) .unit)) (.pair (.int .i64) .unit)))),
 (277, ((.pair (.pair (.int .i64) (.pair (.int .i64) .unit)) .unit), (.pair (.pair (.int .i64) (.pair (.int .i64) .unit)) (.pair (.int .i64) .unit)))),
 (278, ((.pair (.pair (.int .i64) (.pair (.int .i64) .unit)) .unit), (.pair (.pair (.int .i64) (.pair (.int .i64) .unit)) (.pair (.int .i64) .unit)))),
 (279, ((.pair (.sl (.pair (.int .i64) (.pair (.int .i64) .unit))) .unit), (.pair (.pair (.int .i64) (.pair (.int .i64) .unit)) (.pair (.int .i64) .unit)))),
 (280, ((.pair (.pair (.int .i64) (.pair (.int .i64) .unit)) .unit), (.pair (.pair (.int .i64) (.pair (.int .i64) .unit)) (.pair (.int .i64) .unit)))),
 (290, ((.pair (.int .i64) .unit), (.pair (.int .i64) (.pair .bool .unit)))),
 (291, ((.pair (.pair (.int .i64) (.pair (.int .i64) .unit)) (.pair (.int .i64) (.pair (.int .i64) .unit))), (.pair .bool .unit))),
 (292, ((.pair (.sl (.int .u32)) .unit), (.pair (.sl (.int .u32)) .unit))),
 (293, ((.pair .str (.pair .str .unit)), (.pair .bool .unit))),
 (294, ((.pair (.pair (.pair (.int .i64) (.pair (.int .i64) (.pair (.int .i64) (.pair (.int .i64) (.pair (.int .i64) (.pair (.int .i64) .unit)))))) (.pair (.int .i64) (.pair .bool .unit))) .unit), (.pair .bool .unit))),
 (295, ((.pair (.pair (.sl (.int .u32)) (.pair .bool .unit)) (.pair (.sl (.int .u32)) .unit)), (.pair (.pair (.sl (.int .u32)) (.pair .bool .unit)) .unit))),
 (296, ((.pair (.pair (.sl (.int .u32)) (.pair .bool .unit)) .unit), (.pair .str .unit))),
 (299, ((.pair (.pair (.pair (.sl (.int .u32)) (.pair .bool .unit)) (.pair (.sl (.int .u32)) .unit)) (.pair (.pair (.pair (.sl (.int .u32)) (.pair .bool .unit)) (.pair (.sl (.int .u32)) .unit)) .unit)), (.pair (.pair (.pair (.sl (.int .u32)) (.pair .bool .unit)) (.pair (.sl (.int .u32)) .unit)) .unit))),
 (300, ((.pair (.pair (.pair (.sl (.int .u32)) (.pair .bool .unit)) (.pair (.sl (.int .u32)) .unit)) .unit), (.pair (.pair (.pair (.sl (.int .u32)) (.pair .bool .unit)) (.pair (.sl (.int .u32)) .unit)) .unit))),
 (302, ((.pair (.pair (.sl (.int .u32)) (.pair .bool .unit)) (.pair (.sl (.int .u32)) .unit)), (.pair (.pair (.pair (.sl (.int .u32)) (.pair .bool .unit)) (.pair (.sl (.int .u32)) .unit)) .unit))),
 (303, ((.pair (.int .i64) .unit), (.pair .str .unit))),
 (304, ((.pair (.sl (.int .u32)) .unit), (.pair (.int .i64) .unit))),
 (305, ((.pair (.sl (.int .u32)) .unit), (.pair .str .unit))),
 (307, ((.pair (.pair .str (.pair .str .unit)) (.pair (.int .i64) .unit)), (.pair (.int .i64) (.pair (.pair .str (.pair .str .unit)) (.pair (.int .i64) .unit))))),
 (313, ((.pair (.pair (.pair (.sl (.int .u32)) (.pair .bool .unit)) (.pair (.sl (.int .u32)) .unit)) (.pair (.pair (.pair (.sl (.int .u32)) (.pair .bool .unit)) (.pair (.sl (.int .u32)) .unit)) .unit)), (.pair (.pair (.pair (.sl (.int .u32)) (.pair .bool .unit)) (.pair (.sl (.int .u32)) .unit)) .unit))),
 (314, ((.pair (.pair (.pair (.sl (.int .u32)) (.pair .bool .unit)) (.pair (.sl (.int .u32)) .unit)) (.pair (.pair (.pair (.sl (.int .u32)) (.pair .bool .unit)) (.pair (.sl (.int .u32)) .unit)) .unit)), (.pair (.pair (.pair (.sl (.int .u32)) (.pair .bool .unit)) (.pair (.sl (.int .u32)) .unit)) .unit))),
 (316, ((.pair (.pair (.pair (.sl (.int .u32)) (.pair .bool .unit)) (.pair (.sl (.int .u32)) .unit)) .unit), (.pair (.pair (.pair (.sl (.int .u32)) (.pair .bool .unit)) (.pair (.sl (.int .u32)) .unit)) .unit))),
 (318, ((.pair (.sl (.pair .str (.pair .str .unit))) .unit), (.pair (.int .i64) .unit))),
 (319, ((.pair (.sl (.int .i64)) (.pair (.int .i64) .unit)), (.pair (.sl (.int .i64)) (.pair (.int .i64) .unit)))),
 (320, ((.pair (.sl (.int .i64)) (.pair (.sl (.int .i64)) .unit)), (.pair (.int .i64) .unit))),
 (321, ((.pair (.sl (.int .i64)) (.pair (.sl (.int .i64)) .unit)), (.pair (.sl (.int .i64)) .unit))),
 (322, ((.pair (.sl (.int .i64)) (.pair (.sl (.int .i64)) .unit)), (.pair (.sl (.int .i64)) .unit))),
 (323, ((.pair (.sl (.int .i64)) (.pair (.sl (.int .i64)) .unit)), (.pair (.sl (.int .i64)) .unit))),
 (324, ((.pair (.pair (.int .i64) (.pair (.int .i64) .unit)) (.pair (.int .i64) (.pair (.int .i64) .unit))), (.pair (.pair (.int .i64) (.pair (.int .i64) .unit)) (.pair (.int .i64) .unit)))),
 (325, ((.pair .str .unit), (.pair (.int .i64) (.pair (.int .i64) .unit)))),
 (326, ((.pair (.pair (.pair (.sl (.int .u32)) (.pair .bool .unit)) (.pair (.sl (.int .u32)) .unit)) (.pair (.sl (.int .u32)) .unit)), (.pair (.pair (.sl (.int .u32)) (.pair .bool .unit)) .unit))),
 (327, ((.pair (.sl (.int .i64)) .unit), (.pair (.int .i64) .unit))),
 (328, ((.pair (.sl (.int .i64)) .unit), (.pair (.int .i64) .unit))),
 (329, ((.pair (.int .u64) .unit), (.pair (.int .i64) .unit))),
 (330, ((.pair (.sl (.int .i64)) .unit), (.pair (.sl (.int .i64)) .unit))),
 (331, ((.pair (.pair (.pair (.sl (.int .i64)) (.pair (.int .i64) (.pair (.sl (.int .i64)) .unit))) .unit) (.pair (.arr 4 (.int .i64)) .unit)), (.pair (.sl (.int .i64)) .unit))),
 (334, ((.pair (.int .i64) (.pair (.pair (.int .i64) (.pair (.int .i64) .unit)) (.pair (.pair (.int .i64) (.pair (.int .i64) .unit)) .unit))), (.pair (.pair (.int .i64) (.pair (.int .i64) .unit)) (.pair (.int .i64) .unit)))),
 (341, ((.pair (.sl (.pair (.int .i64) (.pair (.int .i64) .unit))) .unit), (.pair (.int .i64) .unit))),
 (347, ((.pair (.int .i64) .unit), (.pair .str .unit))),
 (353, ((.pair (.pair (.pair (.sl (.int .i64)) (.pair (.int .i64) (.pair (.sl (.int .i64)) .unit))) .unit) (.pair (.sl (.int .i64)) .unit)), (.pair (.arr 4 (.int .i64)) (.pair .bool .unit)))),
 (354, ((.pair (.pair (.int .i64) (.pair (.int .i64) .unit)) .unit), (.pair .bool .unit))),
 (356, ((.pair (.pair (.pair (.int .i64) (.pair (.int .i64) .unit)) .unit) (.pair (.int .i64) (.pair .bool .unit))), (.pair (.int .i64) (.pair (.int .i64) .unit)))),
 (358, ((.pair (.int .u64) .unit), (.pair (.int .i64) .unit))),
 (359, ((.pair (.pair (.pair (.sl (.int .i64)) (.pair (.int .i64) (.pair (.sl (.int .i64)) .unit))) .unit) (.pair (.arr 4 (.int .i64)) .unit)), (.pair (.int .i64) .unit))),
 (363, ((.pair .str .unit), (.pair .str .unit))),
 (365, ((.pair (.int .i64) (.pair (.int .i64) .unit)), (.pair .str .unit))),
 (369, ((.pair .str (.pair (.int .i64) .unit)), (.pair .str (.pair (.int .i64) .unit)))),
 (370, ((.pair .str (.pair .str .unit)), (.pair .str (.pair (.int .i64) .unit)))),
 (371, ((.pair (.int .i64) .unit), (.pair .str .unit))),
 (372, ((.pair .str (.pair .str .unit)), (.pair .str (.pair .str (.pair (.int .i64) .unit))))),
 (373, ((.pair .str (.pair (.int .i64) .unit)), (.pair .str (.pair .bool (.pair (.int .i64) .unit))))),
 (374, ((.pair .str (.pair .bool .unit)), (.pair (.int .i64) (.pair (.int .i64) .unit)))),
 (375, ((.pair (.int .u8) .unit), (.pair (.int .u8) .unit))),
 (376, ((.pair .str .unit), (.pair .bool .unit))),
 (377, ((.pair (.int .i64) .unit), (.pair .str .unit))),
 (378, ((.pair (.int .u64) .unit), (.pair (.int .i64) .unit))),
 (379, ((.pair (.sl (.int .u8)) (.pair (.int .u64) .unit)), .unit)),
 (380, ((.pair (.sl (.int .u8)) (.pair (.int .u64) (.pair (.int .i64) (.pair .bool (.pair .bool .unit))))), (.pair (.sl (.int .u8)) (.pair .str .unit)))),
 (383, ((.pair (.pair (.sl (.int .u32)) (.pair .bool .unit)) .unit), (.pair .str (.pair (.int .i64) .unit)))),
 (384, ((.pair (.sl (.int .u32)) (.pair .bool .unit)), (.pair (.pair (.sl (.int .u32)) (.pair .bool .unit)) .unit))),
 (385, ((.pair (.sl (.int .u32)) (.pair (.int .i64) .unit)), (.pair (.sl (.int .u32)) .unit))),
 (386, ((.pair (.int .i64) (.pair .str (.pair .str .unit))), (.pair .str (.pair (.int .i64) .unit)))),
 (387, ((.pair .str (.pair (.int .i64) .unit)), (.pair .str .unit))),
 (388, ((.pair .str (.pair .str .unit)), (.pair (.pair (.sl (.int .u32)) (.pair .bool .unit)) (.pair (.pair (.sl (.int .u32)) (.pair .bool .unit)) (.pair (.int .i64) .unit))))),
 (389, ((.pair (.sl (.int .u32)) .unit), (.pair .bool .unit))),
 (390, ((.pair (.sl (.int .u32)) (.pair (.sl (.int .u32)) .unit)), (.pair (.sl (.int .u32)) (.pair (.sl (.int .u32)) .unit)))),
 (391, ((.pair (.sl (.int .u32)) (.pair (.sl (.int .u32)) .unit)), (.pair (.sl (.int .u32)) .unit))),
 (392, ((.pair (.sl (.int .u32)) (.pair (.sl (.int .u32)) .unit)), (.pair (.sl (.int .u32)) .unit))),
 (393, ((.pair .str (.pair (.int .i64) .unit)), (.pair .str (.pair (.int .i64) .unit)))),
 (394, ((.pair (.int .i64) .unit), (.pair (.int .i64) .unit))),
 (395, ((.pair .bool .unit), (.pair (.int .i64) .unit))),
 (396, ((.pair (.int .i64) .unit), (.pair .bool .unit))),
 (397, ((.pair (.int .u64) .unit), (.pair (.int .i64) .unit))),
 (399, ((.pair (.sl (.int .u32)) .unit), (.pair (.int .i64) .unit))),
 (400, ((.pair (.sl (.int .u32)) .unit), (.pair .str .unit))),
 (401, ((.pair (.sl (.int .u32)) (.pair (.sl (.int .u32)) .unit)), (.pair (.sl (.int .u32)) .unit))),
 (402, ((.pair (.pair (.sl (.int .u32)) (.pair .bool .unit)) (.pair (.pair (.sl (.int .u32)) (.pair .bool .unit)) .unit)), (.pair (.pair (.sl (.int .u32)) (.pair .bool .unit)) .unit))),
 (403, ((.pair (.pair (.sl (.int .u32)) (.pair .bool .unit)) (.pair (.pair (.sl (.int .u32)) (.pair .bool .unit)) .unit)), (.pair (.pair (.sl (.int .u32)) (.pair .bool .unit)) .unit))),
 (404, ((.pair (.pair (.sl (.int .u32)) (.pair .bool .unit)) (.pair (.pair (.sl (.int .u32)) (.pair .bool .unit)) .unit)), (.pair (.pair (.sl (.int .u32)) (.pair .bool .unit)) .unit))),
 (405, ((.pair (.pair (.sl (.int .u32)) (.pair .bool .unit)) (.pair (.pair (.sl (.int .u32)) (.pair .bool .unit)) .unit)), (.pair (.pair (.sl (.int .u32)) (.pair .bool .unit)) .unit))),
 (406, ((.pair (.int .u64) (.pair (.int .u64) .unit)), (.pair (.int .u64) (.pair (.int .u64) .unit)))),
 (407, ((.pair .str (.pair .str .unit)), (.pair .bool .unit))),
 (410, ((.pair (.sl (.int .u32)) (.pair (.sl (.int .u32)) .unit)), (.pair (.int .i64) .unit))),
 (411, ((.pair (.sl (.int .u32)) (.pair (.int .u32) .unit)), (.pair (.sl (.int .u32)) (.pair (.int .u32) .unit)))),
 (412, ((.pair (.int .u64) .unit), (.pair (.sl (.int .u32)) .unit))),
 (414, ((.pair (.sl (.int .u32)) (.pair (.int .i64) .unit)), (.pair (.sl (.int .u32)) .unit))),
 (415, ((.pair (.int .u32) .unit), (.pair (.int .i64) .unit))),
 (416, ((.pair (.int .u64) .unit), (.pair (.int .i64) .unit))),
 (418, ((.pair (.pair (.sl (.int .u32)) (.pair .bool .unit)) .unit), (.pair (.pair (.sl (.int .u32)) (.pair .bool .unit)) .unit))),
 (419, ((.pair (.sl (.int .u32)) (.pair (.sl (.int .u32)) .unit)), (.pair (.sl (.int .u32)) .unit))),
 (420, ((.pair (.int .u32) (.pair (.int .u32) .unit)), (.pair (.int .u32) (.pair (.int .u32) .unit)))),
 (422, ((.pair (.int .i64) .unit), (.pair (.sl (.int .u32)) .unit))),
 (423, ((.pair (.sl (.int .u32)) .unit), (.pair (.int .u64) .unit))),
 (453, (.unit, .unit))]
open Go Go.Proofs
set_option maxRecDepth 1000000
theorem as5 : acQ (Gt Tryz.prog) := aHd (by kernel_rfl)
theorem asZ : Tryz.prog.follows .mixedOrders = true := by kernel_rfl
def auZ (P : Program) : Sig → Bool
 | [] => true
 | x :: r => match acG P x.1 with
  | true => auZ P r
  | false => false
theorem anS {P : Program} : ∀ {s : Sig}, auZ P s = true → ∀ x ∈ s, acG P x.1 = true
 | [], _, _, h => by cases h
 | q :: r, hc, x, h => by
  simp only [auZ] at hc
  split at hc
  ·rename_i hq
   rcases zq.1 h with e | h
   ·rw [e]; exact hq
   ·exact anS hc x h
  ·cases hc
theorem ajP : ∀ x ∈ aeZ, acG Tryz.prog x.1 = true := anS (by kernel_rfl)
def amK : aa6 := aE2 303 387
theorem aJd : ad8 Tryz.prog (Gt Tryz.prog) amK :=
 aKv 303 387 (by kernel_rfl) (by kernel_rfl) (fun n h0 h1 w h => Tryz.strconv_Itoa n h0 h1 w h) (fun s c w h1 h2 => Tryz.strings_Repeat s c w h1 h2)
open Go Go.Proofs
set_option maxRecDepth 1000000
set_option maxHeartbeats 0
def aKd : Row := ⟨15, (.pair (.sl (.pair .str (.pair .str .unit))) (.pair (.sl (.pair .str (.pair .str .unit))) .unit)), (.pair .bool .unit), ([(([([51], ([56], ())), ([49], ([50], ()))], ([([51], ([56], ())), ([49], ([50], ()))], ())), (true, ()))] : List ((List (List UInt8 × (List UInt8 × Unit)) × (List (List UInt8 × (List UInt8 × Unit)) × Unit)) × (Bool × Unit)))⟩
def aKc : Row := ⟨75, (.pair (.pair (.int .i64) (.pair (.sl (.pair (.int .i64) (.pair (.sl (.int .i64)) (.pair (.sl (.pair (.int .i64) (.pair (.int .i64) (.pair (.int .i64) (.pair (.int .i64) (.pair (.int .i64) (.pair (.int .i64) .unit))))))) .unit)))) (.pair (.sl (.sl (.int .i64))) (.pair (.sl (.int .i64)) (.pair (.pair (.sl (.int .i64)) (.pair (.int .i64) (.pair (.sl (.int .i64)) .unit))) (.pair (.sl (.pair (.int .i64) (.pair (.int .i64) .unit))) (.pair (.int .i64) (.pair (.int .i64) .unit)))))))) .unit), (.pair (.int .i64) .unit), ([((((.ofNat 2), ([], ([[(.ofNat 500000), (.ofNat 500000)], [(.ofNat 1000000), (.negSucc 999999)]], ([(.ofNat 0), (.ofNat 250000)], (([], ((.ofNat 0), ([], ()))), ([], ((.ofNat 0), ((.ofNat 0), ())))))))), ()), ((.ofNat 0), ()))] : List (((Int × (List (Int × (List Int × (List (Int × (Int × (Int × (Int × (Int × (Int × Unit)))))) × Unit))) × (List (List Int) × (List Int × ((List Int × (Int × (List Int × Unit))) × (List (Int × (Int × Unit)) × (Int × (Int × Unit)))))))) × Unit) × (Int × Unit)))⟩
def aKb : Row := ⟨89, (.pair (.sl (.int .u32)) (.pair (.sl (.int .u32)) .unit)), (.pair (.sl (.int .u32)) .unit), ([(([(.ofNat 1)], ([(.ofNat 2)], ())), ([(.ofNat 1)], ())),
 (([(.ofNat 1)], ([(.ofNat 4)], ())), ([(.ofNat 1)], ())),
 (([(.ofNat 1)], ([(.ofNat 1)], ())), ([(.ofNat 1)], ())),
 (([], ([(.ofNat 1)], ())), ([(.ofNat 1)], ())),
 (([(.ofNat 3)], ([(.ofNat 4)], ())), ([(.ofNat 1)], ())),
 (([(.ofNat 1000000)], ([(.ofNat 1000000)], ())), ([(.ofNat 1000000)], ())),
 (([(.ofNat 3)], ([(.ofNat 2)], ())), ([(.ofNat 1)], ())),
 (([(.ofNat 65535)], ([(.ofNat 1)], ())), ([(.ofNat 1)], ())),
 (([(.ofNat 65535)], ([(.ofNat 2)], ())), ([(.ofNat 1)], ())),
 (([(.ofNat 65535)], ([(.ofNat 65535)], ())), ([(.ofNat 65535)], ())),
 (([(.ofNat 65535)], ([(.ofNat 4)], ())), ([(.ofNat 1)], ()))] : List ((List Int × (List Int × Unit)) × (List Int × Unit)))⟩
def aKa : Row := ⟨90, (.pair (.sl (.int .u32)) (.pair (.sl (.int .u32)) .unit)), (.pair (.int .i64) .unit), ([(([(.ofNat 1)], ([(.ofNat 2)], ())), ((.negSucc 0), ())),
 (([(.ofNat 1)], ([(.ofNat 4)], ())), ((.negSucc 0), ())),
 (([(.ofNat 3)], ([(.ofNat 1)], ())), ((.ofNat 1), ()))] : List ((List Int × (List Int × Unit)) × (Int × Unit)))⟩
def aJ9 : Row := ⟨92, (.pair (.pair (.sl (.int .u32)) (.pair .bool .unit)) (.pair (.sl (.int .u32)) .unit)), (.pair (.pair (.sl (.int .u32)) (.pair .bool .unit)) .unit), ([((([], (false, ())), ([(.ofNat 4)], ())), (([], (false, ())), ())),
 ((([], (false, ())), ([(.ofNat 2)], ())), (([], (false, ())), ())),
 ((([(.ofNat 3)], (false, ())), ([(.ofNat 4)], ())), (([(.ofNat 12)], (false, ())), ()))] : List (((List Int × (Bool × Unit)) × (List Int × Unit)) × ((List Int × (Bool × Unit)) × Unit)))⟩
def aJ8 : Row := ⟨93, (.pair (.pair (.sl (.int .u32)) (.pair .bool .unit)) (.pair (.pair (.sl (.int .u32)) (.pair .bool .unit)) .unit)), (.pair (.pair (.sl (.int .u32)) (.pair .bool .unit)) .unit), ([((([], (false, ())), (([(.ofNat 1)], (false, ())), ())), (([(.ofNat 1)], (false, ())), ())),
 ((([(.ofNat 1)], (false, ())), (([], (false, ())), ())), (([(.ofNat 1)], (false, ())), ())),
 ((([], (false, ())), (([], (false, ())), ())), (([], (false, ())), ()))] : List (((List Int × (Bool × Unit)) × ((List Int × (Bool × Unit)) × Unit)) × ((List Int × (Bool × Unit)) × Unit)))⟩
def aIg : Row := ⟨105, (.pair (.pair .bool (.pair (.sl (.int .i64)) .unit)) .unit), (.pair .str (.pair (.int .i64) .unit)), ([(((false, ([(.ofNat 1)], ())), ()), ([49], ((.ofNat 0), ()))),
 (((false, ([(.ofNat 2)], ())), ()), ([50], ((.ofNat 0), ()))),
 (((false, ([(.ofNat 3)], ())), ()), ([51], ((.ofNat 0), ())))] : List (((Bool × (List Int × Unit)) × Unit) × (List UInt8 × (Int × Unit))))⟩
def aIf : Row := ⟨107, (.pair (.int .i64) .unit), (.pair (.pair .bool (.pair (.sl (.int .i64)) .unit)) .unit), ([(((.ofNat 1), ()), ((false, ([(.ofNat 1)], ())), ())),
 (((.ofNat 2), ()), ((false, ([(.ofNat 2)], ())), ())),
 (((.ofNat 3), ()), ((false, ([(.ofNat 3)], ())), ()))] : List ((Int × Unit) × ((Bool × (List Int × Unit)) × Unit)))⟩
def aIe : Row := ⟨130, (.pair .str (.pair .str .unit)), (.pair .str (.pair .bool .unit)), ([(([49], ([45], ())), ([49], (false, ()))),
 (([50], ([45], ())), ([50], (false, ()))),
 (([52], ([45], ())), ([52], (false, ()))),
 (([48], ([45], ())), ([48], (false, ()))),
 (([49,48,48,48,48,48,48], ([45], ())), ([49,48,48,48,48,48,48], (false, ()))),
 (([53,48,48,48,48,48], ([45], ())), ([53,48,48,48,48,48], (false, ()))),
 (([56], ([45], ())), ([56], (false, ()))),
 (([50,53,48,48,48,48], ([45], ())), ([50,53,48,48,48,48], (false, ()))),
 (([45,49,48,48,48,48,48,48], ([45], ())), ([49,48,48,48,48,48,48], (true, ()))),
 (([45,49], ([45], ())), ([49], (true, ()))),
 (([51], ([45], ())), ([51], (false, ()))),
 (([45,54,53,53,51,53], ([45], ())), ([54,53,53,51,53], (true, ()))),
 (([54,53,53,51,53], ([45], ())), ([54,53,53,51,53], (false, ()))),
 (([49,48,48,48,48,48,48,48,48,48,48,48,48], ([45], ())), ([49,48,48,48,48,48,48,48,48,48,48,48,48], (false, ()))),
 (([53,48,48,48,48,48,48,48,48,48,48,48], ([45], ())), ([53,48,48,48,48,48,48,48,48,48,48,48], (false, ()))),
 (([50,53,48,48,48,48,48,48,48,48,48,48], ([45], ())), ([50,53,48,48,48,48,48,48,48,48,48,48], (false, ()))),
 (([45,49,48,48,48,48,48,48,48,48,48,48,48,48], ([45], ())), ([49,48,48,48,48,48,48,48,48,48,48,48,48], (true, ()))),
 (([49,57,54,54,48,53], ([45], ())), ([49,57,54,54,48,53], (false, ()))),
 (([55,53,48,48,48,48,48,48,48,48,48,48], ([45], ())), ([55,53,48,48,48,48,48,48,48,48,48,48], (false, ())))] : List ((List UInt8 × (List UInt8 × Unit)) × (List UInt8 × (Bool × Unit))))⟩
def aId : Row := ⟨131, (.pair .str .unit), (.pair (.sl (.int .u32)) .unit), ([(([49], ()), ([(.ofNat 1)], ())),
 (([49,48,48,48,48,48,48], ()), ([(.ofNat 1000000)], ())),
 (([54,53,53,51,53], ()), ([(.ofNat 65535)], ())),
 (([49,48,48,48,48,48,48,48,48,48,48,48,48], ()), ([(.ofNat 0), (.ofNat 1000)], ()))] : List ((List UInt8 × Unit) × (List Int × Unit)))⟩
def aIc : Row := ⟨132, (.pair (.sl (.int .u32)) .unit), (.pair (.int .u64) .unit), ([(([(.ofNat 0), (.ofNat 1000)], ()), ((.ofNat 1000000000000), ()))] : List ((List Int × Unit) × (Int × Unit)))⟩
def aIb : Row := ⟨133, (.pair (.int .u64) .unit), (.pair (.sl (.int .u32)) .unit), ([(((.ofNat 1000000000000), ()), ([(.ofNat 0), (.ofNat 1000)], ())),
 (((.ofNat 250000000000), ()), ([(.ofNat 0), (.ofNat 250)], ()))] : List ((Int × Unit) × (List Int × Unit)))⟩
def aIa : Row := ⟨134, (.pair (.sl (.int .u32)) (.pair (.sl (.int .u32)) .unit)), (.pair (.sl (.int .u32)) (.pair (.sl (.int .u32)) .unit)), ([(([(.ofNat 1000000)], ([(.ofNat 1000000)], ())), ([(.ofNat 1)], ([], ()))),
 (([(.ofNat 1)], ([(.ofNat 1)], ())), ([(.ofNat 1)], ([], ()))),
 (([(.ofNat 2)], ([(.ofNat 1)], ())), ([(.ofNat 2)], ([], ()))),
 (([(.ofNat 4)], ([(.ofNat 1)], ())), ([(.ofNat 4)], ([], ()))),
 (([(.ofNat 4)], ([(.ofNat 4)], ())), ([(.ofNat 1)], ([], ()))),
 (([(.ofNat 2)], ([(.ofNat 2)], ())), ([(.ofNat 1)], ([], ()))),
 (([(.ofNat 4)], ([(.ofNat 2)], ())), ([(.ofNat 2)], ([], ()))),
 (([], ([(.ofNat 1)], ())), ([], ([], ()))),
 (([(.ofNat 65535)], ([(.ofNat 1)], ())), ([(.ofNat 65535)], ([], ()))),
 (([(.ofNat 65535)], ([(.ofNat 65535)], ())), ([(.ofNat 1)], ([], ())))] : List ((List Int × (List Int × Unit)) × (List Int × (List Int × Unit))))⟩
def aH9 : Row := ⟨138, (.pair (.sl (.int .u32)) (.pair (.sl (.int .u32)) .unit)), (.pair (.sl (.int .u32)) .unit), ([(([(.ofNat 1)], ([(.ofNat 1)], ())), ([(.ofNat 1)], ())),
 (([(.ofNat 3)], ([(.ofNat 1)], ())), ([(.ofNat 3)], ())),
 (([(.ofNat 65535)], ([(.ofNat 1)], ())), ([(.ofNat 65535)], ())),
 (([(.ofNat 0), (.ofNat 1000)], ([(.ofNat 999000)], ())), ([(.ofNat 0), (.ofNat 999000000)], ())),
 (([], ([(.ofNat 1)], ())), ([], ())),
 (([(.ofNat 0), (.ofNat 500)], ([(.ofNat 1996007)], ())), ([(.ofNat 0), (.ofNat 998003500)], ())),
 (([(.ofNat 0), (.ofNat 250)], ([(.ofNat 3984063)], ())), ([(.ofNat 0), (.ofNat 996015750)], ()))] : List ((List Int × (List Int × Unit)) × (List Int × Unit)))⟩
def aH8 : Row := ⟨140, (.pair (.sl (.int .u32)) (.pair (.sl (.int .u32)) .unit)), (.pair (.sl (.int .u32)) .unit), ([(([(.ofNat 1)], ([(.ofNat 1)], ())), ([], ()))] : List ((List Int × (List Int × Unit)) × (List Int × Unit)))⟩
def aH7 : Row := ⟨141, (.pair (.pair (.int .i64) (.pair (.sl (.int .i64)) (.pair (.sl (.pair (.int .i64) (.pair (.int .i64) (.pair (.int .i64) (.pair (.int .i64) (.pair (.int .i64) (.pair (.int .i64) .unit))))))) .unit))) .unit), (.pair (.int .i64) .unit), ([((((.ofNat 2), ([(.ofNat 65535), (.ofNat 0)], ([], ()))), ()), ((.ofNat 0), ()))] : List (((Int × (List Int × (List (Int × (Int × (Int × (Int × (Int × (Int × Unit)))))) × Unit))) × Unit) × (Int × Unit)))⟩
def aH6 : Row := ⟨162, (.pair (.pair .bool (.pair (.sl (.int .i64)) .unit)) (.pair (.pair .bool (.pair (.sl (.int .i64)) .unit)) .unit)), (.pair (.pair .bool (.pair (.sl (.int .i64)) .unit)) (.pair (.pair .bool (.pair (.sl (.int .i64)) .unit)) .unit)), ([(((false, ([(.ofNat 1)], ())), ((false, ([(.ofNat 1)], ())), ())), ((false, ([(.ofNat 1)], ())), ((false, ([], ())), ()))),
 (((false, ([(.ofNat 3)], ())), ((false, ([(.ofNat 1)], ())), ())), ((false, ([(.ofNat 3)], ())), ((false, ([], ())), ())))] : List (((Bool × (List Int × Unit)) × ((Bool × (List Int × Unit)) × Unit)) × ((Bool × (List Int × Unit)) × ((Bool × (List Int × Unit)) × Unit))))⟩
def aH5 : Row := ⟨200, (.pair .str .unit), (.pair (.sl (.int .u32)) .unit), ([(([49], ()), ([(.ofNat 1)], ())),
 (([49,48,48,48,48,48,48], ()), ([(.ofNat 1000000)], ())),
 (([54,53,53,51,53], ()), ([(.ofNat 65535)], ())),
 (([49,48,48,48,48,48,48,48,48,48,48,48,48], ()), ([(.ofNat 0), (.ofNat 1000)], ()))] : List ((List UInt8 × Unit) × (List Int × Unit)))⟩
def aH4 : Row := ⟨202, (.pair (.sl (.int .u32)) .unit), (.pair (.sl (.int .u32)) .unit), ([(([(.ofNat 2), (.ofNat 0)], ()), ([(.ofNat 2)], ())),
 (([(.ofNat 4), (.ofNat 0)], ()), ([(.ofNat 4)], ())),
 (([(.ofNat 8), (.ofNat 0)], ()), ([(.ofNat 8)], ())),
 (([(.ofNat 0), (.ofNat 2000), (.ofNat 0)], ()), ([(.ofNat 0), (.ofNat 2000)], ())),
 (([(.ofNat 0), (.ofNat 0)], ()), ([], ()))] : List ((List Int × Unit) × (List Int × Unit)))⟩
def aH3 : Row := ⟨248, (.pair (.sl (.int .i64)) (.pair (.sl (.int .i64)) .unit)), (.pair (.sl (.int .i64)) (.pair (.sl (.int .i64)) .unit)), ([(([(.ofNat 2)], ([(.ofNat 1)], ())), ([(.ofNat 2)], ([], ()))),
 (([(.ofNat 4)], ([(.ofNat 1)], ())), ([(.ofNat 4)], ([], ()))),
 (([(.ofNat 3)], ([(.ofNat 2)], ())), ([(.ofNat 1)], ([(.ofNat 1)], ()))),
 (([], ([(.ofNat 1)], ())), ([], ([], ())))] : List ((List Int × (List Int × Unit)) × (List Int × (List Int × Unit))))⟩
def aH2 : Row := ⟨260, (.pair (.int .u64) (.pair (.int .u64) .unit)), (.pair (.int .u64) (.pair (.int .u64) .unit)), ([(((.ofNat 500000000000), ((.ofNat 0), ())), ((.ofNat 0), ((.ofNat 0), ()))),
 (((.ofNat 500000000000), ((.ofNat 1000000000000), ())), ((.ofNat 27105), ((.ofNat 1001882102603448320), ()))),
 (((.ofNat 1000000000000), ((.ofNat 0), ())), ((.ofNat 0), ((.ofNat 0), ()))),
 (((.ofNat 1000000000000), ((.ofNat 1000000000000), ())), ((.ofNat 54210), ((.ofNat 2003764205206896640), ())))] : List ((Int × (Int × Unit)) × (Int × (Int × Unit))))⟩
def aH1 : Row := ⟨262, (.pair (.int .u64) (.pair (.int .u64) (.pair (.int .u64) .unit))), (.pair (.int .u64) (.pair (.int .u64) .unit)), ([(((.ofNat 27105), ((.ofNat 1001882102603448320), ((.ofNat 1000000000000), ()))), ((.ofNat 500000000000), ((.ofNat 0), ()))),
 (((.ofNat 54210), ((.ofNat 2003764205206896640), ((.ofNat 1000000000000), ()))), ((.ofNat 1000000000000), ((.ofNat 0), ())))] : List ((Int × (Int × (Int × Unit))) × (Int × (Int × Unit))))⟩
def aH0 : Row := ⟨296, (.pair (.pair (.sl (.int .u32)) (.pair .bool .unit)) .unit), (.pair .str .unit), ([((([(.ofNat 3)], (false, ())), ()), ([51], ()))] : List (((List Int × (Bool × Unit)) × Unit) × (List UInt8 × Unit)))⟩
def aHZ : Row := ⟨305, (.pair (.sl (.int .u32)) .unit), (.pair .str .unit), ([(([(.ofNat 1)], ()), ([49], ())),
 (([(.ofNat 2)], ()), ([50], ())),
 (([(.ofNat 4)], ()), ([52], ())),
 (([(.ofNat 8)], ()), ([56], ())),
 (([(.ofNat 65535)], ()), ([54,53,53,51,53], ())),
 (([(.ofNat 0), (.ofNat 1000)], ()), ([49,48,48,48,48,48,48,48,48,48,48,48,48], ()))] : List ((List Int × Unit) × (List UInt8 × Unit)))⟩
def aHY : Row := ⟨316, (.pair (.pair (.pair (.sl (.int .u32)) (.pair .bool .unit)) (.pair (.sl (.int .u32)) .unit)) .unit), (.pair (.pair (.pair (.sl (.int .u32)) (.pair .bool .unit)) (.pair (.sl (.int .u32)) .unit)) .unit), ([(((([], (false, ())), ([(.ofNat 1)], ())), ()), ((([], (false, ())), ([(.ofNat 1)], ())), ()))] : List ((((List Int × (Bool × Unit)) × (List Int × Unit)) × Unit) × (((List Int × (Bool × Unit)) × (List Int × Unit)) × Unit)))⟩
def aLk : List Row := [aKd, aKc, aKb, aKa, aJ9, aJ8, aIg, aIf, aIe, aId, aIc, aIb, aIa, aH9, aH8, aH7, aH6, aH5, aH4, aH3, aH2, aH1, aH0, aHZ, aHY]
theorem aGN : aaO (aaR Tryz.prog aeZ 100000 amK 40) [aKd] = true := by kernel_rfl
theorem aGM : aaO (aaR Tryz.prog aeZ 100000 amK 40) [aKc] = true := by kernel_rfl
theorem aGL : aaO (aaR Tryz.prog aeZ 100000 amK 40) [aKb] = true := by kernel_rfl
theorem aGK : aaO (aaR Tryz.prog aeZ 100000 amK 40) [aKa] = true := by kernel_rfl
theorem aGJ : aaO (aaR Tryz.prog aeZ 100000 amK 40) [aJ9] = true := by kernel_rfl
theorem aGI : aaO (aaR Tryz.prog aeZ 100000 amK 40) [aJ8] = true := by kernel_rfl
theorem aEj : aaO (aaR Tryz.prog aeZ 100000 amK 40) [aIg] = true := by kernel_rfl
theorem aEi : aaO (aaR Tryz.prog aeZ 100000 amK 40) [aIf] = true := by kernel_rfl
theorem aEh : aaO (aaR Tryz.prog aeZ 100000 amK 40) [aIe] = true := by kernel_rfl
theorem aEg : aaO (aaR Tryz.prog aeZ 100000 amK 40) [aId] = true := by kernel_rfl
theorem aEf : aaO (aaR Tryz.prog aeZ 100000 amK 40) [aIc] = true := by kernel_rfl
theorem aEe : aaO (aaR Tryz.prog aeZ 100000 amK 40) [aIb] = true := by kernel_rfl
theorem aEd : aaO (aaR Tryz.prog aeZ 100000 amK 40) [aIa] = true := by kernel_rfl
theorem aEc : aaO (aaR Tryz.prog aeZ 100000 amK 40) [aH9] = true := by kernel_rfl
theorem aEb : aaO (aaR Tryz.prog aeZ 100000 amK 40) [aH8] = true := by kernel_rfl
theorem aEa : aaO (aaR Tryz.prog aeZ 100000 amK 40) [aH7] = true := by kernel_rfl
theorem aD9 : aaO (aaR Tryz.prog aeZ 100000 amK 40) [aH6] = true := by kernel_rfl
theorem aD8 : aaO (aaR Tryz.prog aeZ 100000 amK 40) [aH5] = true := by kernel_rfl
theorem aD7 : aaO (aaR Tryz.prog aeZ 100000 amK 40) [aH4] = true := by kernel_rfl
theorem aD6 : aaO (aaR Tryz.prog aeZ 100000 amK 40) [aH3] = true := by kernel_rfl
theorem aD5 : aaO (aaR Tryz.prog aeZ 100000 amK 40) [aH2] = true := by kernel_rfl
theorem aD4 : aaO (aaR Tryz.prog aeZ 100000 amK 40) [aH1] = true := by kernel_rfl
theorem aD3 : aaO (aaR Tryz.prog aeZ 100000 amK 40) [aH0] = true := by kernel_rfl
theorem aD2 : aaO (aaR Tryz.prog aeZ 100000 amK 40) [aHZ] = true := by kernel_rfl
theorem aD1 : aaO (aaR Tryz.prog aeZ 100000 amK 40) [aHY] = true := by kernel_rfl
theorem aaC {pf : aa6} {r : Row} {rs : List Row} (h1 : aaO pf [r] = true) (h2 : aaO pf rs = true) : aaO pf (r :: rs) = true := by
 simp only [aaO] at h1 ⊢
 split at h1
 ·exact h2
 ·cases h1
def aBm : aa6 := aj9 (anQ aLk) amK
theorem aJc : ad8 Tryz.prog (Gt Tryz.prog) aBm := alH as5 asZ ajP aJd 100000 40 (aaC aGN (aaC aGM (aaC aGL (aaC aGK (aaC aGJ (aaC aGI (aaC aEj (aaC aEi (aaC aEh (aaC aEg (aaC aEf (aaC aEe (aaC aEd (aaC aEc (aaC aEb (aaC aEa (aaC aD9 (aaC aD8 (aaC aD7 (aaC aD6 (aaC aD5 (aaC aD4 (aaC aD3 (aaC aD2 (aaC aD1 (rfl))))))))))))))))))))))))))
open Go Go.Proofs
set_option maxRecDepth 1000000
set_option maxHeartbeats 0
def aJ7 : Row := ⟨13, (.pair (.int .i64) (.pair (.int .i64) .unit)), (.pair (.pair .str (.pair .str .unit)) .unit), ([(((.ofNat 3), ((.ofNat 8), ())), (([51], ([56], ())), ()))] : List ((Int × (Int × Unit)) × ((List UInt8 × (List UInt8 × Unit)) × Unit)))⟩
def aJ6 : Row := ⟨75, (.pair (.pair (.int .i64) (.pair (.sl (.pair (.int .i64) (.pair (.sl (.int .i64)) (.pair (.sl (.pair (.int .i64) (.pair (.int .i64) (.pair (.int .i64) (.pair (.int .i64) (.pair (.int .i64) (.pair (.int .i64) .unit))))))) .unit)))) (.pair (.sl (.sl (.int .i64))) (.pair (.sl (.int .i64)) (.pair (.pair (.sl (.int .i64)) (.pair (.int .i64) (.pair (.sl (.int .i64)) .unit))) (.pair (.sl (.pair (.int .i64) (.pair (.int .i64) .unit))) (.pair (.int .i64) (.pair (.int .i64) .unit)))))))) .unit), (.pair (.int .i64) .unit), ([((((.ofNat 1), ([((.ofNat 1), ([], ([], ()))), ((.ofNat 2), ([(.ofNat 65535), (.ofNat 0)], ([], ())))], ([], ([], (([], ((.ofNat 0), ([], ()))), ([], ((.ofNat 0), ((.ofNat 0), ())))))))), ()), ((.ofNat 0), ()))] : List (((Int × (List (Int × (List Int × (List (Int × (Int × (Int × (Int × (Int × (Int × Unit)))))) × Unit))) × (List (List Int) × (List Int × ((List Int × (Int × (List Int × Unit))) × (List (Int × (Int × Unit)) × (Int × (Int × Unit)))))))) × Unit) × (Int × Unit)))⟩
def aJ5 : Row := ⟨87, (.pair .str .unit), (.pair (.int .i64) .unit), ([(([49], ()), ((.ofNat 0), ())),
 (([50], ()), ((.ofNat 0), ())),
 (([52], ()), ((.ofNat 0), ())),
 (([48], ()), ((.ofNat 0), ())),
 (([49,48,48,48,48,48,48], ()), ((.ofNat 0), ())),
 (([56], ()), ((.ofNat 0), ())),
 (([45,49], ()), ((.ofNat 0), ())),
 (([51], ()), ((.ofNat 0), ())),
 (([45,54,53,53,51,53], ()), ((.ofNat 0), ())),
 (([54,53,53,51,53], ()), ((.ofNat 0), ())),
 (([49,48,48,48,48,48,48,48,48,48,48,48,48], ()), ((.ofNat 0), ())),
 (([53,48,48,48,48,48,48,48,48,48,48,48], ()), ((.ofNat 0), ())),
 (([50,53,48,48,48,48,48,48,48,48,48,48], ()), ((.ofNat 0), ())),
 (([45,49,48,48,48,48,48,48,48,48,48,48,48,48], ()), ((.ofNat 0), ())),
 (([55,53,48,48,48,48,48,48,48,48,48,48], ()), ((.ofNat 0), ()))] : List ((List UInt8 × Unit) × (Int × Unit)))⟩
def aJ4 : Row := ⟨88, (.pair .str .unit), (.pair (.pair (.sl (.int .u32)) (.pair .bool .unit)) .unit), ([(([50], ()), (([(.ofNat 2)], (false, ())), ())),
 (([52], ()), (([(.ofNat 4)], (false, ())), ())),
 (([48], ()), (([], (false, ())), ())),
 (([56], ()), (([(.ofNat 8)], (false, ())), ())),
 (([51], ()), (([(.ofNat 3)], (false, ())), ()))] : List ((List UInt8 × Unit) × ((List Int × (Bool × Unit)) × Unit)))⟩
def aJ3 : Row := ⟨89, (.pair (.sl (.int .u32)) (.pair (.sl (.int .u32)) .unit)), (.pair (.sl (.int .u32)) .unit), ([(([(.ofNat 0), (.ofNat 1000)], ([(.ofNat 0), (.ofNat 1000)], ())), ([(.ofNat 0), (.ofNat 1000)], ()))] : List ((List Int × (List Int × Unit)) × (List Int × Unit)))⟩
def aJ2 : Row := ⟨92, (.pair (.pair (.sl (.int .u32)) (.pair .bool .unit)) (.pair (.sl (.int .u32)) .unit)), (.pair (.pair (.sl (.int .u32)) (.pair .bool .unit)) .unit), ([((([(.ofNat 1)], (true, ())), ([(.ofNat 1)], ())), (([(.ofNat 1)], (true, ())), ())),
 ((([(.ofNat 65535)], (true, ())), ([(.ofNat 1)], ())), (([(.ofNat 65535)], (true, ())), ()))] : List (((List Int × (Bool × Unit)) × (List Int × Unit)) × ((List Int × (Bool × Unit)) × Unit)))⟩
def aHX : Row := ⟨134, (.pair (.sl (.int .u32)) (.pair (.sl (.int .u32)) .unit)), (.pair (.sl (.int .u32)) (.pair (.sl (.int .u32)) .unit)), ([(([(.ofNat 3)], ([(.ofNat 1)], ())), ([(.ofNat 3)], ([], ()))),
 (([(.ofNat 0), (.ofNat 1000)], ([(.ofNat 0), (.ofNat 1000)], ())), ([(.ofNat 1)], ([], ()))),
 (([(.ofNat 0), (.ofNat 1000)], ([(.ofNat 0), (.ofNat 250)], ())), ([(.ofNat 4)], ([], ())))] : List ((List Int × (List Int × Unit)) × (List Int × (List Int × Unit))))⟩
def aHW : Row := ⟨138, (.pair (.sl (.int .u32)) (.pair (.sl (.int .u32)) .unit)), (.pair (.sl (.int .u32)) .unit), ([(([(.ofNat 1)], ([(.ofNat 2)], ())), ([(.ofNat 2)], ())),
 (([(.ofNat 1)], ([(.ofNat 4)], ())), ([(.ofNat 4)], ())),
 (([(.ofNat 2)], ([(.ofNat 2)], ())), ([(.ofNat 4)], ())),
 (([(.ofNat 1)], ([(.ofNat 8)], ())), ([(.ofNat 8)], ())),
 (([(.ofNat 2)], ([(.ofNat 1)], ())), ([(.ofNat 2)], ())),
 (([(.ofNat 0), (.ofNat 1000)], ([(.ofNat 2)], ())), ([(.ofNat 0), (.ofNat 2000)], ())),
 (([(.ofNat 1)], ([(.ofNat 0), (.ofNat 2000)], ())), ([(.ofNat 0), (.ofNat 2000)], ())),
 (([(.ofNat 4)], ([(.ofNat 2)], ())), ([(.ofNat 8)], ())),
 (([(.ofNat 4)], ([(.ofNat 1)], ())), ([(.ofNat 4)], ()))] : List ((List Int × (List Int × Unit)) × (List Int × Unit)))⟩
def aHV : Row := ⟨162, (.pair (.pair .bool (.pair (.sl (.int .i64)) .unit)) (.pair (.pair .bool (.pair (.sl (.int .i64)) .unit)) .unit)), (.pair (.pair .bool (.pair (.sl (.int .i64)) .unit)) (.pair (.pair .bool (.pair (.sl (.int .i64)) .unit)) .unit)), ([(((false, ([(.ofNat 2)], ())), ((false, ([(.ofNat 1)], ())), ())), ((false, ([(.ofNat 2)], ())), ((false, ([], ())), ())))] : List (((Bool × (List Int × Unit)) × ((Bool × (List Int × Unit)) × Unit)) × ((Bool × (List Int × Unit)) × ((Bool × (List Int × Unit)) × Unit))))⟩
def aHU : Row := ⟨176, (.pair (.int .i64) (.pair (.int .i64) (.pair .bool .unit))), (.pair (.int .i64) (.pair .bool .unit)), ([(((.ofNat 500000000000), ((.ofNat 0), (false, ()))), ((.ofNat 0), (true, ()))),
 (((.ofNat 500000000000), ((.ofNat 0), (true, ()))), ((.ofNat 0), (true, ()))),
 (((.ofNat 500000000000), ((.ofNat 1000000000000), (false, ()))), ((.ofNat 500000000000), (true, ()))),
 (((.ofNat 500000000000), ((.ofNat 1000000000000), (true, ()))), ((.ofNat 500000000000), (true, ()))),
 (((.ofNat 1000000000000), ((.ofNat 0), (false, ()))), ((.ofNat 0), (true, ()))),
 (((.ofNat 1000000000000), ((.ofNat 0), (true, ()))), ((.ofNat 0), (true, ()))),
 (((.ofNat 1000000000000), ((.ofNat 1000000000000), (false, ()))), ((.ofNat 1000000000000), (true, ()))),
 (((.ofNat 1000000000000), ((.ofNat 1000000000000), (true, ()))), ((.ofNat 1000000000000), (true, ()))),
 (((.negSucc 999999999999), ((.ofNat 1000000000000), (false, ()))), ((.negSucc 999999999999), (true, ()))),
 (((.negSucc 999999999999), ((.ofNat 1000000000000), (true, ()))), ((.negSucc 999999999999), (true, ())))] : List ((Int × (Int × (Bool × Unit))) × (Int × (Bool × Unit))))⟩
def aHT : Row := ⟨223, (.pair (.pair (.pair (.sl (.int .u32)) (.pair .bool .unit)) (.pair (.sl (.int .u32)) .unit)) .unit), (.pair (.pair .str (.pair .str .unit)) (.pair (.int .i64) .unit)), ([(((([], (false, ())), ([(.ofNat 1)], ())), ()), (([48], ([49], ())), ((.ofNat 0), ()))),
 (((([(.ofNat 1)], (false, ())), ([(.ofNat 2)], ())), ()), (([49], ([50], ())), ((.ofNat 0), ()))),
 (((([(.ofNat 1)], (false, ())), ([(.ofNat 4)], ())), ()), (([49], ([52], ())), ((.ofNat 0), ()))),
 (((([(.ofNat 1)], (false, ())), ([(.ofNat 1)], ())), ()), (([49], ([49], ())), ((.ofNat 0), ()))),
 (((([(.ofNat 3)], (false, ())), ([(.ofNat 4)], ())), ()), (([51], ([52], ())), ((.ofNat 0), ()))),
 (((([(.ofNat 1)], (true, ())), ([(.ofNat 1)], ())), ()), (([45,49], ([49], ())), ((.ofNat 0), ()))),
 (((([(.ofNat 65535)], (false, ())), ([(.ofNat 1)], ())), ()), (([54,53,53,51,53], ([49], ())), ((.ofNat 0), ())))] : List ((((List Int × (Bool × Unit)) × (List Int × Unit)) × Unit) × ((List UInt8 × (List UInt8 × Unit)) × (Int × Unit))))⟩
def aHS : Row := ⟨295, (.pair (.pair (.sl (.int .u32)) (.pair .bool .unit)) (.pair (.sl (.int .u32)) .unit)), (.pair (.pair (.sl (.int .u32)) (.pair .bool .unit)) .unit), ([((([(.ofNat 1)], (false, ())), ([(.ofNat 2)], ())), (([], (false, ())), ()))] : List (((List Int × (Bool × Unit)) × (List Int × Unit)) × ((List Int × (Bool × Unit)) × Unit)))⟩
def aLj : List Row := [aJ7, aJ6, aJ5, aJ4, aJ3, aJ2, aHX, aHW, aHV, aHU, aHT, aHS]
theorem aGH : aaO (aaR Tryz.prog aeZ 100000 aBm 40) [aJ7] = true := by kernel_rfl
theorem aGG : aaO (aaR Tryz.prog aeZ 100000 aBm 40) [aJ6] = true := by kernel_rfl
theorem aGF : aaO (aaR Tryz.prog aeZ 100000 aBm 40) [aJ5] = true := by kernel_rfl
theorem aGE : aaO (aaR Tryz.prog aeZ 100000 aBm 40) [aJ4] = true := by kernel_rfl
theorem aGD : aaO (aaR Tryz.prog aeZ 100000 aBm 40) [aJ3] = true := by kernel_rfl
theorem aGC : aaO (aaR Tryz.prog aeZ 100000 aBm 40) [aJ2] = true := by kernel_rfl
theorem aD0 : aaO (aaR Tryz.prog aeZ 100000 aBm 40) [aHX] = true := by kernel_rfl
theorem aDZ : aaO (aaR Tryz.prog aeZ 100000 aBm 40) [aHW] = true := by kernel_rfl
theorem aDY : aaO (aaR Tryz.prog aeZ 100000 aBm 40) [aHV] = true := by kernel_rfl
theorem aDX : aaO (aaR Tryz.prog aeZ 100000 aBm 40) [aHU] = true := by kernel_rfl
theorem aDW : aaO (aaR Tryz.prog aeZ 100000 aBm 40) [aHT] = true := by kernel_rfl
theorem aDV : aaO (aaR Tryz.prog aeZ 100000 aBm 40) [aHS] = true := by kernel_rfl
def aIp : aa6 := aj9 (anQ aLj) aBm
theorem aJb : ad8 Tryz.prog (Gt Tryz.prog) aIp := alH as5 asZ ajP aJc 100000 40 (aaC aGH (aaC aGG (aaC aGF (aaC aGE (aaC aGD (aaC aGC (aaC aD0 (aaC aDZ (aaC aDY (aaC aDX (aaC aDW (aaC aDV (rfl)))))))))))))
open Go Go.Proofs
set_option maxRecDepth 1000000
set_option maxHeartbeats 0
def aLU : Row := ⟨8, (.pair (.pair (.int .i64) (.pair (.sl (.pair (.int .i64) (.pair (.sl (.pair (.int .i64) (.pair (.sl (.int .i64)) (.pair (.sl (.pair (.int .i64) (.pair (.int .i64) (.pair (.int .i64) (.pair (.int .i64) (.pair (.int .i64) (.pair (.int .i64) .unit))))))) .unit)))) (.pair (.sl (.sl (.int .i64))) (.pair (.sl (.int .i64)) (.pair (.pair (.sl (.int .i64)) (.pair (.int .i64) (.pair (.sl (.int .i64)) .unit))) (.pair (.sl (.pair (.int .i64) (.pair (.int .i64) .unit))) (.pair (.int .i64) (.pair (.int .i64) .unit))))))))) .unit)) .unit), (.pair (.int .i64) (.pair (.int .i64) .unit)), ([((((.ofNat 2), ([((.ofNat 2), ([], ([[(.ofNat 500000), (.ofNat 500000)], [(.ofNat 1000000), (.negSucc 999999)]], ([(.ofNat 0), (.ofNat 250000)], (([], ((.ofNat 0), ([], ()))), ([], ((.ofNat 0), ((.ofNat 0), ())))))))), ((.ofNat 1), ([((.ofNat 1), ([], ([], ()))), ((.ofNat 2), ([(.ofNat 65535), (.ofNat 0)], ([], ())))], ([], ([], (([], ((.ofNat 0), ([], ()))), ([], ((.ofNat 0), ((.ofNat 0), ()))))))))], ())), ()), ((.ofNat 2), ((.ofNat 0), ())))] : List (((Int × (List (Int × (List (Int × (List Int × (List (Int × (Int × (Int × (Int × (Int × (Int × Unit)))))) × Unit))) × (List (List Int) × (List Int × ((List Int × (Int × (List Int × Unit))) × (List (Int × (Int × Unit)) × (Int × (Int × Unit)))))))) × Unit)) × Unit) × (Int × (Int × Unit))))⟩
def aJ1 : Row := ⟨13, (.pair (.int .i64) (.pair (.int .i64) .unit)), (.pair (.pair .str (.pair .str .unit)) .unit), ([(((.ofNat 1), ((.ofNat 2), ())), (([49], ([50], ())), ()))] : List ((Int × (Int × Unit)) × ((List UInt8 × (List UInt8 × Unit)) × Unit)))⟩
def aJ0 : Row := ⟨52, (.pair (.pair .str (.pair .str .unit)) .unit), (.pair (.pair (.pair (.sl (.int .u32)) (.pair .bool .unit)) (.pair (.sl (.int .u32)) .unit)) (.pair .bool .unit)), ([((([49], ([50], ())), ()), ((([(.ofNat 1)], (false, ())), ([(.ofNat 2)], ())), (true, ()))),
 ((([49], ([52], ())), ()), ((([(.ofNat 1)], (false, ())), ([(.ofNat 4)], ())), (true, ()))),
 ((([49], ([49], ())), ()), ((([(.ofNat 1)], (false, ())), ([(.ofNat 1)], ())), (true, ()))),
 ((([48], ([49], ())), ()), ((([], (false, ())), ([(.ofNat 1)], ())), (true, ()))),
 ((([45,49], ([49], ())), ()), ((([(.ofNat 1)], (true, ())), ([(.ofNat 1)], ())), (true, ()))),
 ((([51], ([52], ())), ()), ((([(.ofNat 3)], (false, ())), ([(.ofNat 4)], ())), (true, ()))),
 ((([51], ([56], ())), ()), ((([(.ofNat 3)], (false, ())), ([(.ofNat 8)], ())), (true, ()))),
 ((([45,54,53,53,51,53], ([49], ())), ()), ((([(.ofNat 65535)], (true, ())), ([(.ofNat 1)], ())), (true, ()))),
 ((([54,53,53,51,53], ([49], ())), ()), ((([(.ofNat 65535)], (false, ())), ([(.ofNat 1)], ())), (true, ()))),
 ((([51], ([50], ())), ()), ((([(.ofNat 3)], (false, ())), ([(.ofNat 2)], ())), (true, ())))] : List (((List UInt8 × (List UInt8 × Unit)) × Unit) × (((List Int × (Bool × Unit)) × (List Int × Unit)) × (Bool × Unit))))⟩
def aHR : Row := ⟨100, (.pair (.int .i64) .unit), (.pair (.pair .str (.pair .str .unit)) (.pair (.int .i64) .unit)), ([(((.ofNat 0), ()), (([48], ([49], ())), ((.ofNat 0), ()))),
 (((.ofNat 500000), ()), (([49], ([50], ())), ((.ofNat 0), ()))),
 (((.ofNat 250000), ()), (([49], ([52], ())), ((.ofNat 0), ()))),
 (((.ofNat 1000000), ()), (([49], ([49], ())), ((.ofNat 0), ()))),
 (((.negSucc 999999), ()), (([45,49], ([49], ())), ((.ofNat 0), ())))] : List ((Int × Unit) × ((List UInt8 × (List UInt8 × Unit)) × (Int × Unit))))⟩
def aHQ : Row := ⟨150, (.pair (.int .i64) (.pair (.int .i64) .unit)), (.pair (.pair .str (.pair .str .unit)) (.pair (.int .i64) .unit)), ([(((.ofNat 0), ((.ofNat 1000000000000), ())), (([48], ([49], ())), ((.ofNat 0), ()))),
 (((.ofNat 250000000000), ((.ofNat 1000000000000), ())), (([49], ([52], ())), ((.ofNat 0), ())))] : List ((Int × (Int × Unit)) × ((List UInt8 × (List UInt8 × Unit)) × (Int × Unit))))⟩
def aHP : Row := ⟨209, (.pair (.int .i64) .unit), (.pair (.pair .str (.pair .str .unit)) .unit), ([(((.ofNat 0), ()), (([48], ([49], ())), ())),
 (((.ofNat 1), ()), (([49], ([49], ())), ())),
 (((.negSucc 65534), ()), (([45,54,53,53,51,53], ([49], ())), ())),
 (((.ofNat 65535), ()), (([54,53,53,51,53], ([49], ())), ()))] : List ((Int × Unit) × ((List UInt8 × (List UInt8 × Unit)) × Unit)))⟩
def aLi : List Row := [aLU, aJ1, aJ0, aHR, aHQ, aHP]
theorem aIX : aaO (aaR Tryz.prog aeZ 100000 aIp 40) [aLU] = true := by kernel_rfl
theorem aGB : aaO (aaR Tryz.prog aeZ 100000 aIp 40) [aJ1] = true := by kernel_rfl
theorem aGA : aaO (aaR Tryz.prog aeZ 100000 aIp 40) [aJ0] = true := by kernel_rfl
theorem aDU : aaO (aaR Tryz.prog aeZ 100000 aIp 40) [aHR] = true := by kernel_rfl
theorem aDT : aaO (aaR Tryz.prog aeZ 100000 aIp 40) [aHQ] = true := by kernel_rfl
theorem aDS : aaO (aaR Tryz.prog aeZ 100000 aIp 40) [aHP] = true := by kernel_rfl
def aJA : aa6 := aj9 (anQ aLi) aIp
theorem aJa : ad8 Tryz.prog (Gt Tryz.prog) aJA := alH as5 asZ ajP aJb 100000 40 (aaC aIX (aaC aGB (aaC aGA (aaC aDU (aaC aDT (aaC aDS (rfl)))))))
open Go Go.Proofs
set_option maxRecDepth 1000000
set_option maxHeartbeats 0
def aJZ : Row := ⟨27, (.pair (.pair .str (.pair .str .unit)) (.pair (.pair .str (.pair .str .unit)) .unit)), (.pair (.int .i64) (.pair (.int .i64) .unit)), ([((([49], ([50], ())), (([49], ([49], ())), ())), ((.negSucc 0), ((.ofNat 0), ())))] : List (((List UInt8 × (List UInt8 × Unit)) × ((List UInt8 × (List UInt8 × Unit)) × Unit)) × (Int × (Int × Unit))))⟩
def aJY : Row := ⟨61, (.pair (.pair (.pair (.int .i64) (.pair (.sl (.pair (.int .i64) (.pair (.sl (.int .i64)) (.pair (.sl (.pair (.int .i64) (.pair (.int .i64) (.pair (.int .i64) (.pair (.int .i64) (.pair (.int .i64) (.pair (.int .i64) .unit))))))) .unit)))) (.pair (.sl (.sl (.int .i64))) (.pair (.sl (.int .i64)) (.pair (.pair (.sl (.int .i64)) (.pair (.int .i64) (.pair (.sl (.int .i64)) .unit))) (.pair (.sl (.pair (.int .i64) (.pair (.int .i64) .unit))) (.pair (.int .i64) (.pair (.int .i64) .unit)))))))) .unit) (.pair (.sl (.pair .str (.pair .str .unit))) .unit)), (.pair (.sl (.pair .str (.pair .str .unit))) (.pair (.int .i64) .unit)), ([(((((.ofNat 2), ([], ([[(.ofNat 500000), (.ofNat 500000)], [(.ofNat 1000000), (.negSucc 999999)]], ([(.ofNat 0), (.ofNat 250000)], (([], ((.ofNat 0), ([], ()))), ([], ((.ofNat 0), ((.ofNat 0), ())))))))), ()), ([([49], ([50], ())), ([49], ([52], ()))], ())), ([([51], ([56], ())), ([49], ([50], ()))], ((.ofNat 0), ())))] : List ((((Int × (List (Int × (List Int × (List (Int × (Int × (Int × (Int × (Int × (Int × Unit)))))) × Unit))) × (List (List Int) × (List Int × ((List Int × (Int × (List Int × Unit))) × (List (Int × (Int × Unit)) × (Int × (Int × Unit)))))))) × Unit) × (List (List UInt8 × (List UInt8 × Unit)) × Unit)) × (List (List UInt8 × (List UInt8 × Unit)) × (Int × Unit))))⟩
def aHO : Row := ⟨113, (.pair (.int .i64) .unit), (.pair (.pair (.int .i64) (.pair (.int .i64) .unit)) (.pair (.int .i64) .unit)), ([(((.ofNat 500000), ()), (((.ofNat 500000000000), ((.ofNat 500000000000), ())), ((.ofNat 0), ())))] : List ((Int × Unit) × ((Int × (Int × Unit)) × (Int × Unit))))⟩
def aHN : Row := ⟨172, (.pair (.pair .str (.pair .str .unit)) .unit), (.pair (.pair (.int .i64) (.pair (.int .i64) .unit)) (.pair (.int .i64) .unit)), ([((([49], ([49], ())), ()), (((.ofNat 1000000000000), ((.ofNat 1000000000000), ())), ((.ofNat 0), ())))] : List (((List UInt8 × (List UInt8 × Unit)) × Unit) × ((Int × (Int × Unit)) × (Int × Unit))))⟩
def aLh : List Row := [aJZ, aJY, aHO, aHN]
theorem aGz : aaO (aaR Tryz.prog aeZ 100000 aJA 40) [aJZ] = true := by kernel_rfl
theorem aGy : aaO (aaR Tryz.prog aeZ 100000 aJA 40) [aJY] = true := by kernel_rfl
theorem aDR : aaO (aaR Tryz.prog aeZ 100000 aJA 40) [aHO] = true := by kernel_rfl
theorem aDQ : aaO (aaR Tryz.prog aeZ 100000 aJA 40) [aHN] = true := by kernel_rfl
def aKw : aa6 := aj9 (anQ aLh) aJA
theorem aI9 : ad8 Tryz.prog (Gt Tryz.prog) aKw := alH as5 asZ ajP aJa 100000 40 (aaC aGz (aaC aGy (aaC aDR (aaC aDQ (rfl)))))
open Go Go.Proofs
set_option maxRecDepth 1000000
set_option maxHeartbeats 0
def aJX : Row := ⟨11, (.pair (.pair (.int .i64) (.pair (.sl (.pair (.int .i64) (.pair (.sl (.pair (.int .i64) (.pair (.sl (.int .i64)) (.pair (.sl (.pair (.int .i64) (.pair (.int .i64) (.pair (.int .i64) (.pair (.int .i64) (.pair (.int .i64) (.pair (.int .i64) .unit))))))) .unit)))) (.pair (.sl (.sl (.int .i64))) (.pair (.sl (.int .i64)) (.pair (.pair (.sl (.int .i64)) (.pair (.int .i64) (.pair (.sl (.int .i64)) .unit))) (.pair (.sl (.pair (.int .i64) (.pair (.int .i64) .unit))) (.pair (.int .i64) (.pair (.int .i64) .unit))))))))) .unit)) (.pair (.sl (.pair .str (.pair .str .unit))) .unit)), (.pair (.sl (.pair .str (.pair .str .unit))) (.pair (.int .i64) .unit)), ([((((.ofNat 2), ([((.ofNat 2), ([], ([[(.ofNat 500000), (.ofNat 500000)], [(.ofNat 1000000), (.negSucc 999999)]], ([(.ofNat 0), (.ofNat 250000)], (([], ((.ofNat 0), ([], ()))), ([], ((.ofNat 0), ((.ofNat 0), ())))))))), ((.ofNat 1), ([((.ofNat 1), ([], ([], ()))), ((.ofNat 2), ([(.ofNat 65535), (.ofNat 0)], ([], ())))], ([], ([], (([], ((.ofNat 0), ([], ()))), ([], ((.ofNat 0), ((.ofNat 0), ()))))))))], ())), ([([49], ([50], ())), ([49], ([52], ()))], ())), ([([51], ([56], ())), ([49], ([50], ()))], ((.ofNat 0), ())))] : List (((Int × (List (Int × (List (Int × (List Int × (List (Int × (Int × (Int × (Int × (Int × (Int × Unit)))))) × Unit))) × (List (List Int) × (List Int × ((List Int × (Int × (List Int × Unit))) × (List (Int × (Int × Unit)) × (Int × (Int × Unit)))))))) × Unit)) × (List (List UInt8 × (List UInt8 × Unit)) × Unit)) × (List (List UInt8 × (List UInt8 × Unit)) × (Int × Unit))))⟩
def aJW : Row := ⟨72, (.pair (.pair (.pair (.int .i64) (.pair (.sl (.pair (.int .i64) (.pair (.sl (.int .i64)) (.pair (.sl (.pair (.int .i64) (.pair (.int .i64) (.pair (.int .i64) (.pair (.int .i64) (.pair (.int .i64) (.pair (.int .i64) .unit))))))) .unit)))) (.pair (.sl (.sl (.int .i64))) (.pair (.sl (.int .i64)) (.pair (.pair (.sl (.int .i64)) (.pair (.int .i64) (.pair (.sl (.int .i64)) .unit))) (.pair (.sl (.pair (.int .i64) (.pair (.int .i64) .unit))) (.pair (.int .i64) (.pair (.int .i64) .unit)))))))) .unit) (.pair (.sl (.pair (.int .i64) (.pair (.int .i64) .unit))) .unit)), (.pair (.sl (.pair (.int .i64) (.pair (.int .i64) .unit))) (.pair (.int .i64) .unit)), ([(((((.ofNat 2), ([], ([[(.ofNat 500000), (.ofNat 500000)], [(.ofNat 1000000), (.negSucc 999999)]], ([(.ofNat 0), (.ofNat 250000)], (([], ((.ofNat 0), ([], ()))), ([], ((.ofNat 0), ((.ofNat 0), ())))))))), ()), ([((.ofNat 0), ((.ofNat 1000000000000), ())), ((.ofNat 1000000000000), ((.ofNat 1000000000000), ()))], ())), ([((.ofNat 500000000000), ((.ofNat 1000000000000), ())), ((.negSucc 749999999999), ((.ofNat 250000000000), ()))], ((.ofNat 0), ())))] : List ((((Int × (List (Int × (List Int × (List (Int × (Int × (Int × (Int × (Int × (Int × Unit)))))) × Unit))) × (List (List Int) × (List Int × ((List Int × (Int × (List Int × Unit))) × (List (Int × (Int × Unit)) × (Int × (Int × Unit)))))))) × Unit) × (List (Int × (Int × Unit)) × Unit)) × (List (Int × (Int × Unit)) × (Int × Unit))))⟩
def aHM : Row := ⟨166, (.pair (.pair (.pair (.int .i64) (.pair (.sl (.int .i64)) (.pair (.sl (.pair (.int .i64) (.pair (.int .i64) (.pair (.int .i64) (.pair (.int .i64) (.pair (.int .i64) (.pair (.int .i64) .unit))))))) .unit))) .unit) (.pair (.pair (.int .i64) (.pair (.int .i64) .unit)) .unit)), (.pair (.pair (.int .i64) (.pair (.int .i64) .unit)) (.pair (.int .i64) .unit)), ([(((((.ofNat 2), ([(.ofNat 65535), (.ofNat 0)], ([], ()))), ()), (((.ofNat 0), ((.ofNat 250000000000), ())), ())), (((.ofNat 750000000000), ((.ofNat 1000000000000), ())), ((.ofNat 0), ())))] : List ((((Int × (List Int × (List (Int × (Int × (Int × (Int × (Int × (Int × Unit)))))) × Unit))) × Unit) × ((Int × (Int × Unit)) × Unit)) × ((Int × (Int × Unit)) × (Int × Unit))))⟩
def aLg : List Row := [aJX, aJW, aHM]
theorem aGx : aaO (aaR Tryz.prog aeZ 100000 aKw 40) [aJX] = true := by kernel_rfl
theorem aGw : aaO (aaR Tryz.prog aeZ 100000 aKw 40) [aJW] = true := by kernel_rfl
theorem aDP : aaO (aaR Tryz.prog aeZ 100000 aKw 40) [aHM] = true := by kernel_rfl
def aLC : aa6 := aj9 (anQ aLg) aKw
theorem aI8 : ad8 Tryz.prog (Gt Tryz.prog) aLC := alH as5 asZ ajP aI9 100000 40 (aaC aGx (aaC aGw (aaC aDP (rfl))))
open Go Go.Proofs
set_option maxRecDepth 1000000
set_option maxHeartbeats 0
theorem aIJ : aaO (aaR Tryz.prog aeZ 100000 aLC 40) [⟨4, .unit, .pair .bool .unit, ([((), (true, ()))] : List (Unit × Bool × Unit))⟩] = true := by kernel_rfl
theorem top_at : At Tryz.prog (Gt Tryz.prog) 4 .unit (.pair .bool .unit) () (true, ()) := by
 have h := aIJ
 rw [(ay3 (P := Tryz.prog) (sig := aeZ) 100000 aLC 40).1] at h
 exact (ay4 as5 asZ aI8 ajP 100000 40).1 _ _ _ _ _ (azN (amD h _ zv) () (true, ()) zv)
end Go.Vg
