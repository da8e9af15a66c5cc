/-
  The card of the law. After the seat example over a table, turned to this law; no condition.
-/
import Derived.Test.YtffkcjooibmgfaaGreatDoorCardA
set_option linter.unusedVariables false
set_option linter.unusedSimpArgs false
namespace Go.Proofs.YtffkcjooibmgfaaGreatDoor
open Go.ChangeShapes Go.WideShapes Go.ChangeAt Go.RowKit
set_option maxRecDepth 100000 in
theorem cardW : Rows.chainCutsRow.wfByText (OpenSpec.ofChange Rows.chainCutsSpec) = true := by kernel_rfl
end Go.Proofs.YtffkcjooibmgfaaGreatDoor
