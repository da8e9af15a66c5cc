/-
  The card of the law. After the seat example over a table, turned to this law; no condition.
-/
import Derived.Test.YteidbklnpgfldaaGreatDoorCardA
set_option linter.unusedVariables false
set_option linter.unusedSimpArgs false
namespace Go.Proofs.YteidbklnpgfldaaGreatDoor
open Go.ChangeShapes Go.WideShapes Go.ChangeAt Go.RowKit
set_option maxRecDepth 100000 in
theorem cardW : Rows.proofDriftsRow.wfByText (OpenSpec.ofChange Rows.proofDriftsSpec) = true := by kernel_rfl
end Go.Proofs.YteidbklnpgfldaaGreatDoor
