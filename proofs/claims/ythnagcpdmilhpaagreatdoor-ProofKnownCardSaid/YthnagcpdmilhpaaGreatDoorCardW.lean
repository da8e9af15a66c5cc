/-
  The law ProofKnown: its card. Own work, after the seat's toy over a package-level table; no condition.
-/
import Derived.Test.YthnagcpdmilhpaaGreatDoorCardA
namespace Go.Proofs.YthnagcpdmilhpaaGreatDoor
open Go.ChangeShapes Go.WideShapes Go.ChangeAt Go.RowKit

set_option maxRecDepth 100000 in
theorem cardW : Rows.proofKnownRow.wfByText (OpenSpec.ofChange Rows.proofKnownSpec) = true := by kernel_rfl
end Go.Proofs.YthnagcpdmilhpaaGreatDoor
