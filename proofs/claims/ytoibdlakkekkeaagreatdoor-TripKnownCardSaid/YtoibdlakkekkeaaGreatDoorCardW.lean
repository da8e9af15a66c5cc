/-
  The law TripKnown: its card. Own work, after the seat's toy over a package-level table; no condition.
-/
import Derived.Test.YtoibdlakkekkeaaGreatDoorCardA
namespace Go.Proofs.YtoibdlakkekkeaaGreatDoor
open Go.ChangeShapes Go.WideShapes Go.ChangeAt Go.RowKit

set_option maxRecDepth 100000 in
theorem cardW : Rows.tripKnownRow.wfByText (OpenSpec.ofChange Rows.tripKnownSpec) = true := by kernel_rfl
end Go.Proofs.YtoibdlakkekkeaaGreatDoor
