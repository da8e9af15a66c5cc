/-
  The law TripKnown: its card. Own work, after the seat's toy over a package-level table; no condition.
-/
import Derived.Test.YtoibdlakkekkeaaGreatDoorCardB
import Derived.Test.YtoibdlakkekkeaaGreatDoorCardP
import Derived.Test.YtoibdlakkekkeaaGreatDoorCardW
import Derived.Test.YtoibdlakkekkeaaGreatDoorCardG
namespace Go.Proofs.YtoibdlakkekkeaaGreatDoor
open Go.ChangeShapes Go.WideShapes Go.ChangeAt Go.RowKit

/-- The card. -/
theorem tripKnown_card : Rows.TripKnownCardSaid :=
  Claim7.holds_tied_plain_at .later [] _ _ _ _ said (fun _ h => by cases h) cardW (fun _ h => by cases h) tripKnown_row_tie rfl ⟨rfl, rfl⟩ (by kernel_rfl) rfl plain cardG
end Go.Proofs.YtoibdlakkekkeaaGreatDoor
