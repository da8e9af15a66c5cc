/-
  The law ProofKnown: its card. Own work, after the seat's toy over a package-level table; no condition.
-/
import Derived.Test.YthnagcpdmilhpaaGreatDoorCardB
import Derived.Test.YthnagcpdmilhpaaGreatDoorCardP
import Derived.Test.YthnagcpdmilhpaaGreatDoorCardW
import Derived.Test.YthnagcpdmilhpaaGreatDoorCardG
namespace Go.Proofs.YthnagcpdmilhpaaGreatDoor
open Go.ChangeShapes Go.WideShapes Go.ChangeAt Go.RowKit

/-- The card. -/
theorem proofKnown_card : Rows.ProofKnownCardSaid :=
  Claim7.holds_tied_plain_at .later [] _ _ _ _ said (fun _ h => by cases h) cardW (fun _ h => by cases h) proofKnown_row_tie rfl ⟨rfl, rfl⟩ (by kernel_rfl) rfl plain cardG
end Go.Proofs.YthnagcpdmilhpaaGreatDoor
