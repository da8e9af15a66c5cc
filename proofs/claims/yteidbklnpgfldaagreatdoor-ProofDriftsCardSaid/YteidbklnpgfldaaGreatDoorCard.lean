/-
  The card of the law. After the seat example over a table, turned to this law; no condition.
-/
import Derived.Test.YteidbklnpgfldaaGreatDoorCardB
import Derived.Test.YteidbklnpgfldaaGreatDoorCardP
import Derived.Test.YteidbklnpgfldaaGreatDoorCardW
import Derived.Test.YteidbklnpgfldaaGreatDoorCardG
set_option linter.unusedVariables false
set_option linter.unusedSimpArgs false
namespace Go.Proofs.YteidbklnpgfldaaGreatDoor
open Go.ChangeShapes Go.WideShapes Go.ChangeAt Go.RowKit
theorem proofDrifts_card : Rows.ProofDriftsCardSaid :=
 Claim7.holds_tied_plain_at .later [] _ _ _ _ said (fun _ h => by cases h) cardW (fun _ h => by cases h) proofDrifts_row_tie rfl ⟨rfl, rfl⟩ (by kernel_rfl) rfl plain cardG
end Go.Proofs.YteidbklnpgfldaaGreatDoor
