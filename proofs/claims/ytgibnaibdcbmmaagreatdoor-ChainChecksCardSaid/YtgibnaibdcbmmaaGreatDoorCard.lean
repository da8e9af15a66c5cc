/-
  The card of the law. After the seat example over a table, turned to this law; no condition.
-/
import Derived.Test.YtgibnaibdcbmmaaGreatDoorCardB
import Derived.Test.YtgibnaibdcbmmaaGreatDoorCardP
import Derived.Test.YtgibnaibdcbmmaaGreatDoorCardW
import Derived.Test.YtgibnaibdcbmmaaGreatDoorCardG
set_option linter.unusedVariables false
set_option linter.unusedSimpArgs false
namespace Go.Proofs.YtgibnaibdcbmmaaGreatDoor
open Go.ChangeShapes Go.WideShapes Go.ChangeAt Go.RowKit
theorem chainChecks_card : Rows.ChainChecksCardSaid :=
 Claim7.holds_tied_plain_at .later [] _ _ _ _ said (fun _ h => by cases h) cardW (fun _ h => by cases h) chainChecks_row_tie rfl ⟨rfl, rfl⟩ (by kernel_rfl) rfl plain cardG
end Go.Proofs.YtgibnaibdcbmmaaGreatDoor
