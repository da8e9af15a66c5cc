/-
  The card of the law. After the seat example over a table, turned to this law; no condition.
-/
import Derived.Test.YtehaimkjedmjfaaGreatDoorCardB
import Derived.Test.YtehaimkjedmjfaaGreatDoorCardP
import Derived.Test.YtehaimkjedmjfaaGreatDoorCardW
import Derived.Test.YtehaimkjedmjfaaGreatDoorCardG
set_option linter.unusedVariables false
set_option linter.unusedSimpArgs false
namespace Go.Proofs.YtehaimkjedmjfaaGreatDoor
open Go.ChangeShapes Go.WideShapes Go.ChangeAt Go.RowKit
theorem chainJoins_card : Rows.ChainJoinsCardSaid :=
 Claim7.holds_tied_plain_at .later [] _ _ _ _ said (fun _ h => by cases h) cardW (fun _ h => by cases h) chainJoins_row_tie rfl ⟨rfl, rfl⟩ (by kernel_rfl) rfl plain cardG
end Go.Proofs.YtehaimkjedmjfaaGreatDoor
