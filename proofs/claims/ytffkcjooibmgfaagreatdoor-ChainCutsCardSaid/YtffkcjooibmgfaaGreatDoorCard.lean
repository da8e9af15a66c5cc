/-
  The card of the law. After the seat example over a table, turned to this law; no condition.
-/
import Derived.Test.YtffkcjooibmgfaaGreatDoorCardB
import Derived.Test.YtffkcjooibmgfaaGreatDoorCardP
import Derived.Test.YtffkcjooibmgfaaGreatDoorCardW
import Derived.Test.YtffkcjooibmgfaaGreatDoorCardG
set_option linter.unusedVariables false
set_option linter.unusedSimpArgs false
namespace Go.Proofs.YtffkcjooibmgfaaGreatDoor
open Go.ChangeShapes Go.WideShapes Go.ChangeAt Go.RowKit
theorem chainCuts_card : Rows.ChainCutsCardSaid :=
 Claim7.holds_tied_plain_at .later [] _ _ _ _ said (fun _ h => by cases h) cardW (fun _ h => by cases h) chainCuts_row_tie rfl ⟨rfl, rfl⟩ (by kernel_rfl) rfl plain cardG
end Go.Proofs.YtffkcjooibmgfaaGreatDoor
