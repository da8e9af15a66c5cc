/-
  The law ProofKnown: its card. Own work, after the seat's toy over a package-level table; no condition.
-/
import Derived.Test.YthnagcpdmilhpaaGreatDoorCardA
namespace Go.Proofs.YthnagcpdmilhpaaGreatDoor
open Go.ChangeShapes Go.WideShapes Go.ChangeAt Go.RowKit

theorem sameProg : Tryz.pinned.checked.prog = Tryz.prog := rfl
set_option maxRecDepth 100000 in
theorem factsAt : joinedFacts Tryz.pinned.checked.prog 3 Tryz.f3 (OpenSpec.ofChange Rows.proofKnownSpec).bare Rows.proofKnownRow = true := by
  rw [sameProg]
  unfold joinedFacts
  rw [facts1, facts2, facts3, facts4]
  kernel_rfl

end Go.Proofs.YthnagcpdmilhpaaGreatDoor
