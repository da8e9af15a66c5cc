/-
  DERIVED. GIVEN WITH THE SEED: THE CARDS: each row of YtffkcjooibmgfaaGreatDoorRows.lean that lists a variable, with what it lists TIED to the program's text (the seventh form; the later family's looks); each row that meets fmt, with fmt's text TOLD by the authors' own Lean function (tested against real Go, not proved from fmt's source: count such statements apart). THE CARD IS WHAT COUNTS. Prove the row's statement (the work); the ties are given (YtffkcjooibmgfaaGreatDoorTie.lean); close each card by the builder's one call (the guide's Derived/Test/ToyasCard.lean, 'card_holds'). Laid BY PROGRAM, IN A SANDBOX (cutbox-door.mjs). By AI agents, Wed Nov 11 2026. No macro, syntax, notation, axiom, sorry.
-/
import Derived.Test.YtffkcjooibmgfaaGreatDoorRows
import GoSem.ClaimSeven
namespace Go.Proofs.YtffkcjooibmgfaaGreatDoor
namespace Rows

/-- THE TIED CARD OF 'verdigrislaw14.ChainCuts'. -/
def chainCutsCard : Claim7 := { stood := { row := chainCutsRow, standIns := [], harness := (true, "6a4b155bfb5a2cf975b9d7cac1c6d478264dc388432675c3b009da98b5d8928b"), looks := true }, kinds := [], alts := [], laidByText := true, laidKinds := [.data, .data, .data, .sentinel, .sentinel], laidTests := true, laidLooks := .later }
def ChainCutsCardSaid : Prop := Claim7.holds Tryz.pinned (.plain (OpenSpec.ofChange chainCutsSpec)) chainCutsCard

/-- THE SECOND FORM's CARD OF 'verdigrislaw14.ChainCuts'. -/
def chainCutsUptoCard : Claim7 := { stood := { row := chainCutsUptoRow, standIns := [], harness := (true, "6a4b155bfb5a2cf975b9d7cac1c6d478264dc388432675c3b009da98b5d8928b"), looks := true }, kinds := [], alts := [], laidByText := true, laidKinds := [.data, .data, .data, .sentinel, .sentinel], laidTests := true, laidLooks := .later }
def ChainCutsUptoCardSaid : Prop := Claim7.holds Tryz.pinned (.plain (OpenSpec.upto chainCutsSpec)) chainCutsUptoCard
end Rows
end Go.Proofs.YtffkcjooibmgfaaGreatDoor
