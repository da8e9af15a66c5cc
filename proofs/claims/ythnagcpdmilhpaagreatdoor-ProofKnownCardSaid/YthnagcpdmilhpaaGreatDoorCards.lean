/-
  DERIVED. GIVEN WITH THE SEED: THE CARDS: each row of YthnagcpdmilhpaaGreatDoorRows.lean that lists a variable, with what it lists TIED to the program's text (the seventh form; the later family's looks); each row that meets fmt, with fmt's text TOLD by the authors' own Lean function (tested against real Go, not proved from fmt's source: count such statements apart). THE CARD IS WHAT COUNTS. Prove the row's statement (the work); the ties are given (YthnagcpdmilhpaaGreatDoorTie.lean); close each card by the builder's one call (the guide's Derived/Test/ToyasCard.lean, 'card_holds'). Laid BY PROGRAM, IN A SANDBOX (cutbox-door.mjs). By AI agents, Wed Nov 11 2026. No macro, syntax, notation, axiom, sorry.
-/
import Derived.Test.YthnagcpdmilhpaaGreatDoorRows
import GoSem.ClaimSeven
namespace Go.Proofs.YthnagcpdmilhpaaGreatDoor
namespace Rows

/-- THE TIED CARD OF 'verdigrislaw44.ProofKnown'. -/
def proofKnownCard : Claim7 := { stood := { row := proofKnownRow, standIns := [], harness := (true, "b9a9505ef46de5e00f230ed4056f7e04cedad58bf4feb5eb988a2923f168d714"), looks := true }, kinds := [], alts := [], laidByText := true, laidKinds := [.data, .data, .data, .data, .sentinel, .sentinel, .pinned], laidTests := true, laidLooks := .later }
def ProofKnownCardSaid : Prop := Claim7.holds Tryz.pinned (.plain (OpenSpec.ofChange proofKnownSpec)) proofKnownCard

/-- THE SECOND FORM's CARD OF 'verdigrislaw44.ProofKnown'. -/
def proofKnownUptoCard : Claim7 := { stood := { row := proofKnownUptoRow, standIns := [], harness := (true, "b9a9505ef46de5e00f230ed4056f7e04cedad58bf4feb5eb988a2923f168d714"), looks := true }, kinds := [], alts := [], laidByText := true, laidKinds := [.data, .data, .data, .data, .sentinel, .sentinel, .pinned], laidTests := true, laidLooks := .later }
def ProofKnownUptoCardSaid : Prop := Claim7.holds Tryz.pinned (.plain (OpenSpec.upto proofKnownSpec)) proofKnownUptoCard
end Rows
end Go.Proofs.YthnagcpdmilhpaaGreatDoor
