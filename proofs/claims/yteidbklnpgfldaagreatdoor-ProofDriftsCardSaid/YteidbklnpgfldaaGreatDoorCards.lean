/-
  DERIVED. GIVEN WITH THE SEED: THE CARDS: each row of YteidbklnpgfldaaGreatDoorRows.lean that lists a variable, with what it lists TIED to the program's text (the seventh form; the later family's looks); each row that meets fmt, with fmt's text TOLD by the authors' own Lean function (tested against real Go, not proved from fmt's source: count such statements apart). THE CARD IS WHAT COUNTS. Prove the row's statement (the work); the ties are given (YteidbklnpgfldaaGreatDoorTie.lean); close each card by the builder's one call (the guide's Derived/Test/ToyasCard.lean, 'card_holds'). Laid BY PROGRAM, IN A SANDBOX (cutbox-door.mjs). By AI agents, Wed Nov 11 2026. No macro, syntax, notation, axiom, sorry.
-/
import Derived.Test.YteidbklnpgfldaaGreatDoorRows
import GoSem.ClaimSeven
namespace Go.Proofs.YteidbklnpgfldaaGreatDoor
namespace Rows

/-- THE TIED CARD OF 'verdigrislaw44.ProofDrifts'. -/
def proofDriftsCard : Claim7 := { stood := { row := proofDriftsRow, standIns := [], harness := (true, "9b0c56f24b38b3eaa23ae43424002ab28a44135473abb6ea214168550aa2587d"), looks := true }, kinds := [], alts := [], laidByText := true, laidKinds := [.data, .data, .data, .data, .sentinel, .sentinel, .pinned], laidTests := true, laidLooks := .later }
def ProofDriftsCardSaid : Prop := Claim7.holds Tryz.pinned (.plain (OpenSpec.ofChange proofDriftsSpec)) proofDriftsCard

/-- THE SECOND FORM's CARD OF 'verdigrislaw44.ProofDrifts'. -/
def proofDriftsUptoCard : Claim7 := { stood := { row := proofDriftsUptoRow, standIns := [], harness := (true, "9b0c56f24b38b3eaa23ae43424002ab28a44135473abb6ea214168550aa2587d"), looks := true }, kinds := [], alts := [], laidByText := true, laidKinds := [.data, .data, .data, .data, .sentinel, .sentinel, .pinned], laidTests := true, laidLooks := .later }
def ProofDriftsUptoCardSaid : Prop := Claim7.holds Tryz.pinned (.plain (OpenSpec.upto proofDriftsSpec)) proofDriftsUptoCard
end Rows
end Go.Proofs.YteidbklnpgfldaaGreatDoor
