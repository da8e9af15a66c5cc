/-
  DERIVED. GIVEN WITH THE SEED: THE CARDS: each row of YtebeijpmpjpgcaaGreatDoorRows.lean that lists a variable, with what it lists TIED to the program's text (the seventh form; the later family's looks); each row that meets fmt, with fmt's text TOLD by the authors' own Lean function (tested against real Go, not proved from fmt's source: count such statements apart). THE CARD IS WHAT COUNTS. Prove the row's statement (the work); the ties are given (YtebeijpmpjpgcaaGreatDoorTie.lean); close each card by the builder's one call (the guide's Derived/Test/ToyasCard.lean, 'card_holds'). Laid BY PROGRAM, IN A SANDBOX (cutbox-door.mjs). By AI agents, Wed Nov 11 2026. No macro, syntax, notation, axiom, sorry.
-/
import Derived.Test.YtebeijpmpjpgcaaGreatDoorRows
import GoSem.ClaimSeven
namespace Go.Proofs.YtebeijpmpjpgcaaGreatDoor
namespace Rows

/-- THE TIED CARD OF 'verdigrislaw13.ElementSums'. -/
def elementSumsCard : Claim7 := { stood := { row := elementSumsRow, standIns := [], harness := (true, "120598e18c0643fe2306d71197d342a0884d81c7df3cd4242c1cc45157b2e674"), looks := true }, kinds := [], alts := [], laidByText := true, laidKinds := [.data, .data, .data, .sentinel, .sentinel], laidTests := true, laidLooks := .later }
def ElementSumsCardSaid : Prop := Claim7.holds Tryz.pinned (.plain (OpenSpec.ofChange elementSumsSpec)) elementSumsCard

/-- THE TIED CARD OF 'verdigrislaw13.ElementUnits'. -/
def elementUnitsCard : Claim7 := { stood := { row := elementUnitsRow, standIns := [], harness := (true, "120598e18c0643fe2306d71197d342a0884d81c7df3cd4242c1cc45157b2e674"), looks := true }, kinds := [], alts := [], laidByText := true, laidKinds := [.data, .data, .data, .sentinel, .sentinel], laidTests := true, laidLooks := .later }
def ElementUnitsCardSaid : Prop := Claim7.holds Tryz.pinned (.plain (OpenSpec.ofChange elementUnitsSpec)) elementUnitsCard

/-- THE SECOND FORM's CARD OF 'verdigrislaw13.ElementSums'. -/
def elementSumsUptoCard : Claim7 := { stood := { row := elementSumsUptoRow, standIns := [], harness := (true, "120598e18c0643fe2306d71197d342a0884d81c7df3cd4242c1cc45157b2e674"), looks := true }, kinds := [], alts := [], laidByText := true, laidKinds := [.data, .data, .data, .sentinel, .sentinel], laidTests := true, laidLooks := .later }
def ElementSumsUptoCardSaid : Prop := Claim7.holds Tryz.pinned (.plain (OpenSpec.upto elementSumsSpec)) elementSumsUptoCard

/-- THE SECOND FORM's CARD OF 'verdigrislaw13.ElementUnits'. -/
def elementUnitsUptoCard : Claim7 := { stood := { row := elementUnitsUptoRow, standIns := [], harness := (true, "120598e18c0643fe2306d71197d342a0884d81c7df3cd4242c1cc45157b2e674"), looks := true }, kinds := [], alts := [], laidByText := true, laidKinds := [.data, .data, .data, .sentinel, .sentinel], laidTests := true, laidLooks := .later }
def ElementUnitsUptoCardSaid : Prop := Claim7.holds Tryz.pinned (.plain (OpenSpec.upto elementUnitsSpec)) elementUnitsUptoCard
end Rows
end Go.Proofs.YtebeijpmpjpgcaaGreatDoor
