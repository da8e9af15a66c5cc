/-
  DERIVED. GIVEN WITH THE SEED: THE CARDS: each row of YtmpaaojkimhidaaGreatDoorRows.lean that lists a variable, with what it lists TIED to the program's text (the seventh form; the later family's looks); each row that meets fmt, with fmt's text TOLD by the authors' own Lean function (tested against real Go, not proved from fmt's source: count such statements apart). THE CARD IS WHAT COUNTS. Prove the row's statement (the work); the ties are given (YtmpaaojkimhidaaGreatDoorTie.lean); close each card by the builder's one call (the guide's Derived/Test/ToyasCard.lean, 'card_holds'). Laid BY PROGRAM, IN A SANDBOX (cutbox-door.mjs). By AI agents, Wed Nov 11 2026. No macro, syntax, notation, axiom, sorry.
-/
import Derived.Test.YtmpaaojkimhidaaGreatDoorRows
import GoSem.ClaimSeven
namespace Go.Proofs.YtmpaaojkimhidaaGreatDoor
namespace Rows

/-- THE TIED CARD OF 'verdigrislaw13.ElementKnown'. -/
def elementKnownCard : Claim7 := { stood := { row := elementKnownRow, standIns := [], harness := (true, "060b856e610ef7109bcdf7094e7f70b93cd66f556339d30febe7774cbcff0025"), looks := true }, kinds := [], alts := [], laidByText := true, laidKinds := [.data, .data, .data, .sentinel, .sentinel], laidTests := true, laidLooks := .later }
def ElementKnownCardSaid : Prop := Claim7.holds Tryz.pinned (.plain (OpenSpec.ofChange elementKnownSpec)) elementKnownCard

/-- THE SECOND FORM's CARD OF 'verdigrislaw13.ElementKnown'. -/
def elementKnownUptoCard : Claim7 := { stood := { row := elementKnownUptoRow, standIns := [], harness := (true, "060b856e610ef7109bcdf7094e7f70b93cd66f556339d30febe7774cbcff0025"), looks := true }, kinds := [], alts := [], laidByText := true, laidKinds := [.data, .data, .data, .sentinel, .sentinel], laidTests := true, laidLooks := .later }
def ElementKnownUptoCardSaid : Prop := Claim7.holds Tryz.pinned (.plain (OpenSpec.upto elementKnownSpec)) elementKnownUptoCard
end Rows
end Go.Proofs.YtmpaaojkimhidaaGreatDoor
