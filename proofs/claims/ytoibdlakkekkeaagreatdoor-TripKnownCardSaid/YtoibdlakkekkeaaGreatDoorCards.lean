/-
  DERIVED. GIVEN WITH THE SEED: THE CARDS: each row of YtoibdlakkekkeaaGreatDoorRows.lean that lists a variable, with what it lists TIED to the program's text (the seventh form; the later family's looks); each row that meets fmt, with fmt's text TOLD by the authors' own Lean function (tested against real Go, not proved from fmt's source: count such statements apart). THE CARD IS WHAT COUNTS. Prove the row's statement (the work); the ties are given (YtoibdlakkekkeaaGreatDoorTie.lean); close each card by the builder's one call (the guide's Derived/Test/ToyasCard.lean, 'card_holds'). Laid BY PROGRAM, IN A SANDBOX (cutbox-door.mjs). By AI agents, Wed Nov 11 2026. No macro, syntax, notation, axiom, sorry.
-/
import Derived.Test.YtoibdlakkekkeaaGreatDoorRows
import GoSem.ClaimSeven
namespace Go.Proofs.YtoibdlakkekkeaaGreatDoor
namespace Rows

/-- THE TIED CARD OF 'verdigrislaw41.TripKnown'. -/
def tripKnownCard : Claim7 := { stood := { row := tripKnownRow, standIns := [], harness := (true, "73aa0fe1dad59ad41ecc2d129b874bd1d083ac710359f76a1b76ae514f0e2967"), looks := true }, kinds := [], alts := [], laidByText := true, laidKinds := [.data, .data, .data, .sentinel, .sentinel], laidTests := true, laidLooks := .later }
def TripKnownCardSaid : Prop := Claim7.holds Tryz.pinned (.plain (OpenSpec.ofChange tripKnownSpec)) tripKnownCard

/-- THE SECOND FORM's CARD OF 'verdigrislaw41.TripKnown'. -/
def tripKnownUptoCard : Claim7 := { stood := { row := tripKnownUptoRow, standIns := [], harness := (true, "73aa0fe1dad59ad41ecc2d129b874bd1d083ac710359f76a1b76ae514f0e2967"), looks := true }, kinds := [], alts := [], laidByText := true, laidKinds := [.data, .data, .data, .sentinel, .sentinel], laidTests := true, laidLooks := .later }
def TripKnownUptoCardSaid : Prop := Claim7.holds Tryz.pinned (.plain (OpenSpec.upto tripKnownSpec)) tripKnownUptoCard
end Rows
end Go.Proofs.YtoibdlakkekkeaaGreatDoor
