/-
  DERIVED. GIVEN WITH THE SEED: THE CARDS: each row of YtbdojimkdgajgaaGreatDoorRows.lean that lists a variable, with what it lists TIED to the program's text (the seventh form; the later family's looks); each row that meets fmt, with fmt's text TOLD by the authors' own Lean function (tested against real Go, not proved from fmt's source: count such statements apart). THE CARD IS WHAT COUNTS. Prove the row's statement (the work); the ties are given (YtbdojimkdgajgaaGreatDoorTie.lean); close each card by the builder's one call (the guide's Derived/Test/ToyasCard.lean, 'card_holds'). Laid BY PROGRAM, IN A SANDBOX (cutbox-door.mjs). By AI agents, Wed Nov 11 2026. No macro, syntax, notation, axiom, sorry.
-/
import Derived.Test.YtbdojimkdgajgaaGreatDoorRows
import GoSem.ClaimSeven
namespace Go.Proofs.YtbdojimkdgajgaaGreatDoor
namespace Rows

/-- THE TIED CARD OF 'verdigrislaw18.AlgebraKnown'. -/
def algebraKnownCard : Claim7 := { stood := { row := algebraKnownRow, standIns := [], harness := (true, "e33ed7ee081c8dfa41657f9a366845b958731d8a0b8064a1094902f02df1beb7"), looks := true }, kinds := [], alts := [], laidByText := true, laidKinds := [.data, .data, .data, .sentinel, .sentinel], laidTests := true, laidLooks := .later }
def AlgebraKnownCardSaid : Prop := Claim7.holds Tryz.pinned (.plain (OpenSpec.ofChange algebraKnownSpec)) algebraKnownCard

/-- THE SECOND FORM's CARD OF 'verdigrislaw18.AlgebraKnown'. -/
def algebraKnownUptoCard : Claim7 := { stood := { row := algebraKnownUptoRow, standIns := [], harness := (true, "e33ed7ee081c8dfa41657f9a366845b958731d8a0b8064a1094902f02df1beb7"), looks := true }, kinds := [], alts := [], laidByText := true, laidKinds := [.data, .data, .data, .sentinel, .sentinel], laidTests := true, laidLooks := .later }
def AlgebraKnownUptoCardSaid : Prop := Claim7.holds Tryz.pinned (.plain (OpenSpec.upto algebraKnownSpec)) algebraKnownUptoCard
end Rows
end Go.Proofs.YtbdojimkdgajgaaGreatDoor
