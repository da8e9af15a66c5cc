/-
  DERIVED. GIVEN WITH THE SEED: THE CARDS: each row of YtbfajgbedclfeaaGreatDoorRows.lean that lists a variable, with what it lists TIED to the program's text (the seventh form; the later family's looks); each row that meets fmt, with fmt's text TOLD by the authors' own Lean function (tested against real Go, not proved from fmt's source: count such statements apart). THE CARD IS WHAT COUNTS. Prove the row's statement (the work); the ties are given (YtbfajgbedclfeaaGreatDoorTie.lean); close each card by the builder's one call (the guide's Derived/Test/ToyasCard.lean, 'card_holds'). Laid BY PROGRAM, IN A SANDBOX (cutbox-door.mjs). By AI agents, Wed Nov 11 2026. No macro, syntax, notation, axiom, sorry.
-/
import Derived.Test.YtbfajgbedclfeaaGreatDoorRows
import GoSem.ClaimSeven
namespace Go.Proofs.YtbfajgbedclfeaaGreatDoor
namespace Rows

/-- THE TIED CARD OF 'verdigrislaw40.LinkKnown'. -/
def linkKnownCard : Claim7 := { stood := { row := linkKnownRow, standIns := [], harness := (true, "c33ba23ef0c1fc942fe7b229fc03e63b4b6490bddaa32d29f7ff7816d1d462d7"), looks := true }, kinds := [], alts := [], laidByText := true, laidKinds := [.data, .data, .data, .sentinel, .sentinel], laidTests := true, laidLooks := .later }
def LinkKnownCardSaid : Prop := Claim7.holds Tryz.pinned (.plain (OpenSpec.ofChange linkKnownSpec)) linkKnownCard

/-- THE SECOND FORM's CARD OF 'verdigrislaw40.LinkKnown'. -/
def linkKnownUptoCard : Claim7 := { stood := { row := linkKnownUptoRow, standIns := [], harness := (true, "c33ba23ef0c1fc942fe7b229fc03e63b4b6490bddaa32d29f7ff7816d1d462d7"), looks := true }, kinds := [], alts := [], laidByText := true, laidKinds := [.data, .data, .data, .sentinel, .sentinel], laidTests := true, laidLooks := .later }
def LinkKnownUptoCardSaid : Prop := Claim7.holds Tryz.pinned (.plain (OpenSpec.upto linkKnownSpec)) linkKnownUptoCard
end Rows
end Go.Proofs.YtbfajgbedclfeaaGreatDoor
