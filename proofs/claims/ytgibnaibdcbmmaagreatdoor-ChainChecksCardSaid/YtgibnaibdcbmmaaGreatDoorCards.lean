/-
  DERIVED. GIVEN WITH THE SEED: THE CARDS: each row of YtgibnaibdcbmmaaGreatDoorRows.lean that lists a variable, with what it lists TIED to the program's text (the seventh form; the later family's looks); each row that meets fmt, with fmt's text TOLD by the authors' own Lean function (tested against real Go, not proved from fmt's source: count such statements apart). THE CARD IS WHAT COUNTS. Prove the row's statement (the work); the ties are given (YtgibnaibdcbmmaaGreatDoorTie.lean); close each card by the builder's one call (the guide's Derived/Test/ToyasCard.lean, 'card_holds'). Laid BY PROGRAM, IN A SANDBOX (cutbox-door.mjs). By AI agents, Wed Nov 11 2026. No macro, syntax, notation, axiom, sorry.
-/
import Derived.Test.YtgibnaibdcbmmaaGreatDoorRows
import GoSem.ClaimSeven
namespace Go.Proofs.YtgibnaibdcbmmaaGreatDoor
namespace Rows

/-- THE TIED CARD OF 'verdigrislaw14.ChainChecks'. -/
def chainChecksCard : Claim7 := { stood := { row := chainChecksRow, standIns := [], harness := (true, "4c9cd317345a55ba68db026b2563f84781f232e97e1df6e03a60c84eb2b9ad84"), looks := true }, kinds := [], alts := [], laidByText := true, laidKinds := [.data, .data, .data, .sentinel, .sentinel], laidTests := true, laidLooks := .later }
def ChainChecksCardSaid : Prop := Claim7.holds Tryz.pinned (.plain (OpenSpec.ofChange chainChecksSpec)) chainChecksCard

/-- THE SECOND FORM's CARD OF 'verdigrislaw14.ChainChecks'. -/
def chainChecksUptoCard : Claim7 := { stood := { row := chainChecksUptoRow, standIns := [], harness := (true, "4c9cd317345a55ba68db026b2563f84781f232e97e1df6e03a60c84eb2b9ad84"), looks := true }, kinds := [], alts := [], laidByText := true, laidKinds := [.data, .data, .data, .sentinel, .sentinel], laidTests := true, laidLooks := .later }
def ChainChecksUptoCardSaid : Prop := Claim7.holds Tryz.pinned (.plain (OpenSpec.upto chainChecksSpec)) chainChecksUptoCard
end Rows
end Go.Proofs.YtgibnaibdcbmmaaGreatDoor
