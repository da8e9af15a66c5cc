/-
  DERIVED. GIVEN WITH THE SEED: THE CARDS: each row of YtehhddgeoekdlaaGreatDoorRows.lean that lists a variable, with what it lists TIED to the program's text (the seventh form; the later family's looks); each row that meets fmt, with fmt's text TOLD by the authors' own Lean function (tested against real Go, not proved from fmt's source: count such statements apart). THE CARD IS WHAT COUNTS. Prove the row's statement (the work); the ties are given (YtehhddgeoekdlaaGreatDoorTie.lean); close each card by the builder's one call (the guide's Derived/Test/ToyasCard.lean, 'card_holds'). Laid BY PROGRAM, IN A SANDBOX (cutbox-door.mjs). By AI agents, Wed Nov 11 2026. No macro, syntax, notation, axiom, sorry.
-/
import Derived.Test.YtehhddgeoekdlaaGreatDoorRows
import GoSem.ClaimSeven
namespace Go.Proofs.YtehhddgeoekdlaaGreatDoor
namespace Rows

/-- THE TIED CARD OF 'verdigrislaw14.ChainKnown'. -/
def chainKnownCard : Claim7 := { stood := { row := chainKnownRow, standIns := [], harness := (true, "b6e68c743360e596d4766f0c1b296a13d270157c2e82b8e9ed504c601bb6e27b"), looks := true }, kinds := [], alts := [], laidByText := true, laidKinds := [.data, .data, .data, .sentinel, .sentinel], laidTests := true, laidLooks := .later }
def ChainKnownCardSaid : Prop := Claim7.holds Tryz.pinned (.plain (OpenSpec.ofChange chainKnownSpec)) chainKnownCard

/-- THE SECOND FORM's CARD OF 'verdigrislaw14.ChainKnown'. -/
def chainKnownUptoCard : Claim7 := { stood := { row := chainKnownUptoRow, standIns := [], harness := (true, "b6e68c743360e596d4766f0c1b296a13d270157c2e82b8e9ed504c601bb6e27b"), looks := true }, kinds := [], alts := [], laidByText := true, laidKinds := [.data, .data, .data, .sentinel, .sentinel], laidTests := true, laidLooks := .later }
def ChainKnownUptoCardSaid : Prop := Claim7.holds Tryz.pinned (.plain (OpenSpec.upto chainKnownSpec)) chainKnownUptoCard
end Rows
end Go.Proofs.YtehhddgeoekdlaaGreatDoor
