/-
  DERIVED. GIVEN WITH THE SEED: THE CARDS: each row of YtlmjbmgabddkiaaGreatDoorRows.lean that lists a variable, with what it lists TIED to the program's text (the seventh form; the later family's looks); each row that meets fmt, with fmt's text TOLD by the authors' own Lean function (tested against real Go, not proved from fmt's source: count such statements apart). THE CARD IS WHAT COUNTS. Prove the row's statement (the work); the ties are given (YtlmjbmgabddkiaaGreatDoorTie.lean); close each card by the builder's one call (the guide's Derived/Test/ToyasCard.lean, 'card_holds'). Laid BY PROGRAM, IN A SANDBOX (cutbox-door.mjs). By AI agents, Wed Nov 11 2026. No macro, syntax, notation, axiom, sorry.
-/
import Derived.Test.YtlmjbmgabddkiaaGreatDoorRows
import GoSem.ClaimSeven
namespace Go.Proofs.YtlmjbmgabddkiaaGreatDoor
namespace Rows

/-- THE TIED CARD OF 'verdigrislaw41.TripJoins'. -/
def tripJoinsCard : Claim7 := { stood := { row := tripJoinsRow, standIns := [], harness := (true, "ddbaf33f8280cfcd18baffed338ad4ab9cc46fcbf6fe6c3ebb3cefda34ca3529"), looks := true }, kinds := [], alts := [], laidByText := true, laidKinds := [.data, .data, .data, .sentinel, .sentinel], laidTests := true, laidLooks := .later }
def TripJoinsCardSaid : Prop := Claim7.holds Tryz.pinned (.plain (OpenSpec.ofChange tripJoinsSpec)) tripJoinsCard

/-- THE TIED CARD OF 'verdigrislaw41.TripSums'. -/
def tripSumsCard : Claim7 := { stood := { row := tripSumsRow, standIns := [], harness := (true, "ddbaf33f8280cfcd18baffed338ad4ab9cc46fcbf6fe6c3ebb3cefda34ca3529"), looks := true }, kinds := [], alts := [], laidByText := true, laidKinds := [.data, .data, .data, .sentinel, .sentinel], laidTests := true, laidLooks := .later }
def TripSumsCardSaid : Prop := Claim7.holds Tryz.pinned (.plain (OpenSpec.ofChange tripSumsSpec)) tripSumsCard

/-- THE TIED CARD OF 'verdigrislaw41.TripKnown'. -/
def tripKnownCard : Claim7 := { stood := { row := tripKnownRow, standIns := [], harness := (true, "ddbaf33f8280cfcd18baffed338ad4ab9cc46fcbf6fe6c3ebb3cefda34ca3529"), looks := true }, kinds := [], alts := [], laidByText := true, laidKinds := [.data, .data, .data, .sentinel, .sentinel], laidTests := true, laidLooks := .later }
def TripKnownCardSaid : Prop := Claim7.holds Tryz.pinned (.plain (OpenSpec.ofChange tripKnownSpec)) tripKnownCard

/-- THE TIED CARD OF 'verdigrislaw41.TripTexts'. -/
def tripTextsCard : Claim7 := { stood := { row := tripTextsRow, standIns := [], harness := (true, "ddbaf33f8280cfcd18baffed338ad4ab9cc46fcbf6fe6c3ebb3cefda34ca3529"), looks := true }, kinds := [], alts := [], laidByText := true, laidKinds := [.data, .data, .data, .data, .sentinel, .sentinel, .listed, .data, .pinned], laidTests := true, laidLooks := .later }
def TripTextsCardSaid : Prop := Claim7.holds Tryz.pinned (.plain (OpenSpec.ofChange tripTextsSpec)) tripTextsCard

/-- THE SECOND FORM's CARD OF 'verdigrislaw41.TripJoins'. -/
def tripJoinsUptoCard : Claim7 := { stood := { row := tripJoinsUptoRow, standIns := [], harness := (true, "ddbaf33f8280cfcd18baffed338ad4ab9cc46fcbf6fe6c3ebb3cefda34ca3529"), looks := true }, kinds := [], alts := [], laidByText := true, laidKinds := [.data, .data, .data, .sentinel, .sentinel], laidTests := true, laidLooks := .later }
def TripJoinsUptoCardSaid : Prop := Claim7.holds Tryz.pinned (.plain (OpenSpec.upto tripJoinsSpec)) tripJoinsUptoCard

/-- THE SECOND FORM's CARD OF 'verdigrislaw41.TripSums'. -/
def tripSumsUptoCard : Claim7 := { stood := { row := tripSumsUptoRow, standIns := [], harness := (true, "ddbaf33f8280cfcd18baffed338ad4ab9cc46fcbf6fe6c3ebb3cefda34ca3529"), looks := true }, kinds := [], alts := [], laidByText := true, laidKinds := [.data, .data, .data, .sentinel, .sentinel], laidTests := true, laidLooks := .later }
def TripSumsUptoCardSaid : Prop := Claim7.holds Tryz.pinned (.plain (OpenSpec.upto tripSumsSpec)) tripSumsUptoCard

/-- THE SECOND FORM's CARD OF 'verdigrislaw41.TripKnown'. -/
def tripKnownUptoCard : Claim7 := { stood := { row := tripKnownUptoRow, standIns := [], harness := (true, "ddbaf33f8280cfcd18baffed338ad4ab9cc46fcbf6fe6c3ebb3cefda34ca3529"), looks := true }, kinds := [], alts := [], laidByText := true, laidKinds := [.data, .data, .data, .sentinel, .sentinel], laidTests := true, laidLooks := .later }
def TripKnownUptoCardSaid : Prop := Claim7.holds Tryz.pinned (.plain (OpenSpec.upto tripKnownSpec)) tripKnownUptoCard

/-- THE SECOND FORM's CARD OF 'verdigrislaw41.TripTexts'. -/
def tripTextsUptoCard : Claim7 := { stood := { row := tripTextsUptoRow, standIns := [], harness := (true, "ddbaf33f8280cfcd18baffed338ad4ab9cc46fcbf6fe6c3ebb3cefda34ca3529"), looks := true }, kinds := [], alts := [], laidByText := true, laidKinds := [.data, .data, .data, .data, .sentinel, .sentinel, .listed, .data, .pinned], laidTests := true, laidLooks := .later }
def TripTextsUptoCardSaid : Prop := Claim7.holds Tryz.pinned (.plain (OpenSpec.upto tripTextsSpec)) tripTextsUptoCard
end Rows
end Go.Proofs.YtlmjbmgabddkiaaGreatDoor
