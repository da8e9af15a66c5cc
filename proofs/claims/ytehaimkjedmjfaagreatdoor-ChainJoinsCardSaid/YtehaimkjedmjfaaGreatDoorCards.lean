/-
  DERIVED. GIVEN WITH THE SEED: THE CARDS: each row of YtehaimkjedmjfaaGreatDoorRows.lean that lists a variable, with what it lists TIED to the program's text (the seventh form; the later family's looks); each row that meets fmt, with fmt's text TOLD by the authors' own Lean function (tested against real Go, not proved from fmt's source: count such statements apart). THE CARD IS WHAT COUNTS. Prove the row's statement (the work); the ties are given (YtehaimkjedmjfaaGreatDoorTie.lean); close each card by the builder's one call (the guide's Derived/Test/ToyasCard.lean, 'card_holds'). Laid BY PROGRAM, IN A SANDBOX (cutbox-door.mjs). By AI agents, Wed Nov 11 2026. No macro, syntax, notation, axiom, sorry.
-/
import Derived.Test.YtehaimkjedmjfaaGreatDoorRows
import GoSem.ClaimSeven
namespace Go.Proofs.YtehaimkjedmjfaaGreatDoor
namespace Rows

/-- THE TIED CARD OF 'verdigrislaw14.ChainJoins'. -/
def chainJoinsCard : Claim7 := { stood := { row := chainJoinsRow, standIns := [], harness := (true, "9b1b0323dbfefbff12993784022e1e5f230fb0359d9aeb27a035a6c8f20ca079"), looks := true }, kinds := [], alts := [], laidByText := true, laidKinds := [.data, .data, .data, .sentinel, .sentinel], laidTests := true, laidLooks := .later }
def ChainJoinsCardSaid : Prop := Claim7.holds Tryz.pinned (.plain (OpenSpec.ofChange chainJoinsSpec)) chainJoinsCard

/-- THE SECOND FORM's CARD OF 'verdigrislaw14.ChainJoins'. -/
def chainJoinsUptoCard : Claim7 := { stood := { row := chainJoinsUptoRow, standIns := [], harness := (true, "9b1b0323dbfefbff12993784022e1e5f230fb0359d9aeb27a035a6c8f20ca079"), looks := true }, kinds := [], alts := [], laidByText := true, laidKinds := [.data, .data, .data, .sentinel, .sentinel], laidTests := true, laidLooks := .later }
def ChainJoinsUptoCardSaid : Prop := Claim7.holds Tryz.pinned (.plain (OpenSpec.upto chainJoinsSpec)) chainJoinsUptoCard
end Rows
end Go.Proofs.YtehaimkjedmjfaaGreatDoor
