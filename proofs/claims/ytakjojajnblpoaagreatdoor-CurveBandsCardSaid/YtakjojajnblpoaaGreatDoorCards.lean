/-
  DERIVED. GIVEN WITH THE SEED: THE CARDS: each row of YtakjojajnblpoaaGreatDoorRows.lean that lists a variable, with what it lists TIED to the program's text (the seventh form; the later family's looks); each row that meets fmt, with fmt's text TOLD by the authors' own Lean function (tested against real Go, not proved from fmt's source: count such statements apart). THE CARD IS WHAT COUNTS. Prove the row's statement (the work); the ties are given (YtakjojajnblpoaaGreatDoorTie.lean); close each card by the builder's one call (the guide's Derived/Test/ToyasCard.lean, 'card_holds'). Laid BY PROGRAM, IN A SANDBOX (cutbox-door.mjs). By AI agents, Wed Nov 11 2026. No macro, syntax, notation, axiom, sorry.
-/
import Derived.Test.YtakjojajnblpoaaGreatDoorRows
import GoSem.ClaimSeven
namespace Go.Proofs.YtakjojajnblpoaaGreatDoor
namespace Rows

/-- THE TIED CARD OF 'verdigrislaw09.CurveEvals'. -/
def curveEvalsCard : Claim7 := { stood := { row := curveEvalsRow, standIns := [], harness := (true, "dee66c65553be31874a53827023b2f19991744e5f0de977675b445fc6da889d8"), looks := true }, kinds := [], alts := [], laidByText := true, laidKinds := [.data, .data, .data, .sentinel, .sentinel], laidTests := true, laidLooks := .later }
def CurveEvalsCardSaid : Prop := Claim7.holds Tryz.pinned (.plain (OpenSpec.ofChange curveEvalsSpec)) curveEvalsCard

/-- THE TIED CARD OF 'verdigrislaw09.CurveBands'. -/
def curveBandsCard : Claim7 := { stood := { row := curveBandsRow, standIns := [], harness := (true, "dee66c65553be31874a53827023b2f19991744e5f0de977675b445fc6da889d8"), looks := true }, kinds := [], alts := [], laidByText := true, laidKinds := [.data, .data, .data, .sentinel, .sentinel], laidTests := true, laidLooks := .later }
def CurveBandsCardSaid : Prop := Claim7.holds Tryz.pinned (.plain (OpenSpec.ofChange curveBandsSpec)) curveBandsCard

/-- THE TIED CARD OF 'verdigrislaw09.CurveLines'. -/
def curveLinesCard : Claim7 := { stood := { row := curveLinesRow, standIns := [], harness := (true, "dee66c65553be31874a53827023b2f19991744e5f0de977675b445fc6da889d8"), looks := true }, kinds := [], alts := [], laidByText := true, laidKinds := [.data, .data, .data, .sentinel, .sentinel], laidTests := true, laidLooks := .later }
def CurveLinesCardSaid : Prop := Claim7.holds Tryz.pinned (.plain (OpenSpec.ofChange curveLinesSpec)) curveLinesCard

/-- THE TIED CARD OF 'verdigrislaw09.CurvePowers'. -/
def curvePowersCard : Claim7 := { stood := { row := curvePowersRow, standIns := [], harness := (true, "dee66c65553be31874a53827023b2f19991744e5f0de977675b445fc6da889d8"), looks := true }, kinds := [], alts := [], laidByText := true, laidKinds := [.data, .data, .data, .sentinel, .sentinel], laidTests := true, laidLooks := .later }
def CurvePowersCardSaid : Prop := Claim7.holds Tryz.pinned (.plain (OpenSpec.ofChange curvePowersSpec)) curvePowersCard

/-- THE TIED CARD OF 'verdigrislaw09.CurveWithin'. -/
def curveWithinCard : Claim7 := { stood := { row := curveWithinRow, standIns := [], harness := (true, "dee66c65553be31874a53827023b2f19991744e5f0de977675b445fc6da889d8"), looks := true }, kinds := [], alts := [], laidByText := true, laidKinds := [.data, .data, .data, .sentinel, .sentinel], laidTests := true, laidLooks := .later }
def CurveWithinCardSaid : Prop := Claim7.holds Tryz.pinned (.plain (OpenSpec.ofChange curveWithinSpec)) curveWithinCard

/-- THE TIED CARD OF 'verdigrislaw09.CurveTrends'. -/
def curveTrendsCard : Claim7 := { stood := { row := curveTrendsRow, standIns := [], harness := (true, "dee66c65553be31874a53827023b2f19991744e5f0de977675b445fc6da889d8"), looks := true }, kinds := [], alts := [], laidByText := true, laidKinds := [.data, .data, .data, .sentinel, .sentinel], laidTests := true, laidLooks := .later }
def CurveTrendsCardSaid : Prop := Claim7.holds Tryz.pinned (.plain (OpenSpec.ofChange curveTrendsSpec)) curveTrendsCard

/-- THE TIED CARD OF 'verdigrislaw09.CurveChecks'. -/
def curveChecksCard : Claim7 := { stood := { row := curveChecksRow, standIns := [], harness := (true, "dee66c65553be31874a53827023b2f19991744e5f0de977675b445fc6da889d8"), looks := true }, kinds := [], alts := [], laidByText := true, laidKinds := [.data, .data, .data, .sentinel, .sentinel], laidTests := true, laidLooks := .later }
def CurveChecksCardSaid : Prop := Claim7.holds Tryz.pinned (.plain (OpenSpec.ofChange curveChecksSpec)) curveChecksCard

/-- THE SECOND FORM's CARD OF 'verdigrislaw09.CurveEvals'. -/
def curveEvalsUptoCard : Claim7 := { stood := { row := curveEvalsUptoRow, standIns := [], harness := (true, "dee66c65553be31874a53827023b2f19991744e5f0de977675b445fc6da889d8"), looks := true }, kinds := [], alts := [], laidByText := true, laidKinds := [.data, .data, .data, .sentinel, .sentinel], laidTests := true, laidLooks := .later }
def CurveEvalsUptoCardSaid : Prop := Claim7.holds Tryz.pinned (.plain (OpenSpec.upto curveEvalsSpec)) curveEvalsUptoCard

/-- THE SECOND FORM's CARD OF 'verdigrislaw09.CurveBands'. -/
def curveBandsUptoCard : Claim7 := { stood := { row := curveBandsUptoRow, standIns := [], harness := (true, "dee66c65553be31874a53827023b2f19991744e5f0de977675b445fc6da889d8"), looks := true }, kinds := [], alts := [], laidByText := true, laidKinds := [.data, .data, .data, .sentinel, .sentinel], laidTests := true, laidLooks := .later }
def CurveBandsUptoCardSaid : Prop := Claim7.holds Tryz.pinned (.plain (OpenSpec.upto curveBandsSpec)) curveBandsUptoCard

/-- THE SECOND FORM's CARD OF 'verdigrislaw09.CurveLines'. -/
def curveLinesUptoCard : Claim7 := { stood := { row := curveLinesUptoRow, standIns := [], harness := (true, "dee66c65553be31874a53827023b2f19991744e5f0de977675b445fc6da889d8"), looks := true }, kinds := [], alts := [], laidByText := true, laidKinds := [.data, .data, .data, .sentinel, .sentinel], laidTests := true, laidLooks := .later }
def CurveLinesUptoCardSaid : Prop := Claim7.holds Tryz.pinned (.plain (OpenSpec.upto curveLinesSpec)) curveLinesUptoCard

/-- THE SECOND FORM's CARD OF 'verdigrislaw09.CurvePowers'. -/
def curvePowersUptoCard : Claim7 := { stood := { row := curvePowersUptoRow, standIns := [], harness := (true, "dee66c65553be31874a53827023b2f19991744e5f0de977675b445fc6da889d8"), looks := true }, kinds := [], alts := [], laidByText := true, laidKinds := [.data, .data, .data, .sentinel, .sentinel], laidTests := true, laidLooks := .later }
def CurvePowersUptoCardSaid : Prop := Claim7.holds Tryz.pinned (.plain (OpenSpec.upto curvePowersSpec)) curvePowersUptoCard

/-- THE SECOND FORM's CARD OF 'verdigrislaw09.CurveWithin'. -/
def curveWithinUptoCard : Claim7 := { stood := { row := curveWithinUptoRow, standIns := [], harness := (true, "dee66c65553be31874a53827023b2f19991744e5f0de977675b445fc6da889d8"), looks := true }, kinds := [], alts := [], laidByText := true, laidKinds := [.data, .data, .data, .sentinel, .sentinel], laidTests := true, laidLooks := .later }
def CurveWithinUptoCardSaid : Prop := Claim7.holds Tryz.pinned (.plain (OpenSpec.upto curveWithinSpec)) curveWithinUptoCard

/-- THE SECOND FORM's CARD OF 'verdigrislaw09.CurveTrends'. -/
def curveTrendsUptoCard : Claim7 := { stood := { row := curveTrendsUptoRow, standIns := [], harness := (true, "dee66c65553be31874a53827023b2f19991744e5f0de977675b445fc6da889d8"), looks := true }, kinds := [], alts := [], laidByText := true, laidKinds := [.data, .data, .data, .sentinel, .sentinel], laidTests := true, laidLooks := .later }
def CurveTrendsUptoCardSaid : Prop := Claim7.holds Tryz.pinned (.plain (OpenSpec.upto curveTrendsSpec)) curveTrendsUptoCard

/-- THE SECOND FORM's CARD OF 'verdigrislaw09.CurveChecks'. -/
def curveChecksUptoCard : Claim7 := { stood := { row := curveChecksUptoRow, standIns := [], harness := (true, "dee66c65553be31874a53827023b2f19991744e5f0de977675b445fc6da889d8"), looks := true }, kinds := [], alts := [], laidByText := true, laidKinds := [.data, .data, .data, .sentinel, .sentinel], laidTests := true, laidLooks := .later }
def CurveChecksUptoCardSaid : Prop := Claim7.holds Tryz.pinned (.plain (OpenSpec.upto curveChecksSpec)) curveChecksUptoCard
end Rows
end Go.Proofs.YtakjojajnblpoaaGreatDoor
