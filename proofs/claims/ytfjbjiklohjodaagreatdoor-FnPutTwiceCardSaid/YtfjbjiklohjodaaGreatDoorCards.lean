/-
  DERIVED. GIVEN WITH THE SEED: THE CARDS: each row of YtfjbjiklohjodaaGreatDoorRows.lean that lists a variable, with what it lists TIED to the program's text (the seventh form; the later family's looks); each row that meets fmt, with fmt's text TOLD by the authors' own Lean function (tested against real Go, not proved from fmt's source: count such statements apart). THE CARD IS WHAT COUNTS. Prove the row's statement (the work); the ties are given (YtfjbjiklohjodaaGreatDoorTie.lean); close each card by the builder's one call (the guide's Derived/Test/ToyasCard.lean, 'card_holds'). Laid BY PROGRAM, IN A SANDBOX (cutbox-door.mjs). By AI agents, Wed Nov 11 2026. No macro, syntax, notation, axiom, sorry.
-/
import Derived.Test.YtfjbjiklohjodaaGreatDoorRows
import GoSem.ClaimSeven
namespace Go.Proofs.YtfjbjiklohjodaaGreatDoor
namespace Rows

/-- THE TIED CARD OF 'laws.FnPutGap'. -/
def fnPutGapCard : Claim7 := { stood := { row := fnPutGapRow, standIns := [], harness := (true, "ba5954ad82a4f1962a8071e73f62478d3f9560ef995d9f7d99ae7108177d211e"), looks := true }, kinds := [], alts := [], laidByText := true, laidKinds := [.data, .data, .data, .sentinel, .sentinel], laidTests := true, laidLooks := .later }
def FnPutGapCardSaid : Prop := Claim7.holds Tryz.pinned (.plain (OpenSpec.ofChange fnPutGapSpec)) fnPutGapCard

/-- THE TIED CARD OF 'laws.FnPutIn'. -/
def fnPutInCard : Claim7 := { stood := { row := fnPutInRow, standIns := [], harness := (true, "ba5954ad82a4f1962a8071e73f62478d3f9560ef995d9f7d99ae7108177d211e"), looks := true }, kinds := [], alts := [], laidByText := true, laidKinds := [.data, .data, .data, .sentinel, .sentinel], laidTests := true, laidLooks := .later }
def FnPutInCardSaid : Prop := Claim7.holds Tryz.pinned (.plain (OpenSpec.ofChange fnPutInSpec)) fnPutInCard

/-- THE TIED CARD OF 'laws.FnPutNone'. -/
def fnPutNoneCard : Claim7 := { stood := { row := fnPutNoneRow, standIns := [], harness := (true, "ba5954ad82a4f1962a8071e73f62478d3f9560ef995d9f7d99ae7108177d211e"), looks := true }, kinds := [], alts := [], laidByText := true, laidKinds := [.data, .data, .data, .sentinel, .sentinel], laidTests := true, laidLooks := .later }
def FnPutNoneCardSaid : Prop := Claim7.holds Tryz.pinned (.plain (OpenSpec.ofChange fnPutNoneSpec)) fnPutNoneCard

/-- THE TIED CARD OF 'laws.FnPutParts'. -/
def fnPutPartsCard : Claim7 := { stood := { row := fnPutPartsRow, standIns := [], harness := (true, "ba5954ad82a4f1962a8071e73f62478d3f9560ef995d9f7d99ae7108177d211e"), looks := true }, kinds := [], alts := [], laidByText := true, laidKinds := [.data, .data, .data, .sentinel, .sentinel], laidTests := true, laidLooks := .later }
def FnPutPartsCardSaid : Prop := Claim7.holds Tryz.pinned (.plain (OpenSpec.ofChange fnPutPartsSpec)) fnPutPartsCard

/-- THE TIED CARD OF 'laws.FnPutTwice'. -/
def fnPutTwiceCard : Claim7 := { stood := { row := fnPutTwiceRow, standIns := [], harness := (true, "ba5954ad82a4f1962a8071e73f62478d3f9560ef995d9f7d99ae7108177d211e"), looks := true }, kinds := [], alts := [], laidByText := true, laidKinds := [.data, .data, .data, .sentinel, .sentinel], laidTests := true, laidLooks := .later }
def FnPutTwiceCardSaid : Prop := Claim7.holds Tryz.pinned (.plain (OpenSpec.ofChange fnPutTwiceSpec)) fnPutTwiceCard

/-- THE TIED CARD OF 'laws.FnPutMore'. -/
def fnPutMoreCard : Claim7 := { stood := { row := fnPutMoreRow, standIns := [], harness := (true, "ba5954ad82a4f1962a8071e73f62478d3f9560ef995d9f7d99ae7108177d211e"), looks := true }, kinds := [], alts := [], laidByText := true, laidKinds := [.data, .data, .data, .sentinel, .sentinel], laidTests := true, laidLooks := .later }
def FnPutMoreCardSaid : Prop := Claim7.holds Tryz.pinned (.plain (OpenSpec.ofChange fnPutMoreSpec)) fnPutMoreCard

/-- THE TIED CARD OF 'laws.FnPutHeld'. -/
def fnPutHeldCard : Claim7 := { stood := { row := fnPutHeldRow, standIns := [], harness := (true, "ba5954ad82a4f1962a8071e73f62478d3f9560ef995d9f7d99ae7108177d211e"), looks := true }, kinds := [], alts := [], laidByText := true, laidKinds := [.data, .data, .data, .sentinel, .sentinel], laidTests := true, laidLooks := .later }
def FnPutHeldCardSaid : Prop := Claim7.holds Tryz.pinned (.plain (OpenSpec.ofChange fnPutHeldSpec)) fnPutHeldCard

/-- THE TIED CARD OF 'laws.FnPutText'. -/
def fnPutTextCard : Claim7 := { stood := { row := fnPutTextRow, standIns := [], harness := (true, "ba5954ad82a4f1962a8071e73f62478d3f9560ef995d9f7d99ae7108177d211e"), looks := true }, kinds := [], alts := [], laidByText := true, laidKinds := [.data, .data, .data, .sentinel, .sentinel], laidTests := true, laidLooks := .later }
def FnPutTextCardSaid : Prop := Claim7.holds Tryz.pinned (.plain (OpenSpec.ofChange fnPutTextSpec)) fnPutTextCard

/-- THE TIED CARD OF 'laws.FnExactStreamPut'. -/
def fnExactStreamPutCard : Claim7 := { stood := { row := fnExactStreamPutRow, standIns := [], harness := (true, "ba5954ad82a4f1962a8071e73f62478d3f9560ef995d9f7d99ae7108177d211e"), looks := true }, kinds := [], alts := [], laidByText := true, laidKinds := [.data, .data, .data, .sentinel, .sentinel], laidTests := true, laidLooks := .later }
def FnExactStreamPutCardSaid : Prop := Claim7.holds Tryz.pinned (.plain (OpenSpec.ofChange fnExactStreamPutSpec)) fnExactStreamPutCard

/-- THE TIED CARD OF 'laws.FnExactConvHear'. -/
def fnExactConvHearCard : Claim7 := { stood := { row := fnExactConvHearRow, standIns := [], harness := (true, "ba5954ad82a4f1962a8071e73f62478d3f9560ef995d9f7d99ae7108177d211e"), looks := true }, kinds := [], alts := [], laidByText := true, laidKinds := [.data, .data, .data, .sentinel, .sentinel], laidTests := true, laidLooks := .later }
def FnExactConvHearCardSaid : Prop := Claim7.holds Tryz.pinned (.plain (OpenSpec.ofChange fnExactConvHearSpec)) fnExactConvHearCard

/-- THE TIED CARD OF 'laws.FnExactDoorOk'. -/
def fnExactDoorOkCard : Claim7 := { stood := { row := fnExactDoorOkRow, standIns := [], harness := (true, "ba5954ad82a4f1962a8071e73f62478d3f9560ef995d9f7d99ae7108177d211e"), looks := true }, kinds := [], alts := [], laidByText := true, laidKinds := [.data, .data, .data, .sentinel, .sentinel], laidTests := true, laidLooks := .later }
def FnExactDoorOkCardSaid : Prop := Claim7.holds Tryz.pinned (.plain (OpenSpec.ofChange fnExactDoorOkSpec)) fnExactDoorOkCard

/-- THE TIED CARD OF 'laws.FnWorldNew'. -/
def fnWorldNewCard : Claim7 := { stood := { row := fnWorldNewRow, standIns := [], harness := (true, "ba5954ad82a4f1962a8071e73f62478d3f9560ef995d9f7d99ae7108177d211e"), looks := true }, kinds := [], alts := [], laidByText := true, laidKinds := [.data, .data, .data, .sentinel, .sentinel], laidTests := true, laidLooks := .later }
def FnWorldNewCardSaid : Prop := Claim7.holds Tryz.pinned (.plain (OpenSpec.ofChange fnWorldNewSpec)) fnWorldNewCard

/-- THE SECOND FORM's CARD OF 'laws.FnPutGap'. -/
def fnPutGapUptoCard : Claim7 := { stood := { row := fnPutGapUptoRow, standIns := [], harness := (true, "ba5954ad82a4f1962a8071e73f62478d3f9560ef995d9f7d99ae7108177d211e"), looks := true }, kinds := [], alts := [], laidByText := true, laidKinds := [.data, .data, .data, .sentinel, .sentinel], laidTests := true, laidLooks := .later }
def FnPutGapUptoCardSaid : Prop := Claim7.holds Tryz.pinned (.plain (OpenSpec.upto fnPutGapSpec)) fnPutGapUptoCard

/-- THE SECOND FORM's CARD OF 'laws.FnPutIn'. -/
def fnPutInUptoCard : Claim7 := { stood := { row := fnPutInUptoRow, standIns := [], harness := (true, "ba5954ad82a4f1962a8071e73f62478d3f9560ef995d9f7d99ae7108177d211e"), looks := true }, kinds := [], alts := [], laidByText := true, laidKinds := [.data, .data, .data, .sentinel, .sentinel], laidTests := true, laidLooks := .later }
def FnPutInUptoCardSaid : Prop := Claim7.holds Tryz.pinned (.plain (OpenSpec.upto fnPutInSpec)) fnPutInUptoCard

/-- THE SECOND FORM's CARD OF 'laws.FnPutNone'. -/
def fnPutNoneUptoCard : Claim7 := { stood := { row := fnPutNoneUptoRow, standIns := [], harness := (true, "ba5954ad82a4f1962a8071e73f62478d3f9560ef995d9f7d99ae7108177d211e"), looks := true }, kinds := [], alts := [], laidByText := true, laidKinds := [.data, .data, .data, .sentinel, .sentinel], laidTests := true, laidLooks := .later }
def FnPutNoneUptoCardSaid : Prop := Claim7.holds Tryz.pinned (.plain (OpenSpec.upto fnPutNoneSpec)) fnPutNoneUptoCard

/-- THE SECOND FORM's CARD OF 'laws.FnPutParts'. -/
def fnPutPartsUptoCard : Claim7 := { stood := { row := fnPutPartsUptoRow, standIns := [], harness := (true, "ba5954ad82a4f1962a8071e73f62478d3f9560ef995d9f7d99ae7108177d211e"), looks := true }, kinds := [], alts := [], laidByText := true, laidKinds := [.data, .data, .data, .sentinel, .sentinel], laidTests := true, laidLooks := .later }
def FnPutPartsUptoCardSaid : Prop := Claim7.holds Tryz.pinned (.plain (OpenSpec.upto fnPutPartsSpec)) fnPutPartsUptoCard

/-- THE SECOND FORM's CARD OF 'laws.FnPutTwice'. -/
def fnPutTwiceUptoCard : Claim7 := { stood := { row := fnPutTwiceUptoRow, standIns := [], harness := (true, "ba5954ad82a4f1962a8071e73f62478d3f9560ef995d9f7d99ae7108177d211e"), looks := true }, kinds := [], alts := [], laidByText := true, laidKinds := [.data, .data, .data, .sentinel, .sentinel], laidTests := true, laidLooks := .later }
def FnPutTwiceUptoCardSaid : Prop := Claim7.holds Tryz.pinned (.plain (OpenSpec.upto fnPutTwiceSpec)) fnPutTwiceUptoCard

/-- THE SECOND FORM's CARD OF 'laws.FnPutMore'. -/
def fnPutMoreUptoCard : Claim7 := { stood := { row := fnPutMoreUptoRow, standIns := [], harness := (true, "ba5954ad82a4f1962a8071e73f62478d3f9560ef995d9f7d99ae7108177d211e"), looks := true }, kinds := [], alts := [], laidByText := true, laidKinds := [.data, .data, .data, .sentinel, .sentinel], laidTests := true, laidLooks := .later }
def FnPutMoreUptoCardSaid : Prop := Claim7.holds Tryz.pinned (.plain (OpenSpec.upto fnPutMoreSpec)) fnPutMoreUptoCard

/-- THE SECOND FORM's CARD OF 'laws.FnPutHeld'. -/
def fnPutHeldUptoCard : Claim7 := { stood := { row := fnPutHeldUptoRow, standIns := [], harness := (true, "ba5954ad82a4f1962a8071e73f62478d3f9560ef995d9f7d99ae7108177d211e"), looks := true }, kinds := [], alts := [], laidByText := true, laidKinds := [.data, .data, .data, .sentinel, .sentinel], laidTests := true, laidLooks := .later }
def FnPutHeldUptoCardSaid : Prop := Claim7.holds Tryz.pinned (.plain (OpenSpec.upto fnPutHeldSpec)) fnPutHeldUptoCard

/-- THE SECOND FORM's CARD OF 'laws.FnPutText'. -/
def fnPutTextUptoCard : Claim7 := { stood := { row := fnPutTextUptoRow, standIns := [], harness := (true, "ba5954ad82a4f1962a8071e73f62478d3f9560ef995d9f7d99ae7108177d211e"), looks := true }, kinds := [], alts := [], laidByText := true, laidKinds := [.data, .data, .data, .sentinel, .sentinel], laidTests := true, laidLooks := .later }
def FnPutTextUptoCardSaid : Prop := Claim7.holds Tryz.pinned (.plain (OpenSpec.upto fnPutTextSpec)) fnPutTextUptoCard

/-- THE SECOND FORM's CARD OF 'laws.FnExactStreamPut'. -/
def fnExactStreamPutUptoCard : Claim7 := { stood := { row := fnExactStreamPutUptoRow, standIns := [], harness := (true, "ba5954ad82a4f1962a8071e73f62478d3f9560ef995d9f7d99ae7108177d211e"), looks := true }, kinds := [], alts := [], laidByText := true, laidKinds := [.data, .data, .data, .sentinel, .sentinel], laidTests := true, laidLooks := .later }
def FnExactStreamPutUptoCardSaid : Prop := Claim7.holds Tryz.pinned (.plain (OpenSpec.upto fnExactStreamPutSpec)) fnExactStreamPutUptoCard

/-- THE SECOND FORM's CARD OF 'laws.FnExactConvHear'. -/
def fnExactConvHearUptoCard : Claim7 := { stood := { row := fnExactConvHearUptoRow, standIns := [], harness := (true, "ba5954ad82a4f1962a8071e73f62478d3f9560ef995d9f7d99ae7108177d211e"), looks := true }, kinds := [], alts := [], laidByText := true, laidKinds := [.data, .data, .data, .sentinel, .sentinel], laidTests := true, laidLooks := .later }
def FnExactConvHearUptoCardSaid : Prop := Claim7.holds Tryz.pinned (.plain (OpenSpec.upto fnExactConvHearSpec)) fnExactConvHearUptoCard

/-- THE SECOND FORM's CARD OF 'laws.FnExactDoorOk'. -/
def fnExactDoorOkUptoCard : Claim7 := { stood := { row := fnExactDoorOkUptoRow, standIns := [], harness := (true, "ba5954ad82a4f1962a8071e73f62478d3f9560ef995d9f7d99ae7108177d211e"), looks := true }, kinds := [], alts := [], laidByText := true, laidKinds := [.data, .data, .data, .sentinel, .sentinel], laidTests := true, laidLooks := .later }
def FnExactDoorOkUptoCardSaid : Prop := Claim7.holds Tryz.pinned (.plain (OpenSpec.upto fnExactDoorOkSpec)) fnExactDoorOkUptoCard

/-- THE SECOND FORM's CARD OF 'laws.FnWorldNew'. -/
def fnWorldNewUptoCard : Claim7 := { stood := { row := fnWorldNewUptoRow, standIns := [], harness := (true, "ba5954ad82a4f1962a8071e73f62478d3f9560ef995d9f7d99ae7108177d211e"), looks := true }, kinds := [], alts := [], laidByText := true, laidKinds := [.data, .data, .data, .sentinel, .sentinel], laidTests := true, laidLooks := .later }
def FnWorldNewUptoCardSaid : Prop := Claim7.holds Tryz.pinned (.plain (OpenSpec.upto fnWorldNewSpec)) fnWorldNewUptoCard
end Rows
end Go.Proofs.YtfjbjiklohjodaaGreatDoor
