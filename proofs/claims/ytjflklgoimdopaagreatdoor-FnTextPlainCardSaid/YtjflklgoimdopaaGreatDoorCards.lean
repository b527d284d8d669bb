/-
  DERIVED. GIVEN WITH THE SEED: THE CARDS: each row of YtjflklgoimdopaaGreatDoorRows.lean that lists a variable, with what it lists TIED to the program's text (the seventh form; the later family's looks); each row that meets fmt, with fmt's text TOLD by the authors' own Lean function (tested against real Go, not proved from fmt's source: count such statements apart). THE CARD IS WHAT COUNTS. Prove the row's statement (the work); the ties are given (YtjflklgoimdopaaGreatDoorTie.lean); close each card by the builder's one call (the guide's Derived/Test/ToyasCard.lean, 'card_holds'). Laid BY PROGRAM, IN A SANDBOX (cutbox-door.mjs). By AI agents, Wed Nov 11 2026. No macro, syntax, notation, axiom, sorry.
-/
import Derived.Test.YtjflklgoimdopaaGreatDoorRows
import GoSem.ClaimSeven
namespace Go.Proofs.YtjflklgoimdopaaGreatDoor
namespace Rows

/-- THE TIED CARD OF 'laws.FnExactDoorPass'. -/
def fnExactDoorPassCard : Claim7 := { stood := { row := fnExactDoorPassRow, standIns := [], harness := (true, "b8d47c8ac2e18b46d243ab5af05c0afd2434041729e1aa1401705415b950eaaa"), looks := true }, kinds := [], alts := [], laidByText := true, laidKinds := [.data, .data, .data, .sentinel, .sentinel], laidTests := true, laidLooks := .later }
def FnExactDoorPassCardSaid : Prop := Claim7.holds Tryz.pinned (.plain (OpenSpec.ofChange fnExactDoorPassSpec)) fnExactDoorPassCard

/-- THE TIED CARD OF 'laws.FnWorldFlow'. -/
def fnWorldFlowCard : Claim7 := { stood := { row := fnWorldFlowRow, standIns := [], harness := (true, "b8d47c8ac2e18b46d243ab5af05c0afd2434041729e1aa1401705415b950eaaa"), looks := true }, kinds := [], alts := [], laidByText := true, laidKinds := [.data, .data, .data, .sentinel, .sentinel], laidTests := true, laidLooks := .later }
def FnWorldFlowCardSaid : Prop := Claim7.holds Tryz.pinned (.plain (OpenSpec.ofChange fnWorldFlowSpec)) fnWorldFlowCard

/-- THE TIED CARD OF 'laws.FnConvDone'. -/
def fnConvDoneCard : Claim7 := { stood := { row := fnConvDoneRow, standIns := [], harness := (true, "b8d47c8ac2e18b46d243ab5af05c0afd2434041729e1aa1401705415b950eaaa"), looks := true }, kinds := [], alts := [], laidByText := true, laidKinds := [.data, .data, .data, .sentinel, .sentinel], laidTests := true, laidLooks := .later }
def FnConvDoneCardSaid : Prop := Claim7.holds Tryz.pinned (.plain (OpenSpec.ofChange fnConvDoneSpec)) fnConvDoneCard

/-- THE TIED CARD OF 'laws.FnPutHeld'. -/
def fnPutHeldCard : Claim7 := { stood := { row := fnPutHeldRow, standIns := [], harness := (true, "b8d47c8ac2e18b46d243ab5af05c0afd2434041729e1aa1401705415b950eaaa"), looks := true }, kinds := [], alts := [], laidByText := true, laidKinds := [.data, .data, .data, .sentinel, .sentinel], laidTests := true, laidLooks := .later }
def FnPutHeldCardSaid : Prop := Claim7.holds Tryz.pinned (.plain (OpenSpec.ofChange fnPutHeldSpec)) fnPutHeldCard

/-- THE TIED CARD OF 'laws.FnTextPlain'. -/
def fnTextPlainCard : Claim7 := { stood := { row := fnTextPlainRow, standIns := [], harness := (true, "b8d47c8ac2e18b46d243ab5af05c0afd2434041729e1aa1401705415b950eaaa"), looks := true }, kinds := [], alts := [], laidByText := true, laidKinds := [.data, .data, .data, .sentinel, .sentinel], laidTests := true, laidLooks := .later }
def FnTextPlainCardSaid : Prop := Claim7.holds Tryz.pinned (.plain (OpenSpec.ofChange fnTextPlainSpec)) fnTextPlainCard

/-- THE TIED CARD OF 'laws.FnExactWorldFlow'. -/
def fnExactWorldFlowCard : Claim7 := { stood := { row := fnExactWorldFlowRow, standIns := [], harness := (true, "b8d47c8ac2e18b46d243ab5af05c0afd2434041729e1aa1401705415b950eaaa"), looks := true }, kinds := [], alts := [], laidByText := true, laidKinds := [.data, .data, .data, .sentinel, .sentinel], laidTests := true, laidLooks := .later }
def FnExactWorldFlowCardSaid : Prop := Claim7.holds Tryz.pinned (.plain (OpenSpec.ofChange fnExactWorldFlowSpec)) fnExactWorldFlowCard

/-- THE SECOND FORM's CARD OF 'laws.FnExactDoorPass'. -/
def fnExactDoorPassUptoCard : Claim7 := { stood := { row := fnExactDoorPassUptoRow, standIns := [], harness := (true, "b8d47c8ac2e18b46d243ab5af05c0afd2434041729e1aa1401705415b950eaaa"), looks := true }, kinds := [], alts := [], laidByText := true, laidKinds := [.data, .data, .data, .sentinel, .sentinel], laidTests := true, laidLooks := .later }
def FnExactDoorPassUptoCardSaid : Prop := Claim7.holds Tryz.pinned (.plain (OpenSpec.upto fnExactDoorPassSpec)) fnExactDoorPassUptoCard

/-- THE SECOND FORM's CARD OF 'laws.FnWorldFlow'. -/
def fnWorldFlowUptoCard : Claim7 := { stood := { row := fnWorldFlowUptoRow, standIns := [], harness := (true, "b8d47c8ac2e18b46d243ab5af05c0afd2434041729e1aa1401705415b950eaaa"), looks := true }, kinds := [], alts := [], laidByText := true, laidKinds := [.data, .data, .data, .sentinel, .sentinel], laidTests := true, laidLooks := .later }
def FnWorldFlowUptoCardSaid : Prop := Claim7.holds Tryz.pinned (.plain (OpenSpec.upto fnWorldFlowSpec)) fnWorldFlowUptoCard

/-- THE SECOND FORM's CARD OF 'laws.FnConvDone'. -/
def fnConvDoneUptoCard : Claim7 := { stood := { row := fnConvDoneUptoRow, standIns := [], harness := (true, "b8d47c8ac2e18b46d243ab5af05c0afd2434041729e1aa1401705415b950eaaa"), looks := true }, kinds := [], alts := [], laidByText := true, laidKinds := [.data, .data, .data, .sentinel, .sentinel], laidTests := true, laidLooks := .later }
def FnConvDoneUptoCardSaid : Prop := Claim7.holds Tryz.pinned (.plain (OpenSpec.upto fnConvDoneSpec)) fnConvDoneUptoCard

/-- THE SECOND FORM's CARD OF 'laws.FnPutHeld'. -/
def fnPutHeldUptoCard : Claim7 := { stood := { row := fnPutHeldUptoRow, standIns := [], harness := (true, "b8d47c8ac2e18b46d243ab5af05c0afd2434041729e1aa1401705415b950eaaa"), looks := true }, kinds := [], alts := [], laidByText := true, laidKinds := [.data, .data, .data, .sentinel, .sentinel], laidTests := true, laidLooks := .later }
def FnPutHeldUptoCardSaid : Prop := Claim7.holds Tryz.pinned (.plain (OpenSpec.upto fnPutHeldSpec)) fnPutHeldUptoCard

/-- THE SECOND FORM's CARD OF 'laws.FnTextPlain'. -/
def fnTextPlainUptoCard : Claim7 := { stood := { row := fnTextPlainUptoRow, standIns := [], harness := (true, "b8d47c8ac2e18b46d243ab5af05c0afd2434041729e1aa1401705415b950eaaa"), looks := true }, kinds := [], alts := [], laidByText := true, laidKinds := [.data, .data, .data, .sentinel, .sentinel], laidTests := true, laidLooks := .later }
def FnTextPlainUptoCardSaid : Prop := Claim7.holds Tryz.pinned (.plain (OpenSpec.upto fnTextPlainSpec)) fnTextPlainUptoCard

/-- THE SECOND FORM's CARD OF 'laws.FnExactWorldFlow'. -/
def fnExactWorldFlowUptoCard : Claim7 := { stood := { row := fnExactWorldFlowUptoRow, standIns := [], harness := (true, "b8d47c8ac2e18b46d243ab5af05c0afd2434041729e1aa1401705415b950eaaa"), looks := true }, kinds := [], alts := [], laidByText := true, laidKinds := [.data, .data, .data, .sentinel, .sentinel], laidTests := true, laidLooks := .later }
def FnExactWorldFlowUptoCardSaid : Prop := Claim7.holds Tryz.pinned (.plain (OpenSpec.upto fnExactWorldFlowSpec)) fnExactWorldFlowUptoCard
end Rows
end Go.Proofs.YtjflklgoimdopaaGreatDoor
