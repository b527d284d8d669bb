/-
  DERIVED. GIVEN WITH THE SEED: THE CARDS: each row of YtijompkonaiagaaGreatDoorRows.lean that lists a variable, with what it lists TIED to the program's text (the seventh form; the later family's looks); each row that meets fmt, with fmt's text TOLD by the authors' own Lean function (tested against real Go, not proved from fmt's source: count such statements apart). THE CARD IS WHAT COUNTS. Prove the row's statement (the work); the ties are given (YtijompkonaiagaaGreatDoorTie.lean); close each card by the builder's one call (the guide's Derived/Test/ToyasCard.lean, 'card_holds'). Laid BY PROGRAM, IN A SANDBOX (cutbox-door.mjs). By AI agents, Wed Nov 11 2026. No macro, syntax, notation, axiom, sorry.
-/
import Derived.Test.YtijompkonaiagaaGreatDoorRows
import GoSem.ClaimSeven
namespace Go.Proofs.YtijompkonaiagaaGreatDoor
namespace Rows

/-- THE TIED CARD OF 'laws.FnConvWhole'. -/
def fnConvWholeCard : Claim7 := { stood := { row := fnConvWholeRow, standIns := [], harness := (true, "7cd380f80eb8235a605f635c53a58dd0925be89fd42ad3a0cfc5f27599a89d18"), looks := true }, kinds := [], alts := [], laidByText := true, laidKinds := [.data, .data, .data, .sentinel, .sentinel], laidTests := true, laidLooks := .later }
def FnConvWholeCardSaid : Prop := Claim7.holds Tryz.pinned (.plain (OpenSpec.ofChange fnConvWholeSpec)) fnConvWholeCard

/-- THE TIED CARD OF 'laws.FnExactMapTextIn'. -/
def fnExactMapTextInCard : Claim7 := { stood := { row := fnExactMapTextInRow, standIns := [], harness := (true, "7cd380f80eb8235a605f635c53a58dd0925be89fd42ad3a0cfc5f27599a89d18"), looks := true }, kinds := [], alts := [], laidByText := true, laidKinds := [.data, .data, .data, .sentinel, .sentinel], laidTests := true, laidLooks := .later }
def FnExactMapTextInCardSaid : Prop := Claim7.holds Tryz.pinned (.plain (OpenSpec.ofChange fnExactMapTextInSpec)) fnExactMapTextInCard

/-- THE TIED CARD OF 'laws.FnExactMapTextOut'. -/
def fnExactMapTextOutCard : Claim7 := { stood := { row := fnExactMapTextOutRow, standIns := [], harness := (true, "7cd380f80eb8235a605f635c53a58dd0925be89fd42ad3a0cfc5f27599a89d18"), looks := true }, kinds := [], alts := [], laidByText := true, laidKinds := [.data, .data, .data, .sentinel, .sentinel], laidTests := true, laidLooks := .later }
def FnExactMapTextOutCardSaid : Prop := Claim7.holds Tryz.pinned (.plain (OpenSpec.ofChange fnExactMapTextOutSpec)) fnExactMapTextOutCard

/-- THE TIED CARD OF 'laws.FnOutAgain'. -/
def fnOutAgainCard : Claim7 := { stood := { row := fnOutAgainRow, standIns := [], harness := (true, "7cd380f80eb8235a605f635c53a58dd0925be89fd42ad3a0cfc5f27599a89d18"), looks := true }, kinds := [], alts := [], laidByText := true, laidKinds := [.data, .data, .data, .sentinel, .sentinel], laidTests := true, laidLooks := .later }
def FnOutAgainCardSaid : Prop := Claim7.holds Tryz.pinned (.plain (OpenSpec.ofChange fnOutAgainSpec)) fnOutAgainCard

/-- THE TIED CARD OF 'laws.FnOutTwice'. -/
def fnOutTwiceCard : Claim7 := { stood := { row := fnOutTwiceRow, standIns := [], harness := (true, "7cd380f80eb8235a605f635c53a58dd0925be89fd42ad3a0cfc5f27599a89d18"), looks := true }, kinds := [], alts := [], laidByText := true, laidKinds := [.data, .data, .data, .sentinel, .sentinel], laidTests := true, laidLooks := .later }
def FnOutTwiceCardSaid : Prop := Claim7.holds Tryz.pinned (.plain (OpenSpec.ofChange fnOutTwiceSpec)) fnOutTwiceCard

/-- THE TIED CARD OF 'laws.FnTextIn'. -/
def fnTextInCard : Claim7 := { stood := { row := fnTextInRow, standIns := [], harness := (true, "7cd380f80eb8235a605f635c53a58dd0925be89fd42ad3a0cfc5f27599a89d18"), looks := true }, kinds := [], alts := [], laidByText := true, laidKinds := [.data, .data, .data, .sentinel, .sentinel], laidTests := true, laidLooks := .later }
def FnTextInCardSaid : Prop := Claim7.holds Tryz.pinned (.plain (OpenSpec.ofChange fnTextInSpec)) fnTextInCard

/-- THE TIED CARD OF 'laws.FnTextHides'. -/
def fnTextHidesCard : Claim7 := { stood := { row := fnTextHidesRow, standIns := [], harness := (true, "7cd380f80eb8235a605f635c53a58dd0925be89fd42ad3a0cfc5f27599a89d18"), looks := true }, kinds := [], alts := [], laidByText := true, laidKinds := [.data, .data, .data, .sentinel, .sentinel], laidTests := true, laidLooks := .later }
def FnTextHidesCardSaid : Prop := Claim7.holds Tryz.pinned (.plain (OpenSpec.ofChange fnTextHidesSpec)) fnTextHidesCard

/-- THE TIED CARD OF 'laws.FnInMore'. -/
def fnInMoreCard : Claim7 := { stood := { row := fnInMoreRow, standIns := [], harness := (true, "7cd380f80eb8235a605f635c53a58dd0925be89fd42ad3a0cfc5f27599a89d18"), looks := true }, kinds := [], alts := [], laidByText := true, laidKinds := [.data, .data, .data, .sentinel, .sentinel], laidTests := true, laidLooks := .later }
def FnInMoreCardSaid : Prop := Claim7.holds Tryz.pinned (.plain (OpenSpec.ofChange fnInMoreSpec)) fnInMoreCard

/-- THE TIED CARD OF 'laws.FnTextStep'. -/
def fnTextStepCard : Claim7 := { stood := { row := fnTextStepRow, standIns := [], harness := (true, "7cd380f80eb8235a605f635c53a58dd0925be89fd42ad3a0cfc5f27599a89d18"), looks := true }, kinds := [], alts := [], laidByText := true, laidKinds := [.data, .data, .data, .sentinel, .sentinel], laidTests := true, laidLooks := .later }
def FnTextStepCardSaid : Prop := Claim7.holds Tryz.pinned (.plain (OpenSpec.ofChange fnTextStepSpec)) fnTextStepCard

/-- THE TIED CARD OF 'laws.FnOutLong'. -/
def fnOutLongCard : Claim7 := { stood := { row := fnOutLongRow, standIns := [], harness := (true, "7cd380f80eb8235a605f635c53a58dd0925be89fd42ad3a0cfc5f27599a89d18"), looks := true }, kinds := [], alts := [], laidByText := true, laidKinds := [.data, .data, .data, .sentinel, .sentinel], laidTests := true, laidLooks := .later }
def FnOutLongCardSaid : Prop := Claim7.holds Tryz.pinned (.plain (OpenSpec.ofChange fnOutLongSpec)) fnOutLongCard

/-- THE TIED CARD OF 'laws.FnTextThere'. -/
def fnTextThereCard : Claim7 := { stood := { row := fnTextThereRow, standIns := [], harness := (true, "7cd380f80eb8235a605f635c53a58dd0925be89fd42ad3a0cfc5f27599a89d18"), looks := true }, kinds := [], alts := [], laidByText := true, laidKinds := [.data, .data, .data, .sentinel, .sentinel], laidTests := true, laidLooks := .later }
def FnTextThereCardSaid : Prop := Claim7.holds Tryz.pinned (.plain (OpenSpec.ofChange fnTextThereSpec)) fnTextThereCard

/-- THE SECOND FORM's CARD OF 'laws.FnConvWhole'. -/
def fnConvWholeUptoCard : Claim7 := { stood := { row := fnConvWholeUptoRow, standIns := [], harness := (true, "7cd380f80eb8235a605f635c53a58dd0925be89fd42ad3a0cfc5f27599a89d18"), looks := true }, kinds := [], alts := [], laidByText := true, laidKinds := [.data, .data, .data, .sentinel, .sentinel], laidTests := true, laidLooks := .later }
def FnConvWholeUptoCardSaid : Prop := Claim7.holds Tryz.pinned (.plain (OpenSpec.upto fnConvWholeSpec)) fnConvWholeUptoCard

/-- THE SECOND FORM's CARD OF 'laws.FnExactMapTextIn'. -/
def fnExactMapTextInUptoCard : Claim7 := { stood := { row := fnExactMapTextInUptoRow, standIns := [], harness := (true, "7cd380f80eb8235a605f635c53a58dd0925be89fd42ad3a0cfc5f27599a89d18"), looks := true }, kinds := [], alts := [], laidByText := true, laidKinds := [.data, .data, .data, .sentinel, .sentinel], laidTests := true, laidLooks := .later }
def FnExactMapTextInUptoCardSaid : Prop := Claim7.holds Tryz.pinned (.plain (OpenSpec.upto fnExactMapTextInSpec)) fnExactMapTextInUptoCard

/-- THE SECOND FORM's CARD OF 'laws.FnExactMapTextOut'. -/
def fnExactMapTextOutUptoCard : Claim7 := { stood := { row := fnExactMapTextOutUptoRow, standIns := [], harness := (true, "7cd380f80eb8235a605f635c53a58dd0925be89fd42ad3a0cfc5f27599a89d18"), looks := true }, kinds := [], alts := [], laidByText := true, laidKinds := [.data, .data, .data, .sentinel, .sentinel], laidTests := true, laidLooks := .later }
def FnExactMapTextOutUptoCardSaid : Prop := Claim7.holds Tryz.pinned (.plain (OpenSpec.upto fnExactMapTextOutSpec)) fnExactMapTextOutUptoCard

/-- THE SECOND FORM's CARD OF 'laws.FnOutAgain'. -/
def fnOutAgainUptoCard : Claim7 := { stood := { row := fnOutAgainUptoRow, standIns := [], harness := (true, "7cd380f80eb8235a605f635c53a58dd0925be89fd42ad3a0cfc5f27599a89d18"), looks := true }, kinds := [], alts := [], laidByText := true, laidKinds := [.data, .data, .data, .sentinel, .sentinel], laidTests := true, laidLooks := .later }
def FnOutAgainUptoCardSaid : Prop := Claim7.holds Tryz.pinned (.plain (OpenSpec.upto fnOutAgainSpec)) fnOutAgainUptoCard

/-- THE SECOND FORM's CARD OF 'laws.FnOutTwice'. -/
def fnOutTwiceUptoCard : Claim7 := { stood := { row := fnOutTwiceUptoRow, standIns := [], harness := (true, "7cd380f80eb8235a605f635c53a58dd0925be89fd42ad3a0cfc5f27599a89d18"), looks := true }, kinds := [], alts := [], laidByText := true, laidKinds := [.data, .data, .data, .sentinel, .sentinel], laidTests := true, laidLooks := .later }
def FnOutTwiceUptoCardSaid : Prop := Claim7.holds Tryz.pinned (.plain (OpenSpec.upto fnOutTwiceSpec)) fnOutTwiceUptoCard

/-- THE SECOND FORM's CARD OF 'laws.FnTextIn'. -/
def fnTextInUptoCard : Claim7 := { stood := { row := fnTextInUptoRow, standIns := [], harness := (true, "7cd380f80eb8235a605f635c53a58dd0925be89fd42ad3a0cfc5f27599a89d18"), looks := true }, kinds := [], alts := [], laidByText := true, laidKinds := [.data, .data, .data, .sentinel, .sentinel], laidTests := true, laidLooks := .later }
def FnTextInUptoCardSaid : Prop := Claim7.holds Tryz.pinned (.plain (OpenSpec.upto fnTextInSpec)) fnTextInUptoCard

/-- THE SECOND FORM's CARD OF 'laws.FnTextHides'. -/
def fnTextHidesUptoCard : Claim7 := { stood := { row := fnTextHidesUptoRow, standIns := [], harness := (true, "7cd380f80eb8235a605f635c53a58dd0925be89fd42ad3a0cfc5f27599a89d18"), looks := true }, kinds := [], alts := [], laidByText := true, laidKinds := [.data, .data, .data, .sentinel, .sentinel], laidTests := true, laidLooks := .later }
def FnTextHidesUptoCardSaid : Prop := Claim7.holds Tryz.pinned (.plain (OpenSpec.upto fnTextHidesSpec)) fnTextHidesUptoCard

/-- THE SECOND FORM's CARD OF 'laws.FnInMore'. -/
def fnInMoreUptoCard : Claim7 := { stood := { row := fnInMoreUptoRow, standIns := [], harness := (true, "7cd380f80eb8235a605f635c53a58dd0925be89fd42ad3a0cfc5f27599a89d18"), looks := true }, kinds := [], alts := [], laidByText := true, laidKinds := [.data, .data, .data, .sentinel, .sentinel], laidTests := true, laidLooks := .later }
def FnInMoreUptoCardSaid : Prop := Claim7.holds Tryz.pinned (.plain (OpenSpec.upto fnInMoreSpec)) fnInMoreUptoCard

/-- THE SECOND FORM's CARD OF 'laws.FnTextStep'. -/
def fnTextStepUptoCard : Claim7 := { stood := { row := fnTextStepUptoRow, standIns := [], harness := (true, "7cd380f80eb8235a605f635c53a58dd0925be89fd42ad3a0cfc5f27599a89d18"), looks := true }, kinds := [], alts := [], laidByText := true, laidKinds := [.data, .data, .data, .sentinel, .sentinel], laidTests := true, laidLooks := .later }
def FnTextStepUptoCardSaid : Prop := Claim7.holds Tryz.pinned (.plain (OpenSpec.upto fnTextStepSpec)) fnTextStepUptoCard

/-- THE SECOND FORM's CARD OF 'laws.FnOutLong'. -/
def fnOutLongUptoCard : Claim7 := { stood := { row := fnOutLongUptoRow, standIns := [], harness := (true, "7cd380f80eb8235a605f635c53a58dd0925be89fd42ad3a0cfc5f27599a89d18"), looks := true }, kinds := [], alts := [], laidByText := true, laidKinds := [.data, .data, .data, .sentinel, .sentinel], laidTests := true, laidLooks := .later }
def FnOutLongUptoCardSaid : Prop := Claim7.holds Tryz.pinned (.plain (OpenSpec.upto fnOutLongSpec)) fnOutLongUptoCard

/-- THE SECOND FORM's CARD OF 'laws.FnTextThere'. -/
def fnTextThereUptoCard : Claim7 := { stood := { row := fnTextThereUptoRow, standIns := [], harness := (true, "7cd380f80eb8235a605f635c53a58dd0925be89fd42ad3a0cfc5f27599a89d18"), looks := true }, kinds := [], alts := [], laidByText := true, laidKinds := [.data, .data, .data, .sentinel, .sentinel], laidTests := true, laidLooks := .later }
def FnTextThereUptoCardSaid : Prop := Claim7.holds Tryz.pinned (.plain (OpenSpec.upto fnTextThereSpec)) fnTextThereUptoCard
end Rows
end Go.Proofs.YtijompkonaiagaaGreatDoor
