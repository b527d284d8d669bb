/-
  DERIVED. GIVEN WITH THE SEED: THE CARDS: each row of YtijompkonaiagaaDoorRows.lean that lists a variable, with what it lists TIED to the program's text (the seventh form; the later family's looks); each row that meets fmt, with fmt's text TOLD by the authors' own Lean function (tested against real Go, not proved from fmt's source: count such statements apart). THE CARD IS WHAT COUNTS. Prove the row's statement (the work); the ties are given (YtijompkonaiagaaDoorTie.lean); close each card by the builder's one call (the guide's Derived/Test/ToyasCard.lean, 'card_holds'). Laid BY PROGRAM, IN A SANDBOX (cutbox-door.mjs). By AI agents, Wed Nov 11 2026. No macro, syntax, notation, axiom, sorry.
-/
import Derived.Test.YtijompkonaiagaaDoorRows
import GoSem.ClaimSeven
namespace Go.Proofs.YtijompkonaiagaaDoor
namespace Rows

/-- THE TIED CARD OF 'laws.FnConvNew'. -/
def fnConvNewCard : Claim7 := { stood := { row := fnConvNewRow, standIns := [], harness := (true, "324ae4e326a67434398444b83f10cfaf21e580e3ed598b6ed0cd3e6c1affb115"), looks := true }, kinds := [], alts := [], laidByText := true, laidKinds := [.data, .data, .data, .sentinel, .sentinel], laidTests := true, laidLooks := .later }
def FnConvNewCardSaid : Prop := Claim7.holds Tryd.pinned (.plain (OpenSpec.ofChange fnConvNewSpec)) fnConvNewCard

/-- THE SECOND FORM's CARD OF 'laws.FnConvNew'. -/
def fnConvNewUptoCard : Claim7 := { stood := { row := fnConvNewUptoRow, standIns := [], harness := (true, "324ae4e326a67434398444b83f10cfaf21e580e3ed598b6ed0cd3e6c1affb115"), looks := true }, kinds := [], alts := [], laidByText := true, laidKinds := [.data, .data, .data, .sentinel, .sentinel], laidTests := true, laidLooks := .later }
def FnConvNewUptoCardSaid : Prop := Claim7.holds Tryd.pinned (.plain (OpenSpec.upto fnConvNewSpec)) fnConvNewUptoCard
end Rows
end Go.Proofs.YtijompkonaiagaaDoor
