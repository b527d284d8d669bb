/- Texts as names and single bytes: how they go in and out over a map, plainly. -/
import Derived.Test.YtfjbjiklohjodaaGreatDoorBp6
namespace Go.Proofs.YtfjbjiklohjodaaGreatDoor.Q
open Go.RowKit Go.Proofs.YtfjbjiklohjodaaGreatDoorW.PrintWords Go.Proofs.YtfjbjiklohjodaaGreatDoor.Z
set_option linter.unusedVariables false
set_option linter.unusedSimpArgs false
theorem outToks_append : ∀ (A B : List Tok) (m : List Pr), outToks m (A ++ B) = ((outToks (outToks m A).1 B).1, (outToks m A).2 ++ (outToks (outToks m A).1 B).2)
  | [], B, m => rfl
  | t :: A, B, m => by
    simp only [List.cons_append, outToks]
    rw [outToks_append A B]
end Go.Proofs.YtfjbjiklohjodaaGreatDoor.Q
