/- The closed facts of the row of FnPutTwice. -/
import Derived.Test.YtfjbjiklohjodaaGreatDoorRows
import Derived.Test.YtfjbjiklohjodaaGreatDoorBp6
import Derived.Stop.Joined
import Derived.WalkKit
import Derived.ProofKit
namespace Go.Proofs.YtfjbjiklohjodaaGreatDoor.fnPutTwice
open Go.ChangeShapes Go.WideShapes Go.ChangeAt Go.RowKit
set_option maxHeartbeats 8000000 in
set_option maxRecDepth 100000 in
theorem jf : joinedFacts Tryz.pinned.checked.prog 7 Tryz.f7 Rows.fnPutTwiceSpec Rows.fnPutTwiceRow = true := by
  unfold joinedFacts
  repeat' (with_reducible refine Bool.and_eq_true_iff.2 ⟨?_, ?_⟩)
  all_goals (as_aux_lemma => kernel_rfl)
end Go.Proofs.YtfjbjiklohjodaaGreatDoor.fnPutTwice
