/- What is held of a text, and texts over maps: the laws of texts, plainly. -/
import Derived.Test.YtfjbjiklohjodaaGreatDoorBp6
namespace Go.Proofs.YtfjbjiklohjodaaGreatDoor.Q
open Go.RowKit Go.Proofs.YtfjbjiklohjodaaGreatDoorW.PrintWords Go.Proofs.YtfjbjiklohjodaaGreatDoor.Z
set_option linter.unusedVariables false
set_option linter.unusedSimpArgs false
theorem textOk_take {s : List UInt8} (h : textOk s = true) (a : Nat) : textOk (s.take a) = true := by
  rw [textOk_iff] at h ⊢
  refine ⟨?_, by rw [List.length_take]; omega⟩
  rw [List.all_eq_true] at h ⊢
  exact fun c hc => h.1 c (List.mem_of_mem_take hc)
theorem textOk_drop {s : List UInt8} (h : textOk s = true) (a : Nat) : textOk (s.drop a) = true := by
  rw [textOk_iff] at h ⊢
  refine ⟨?_, by rw [List.length_drop]; omega⟩
  rw [List.all_eq_true] at h ⊢
  exact fun c hc => h.1 c (List.mem_of_mem_drop hc)
end Go.Proofs.YtfjbjiklohjodaaGreatDoor.Q
