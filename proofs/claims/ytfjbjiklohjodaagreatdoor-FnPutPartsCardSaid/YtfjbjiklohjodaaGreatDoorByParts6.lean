/- What is put in two parts, and what is put again, plainly. -/
import Derived.Test.YtfjbjiklohjodaaGreatDoorByParts5
namespace Go.Proofs.YtfjbjiklohjodaaGreatDoor.Q
open Go Go.RowKit Go.Proofs.YtfjbjiklohjodaaGreatDoorW.PrintWords Go.Proofs.YtfjbjiklohjodaaGreatDoorW.PrintMore Go.Proofs.YtfjbjiklohjodaaGreatDoor.Z
set_option linter.unusedVariables false
set_option linter.unusedSimpArgs false
section
variable {w : World} {A A2 : Option Addr} {c c2 : Nat} {L L1 : List S111} {l l1 : ByteArray} {P P1 : List S109} {a : Int} {x : ByteArray} {out ok : Bool}
theorem putF_parts {j : Nat} (hR : putF L l P a x out = (L1, l1, P1, true)) (hj : j ≤ x.size) : ∃ L2 l2 P2, putF L l P a (x.extract 0 j) out = (L2, l2, P2, true) ∧ putF L2 l2 P2 (a + (j : Int)) (x.extract j x.size) out = (L1, l1, P1, true) := by
  obtain ⟨hm, hs, hx, ha⟩ := putF_case hR
  obtain ⟨_, _, h1, h2, _⟩ := putF_ok hR
  obtain ⟨⟨y, lu, pu, ok'⟩, hu⟩ : ∃ R, putS (L.map prOf) (bl l) (P.map spOf) a ((bl x).take j) out = R := ⟨_, rfl⟩
  have hP := putS_ok (out := out) hm (stOkB_iff.1 hs) (textOk_take hx j) ha.1 hu
  obtain ⟨rfl, h9⟩ := put_parts hm (stOkB_iff.1 hs) hx ha.1 (by rw [bl_len]; exact hj) (by rw [bl_len]; exact h1) (by rw [bl_len]; exact h2) hu
  have e1 : bl (x.extract 0 j) = (bl x).take j := by rw [bl_extract]; simp
  have e2 : bl (x.extract j x.size) = (bl x).drop j := by rw [bl_extract]; exact List.take_of_length_le (by rw [List.length_drop, bl_len]; exact Nat.le_refl _)
  refine ⟨y.map prTo, mkB lu, pu.map spTo, ?_, ?_⟩
  · unfold putF
    rw [e1, putAll_ok hm hs (textOk_take hx j) ha, hu]
  · have e3 : bl (mkB lu) = lu := rfl
    have e4 : putF (y.map prTo) (mkB lu) (pu.map spTo) (a + (j : Int)) (x.extract j x.size) out = putF L l P a x out := by
      unfold putF
      rw [e2, prs_of_to, sps_of_to, e3, putAll_ok hP.1.1 (stOkB_iff.2 hP.2.1) (textOk_drop hx j) ⟨by omega, by omega⟩, h9, putAll_ok hm hs hx ha]
    rw [e4]
    exact hR
end
end Go.Proofs.YtfjbjiklohjodaaGreatDoor.Q
