/- What is put in two parts, and what is put again, plainly. -/
import Derived.Test.YtfjbjiklohjodaaGreatDoorByTwice3
namespace Go.Proofs.YtfjbjiklohjodaaGreatDoor.Q
open Go Go.RowKit Go.Proofs.YtfjbjiklohjodaaGreatDoorW.PrintWords Go.Proofs.YtfjbjiklohjodaaGreatDoorW.PrintMore Go.Proofs.YtfjbjiklohjodaaGreatDoor.Z
set_option linter.unusedVariables false
set_option linter.unusedSimpArgs false
section
variable {w : World} {A A2 : Option Addr} {c c2 : Nat} {L L1 : List S111} {l l1 : ByteArray} {P P1 : List S109} {a : Int} {x : ByteArray} {out ok : Bool}
theorem putF_old (hs : stOkB (bl l) (P.map spOf) = true) (hm : mapOkB (L.map prOf) = true) (hx : textOk (bl x) = true) (ha : 0 ≤ a ∧ a + (x.size : Int) ≤ 40 ∧ a + (x.size : Int) ≤ (l.size : Int)) : putF L l P a x out = (L, l, P, true) := by
  unfold putF
  rw [putAll_ok hm hs hx ⟨ha.1, by omega⟩, putS_old (by rw [bl_len]; omega) (by rw [bl_len]; omega) (by rw [bl_len, bl_len]; omega)]
  simp only [prs_to_of, sps_to_of, mkB_bl]
theorem putF_again {j : Nat} (hR : putF L l P a x out = (L1, l1, P1, true)) (hj : j ≤ x.size) : putF L1 l1 P1 a x out = (L1, l1, P1, true) ∧ putF L1 l1 P1 a (x.extract 0 j) out = (L1, l1, P1, true) ∧ putF L1 l1 P1 (a + (j : Int)) (x.extract j x.size) out = (L1, l1, P1, true) := by
  obtain ⟨_, _, hx, ha⟩ := putF_case hR
  obtain ⟨h3, h4, h5, h6, h7⟩ := putF_ok hR
  have e1 : bl (x.extract 0 j) = (bl x).take j := by rw [bl_extract]; simp
  have e2 : bl (x.extract j x.size) = (bl x).drop j := by rw [bl_extract]; exact List.take_of_length_le (by rw [List.length_drop, bl_len]; exact Nat.le_refl _)
  have s1 : (x.extract 0 j).size = j := by rw [ByteArray.size_extract]; omega
  have s2 : (x.extract j x.size).size = x.size - j := by rw [ByteArray.size_extract]; omega
  exact ⟨putF_old h3 h4 hx ⟨ha.1, h6, h7⟩, putF_old h3 h4 (by rw [e1]; exact textOk_take hx j) ⟨ha.1, by omega, by omega⟩, putF_old h3 h4 (by rw [e2]; exact textOk_drop hx j) ⟨by omega, by omega, by omega⟩⟩
end
end Go.Proofs.YtfjbjiklohjodaaGreatDoor.Q
