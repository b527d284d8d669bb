/- How much of a stream's text so much of what went on is; what the laws FnPutHeld, FnPutParts, FnPutTwice say, plainly. -/
import Derived.Test.YtfjbjiklohjodaaGreatDoorByTwice2
namespace Go.Proofs.YtfjbjiklohjodaaGreatDoor.Q
open Go Go.RowKit Go.Proofs.YtfjbjiklohjodaaGreatDoorW.PrintWords Go.Proofs.YtfjbjiklohjodaaGreatDoorW.PrintMore Go.Proofs.YtfjbjiklohjodaaGreatDoor.Z
set_option linter.unusedVariables false
set_option linter.unusedSimpArgs false
section
variable {w : World} {A A2 : Option Addr} {c c2 : Nat} {L L1 : List S111} {l l1 : ByteArray} {P P1 : List S109} {a : Int} {x : ByteArray} {out ok : Bool}
theorem putF_case (hR : putF L l P a x out = (L1, l1, P1, true)) : mapOkB (L.map prOf) = true ∧ stOkB (bl l) (P.map spOf) = true ∧ textOk (bl x) = true ∧ (0 ≤ a ∧ a ≤ 40) := by
  unfold putF at hR
  rcases putAll_cases (m := L.map prOf) (l := bl l) (ps := P.map spOf) (a := a) (x := bl x) (out := out) with ⟨h1, h2, h3, h4, _⟩ | h5
  · exact ⟨h1, h2, h3, h4⟩
  · rw [h5] at hR
    simp only [Prod.mk.injEq] at hR
    exact absurd hR.2.2.2 (by decide)
theorem putF_ok (hR : putF L l P a x out = (L1, l1, P1, true)) : stOkB (bl l1) (P1.map spOf) = true ∧ mapOkB (L1.map prOf) = true ∧ a ≤ (l.size : Int) ∧ a + (x.size : Int) ≤ 40 ∧ a + (x.size : Int) ≤ (l1.size : Int) := by
  obtain ⟨hm, hs, hx, ha⟩ := putF_case hR
  obtain ⟨⟨m, l', ps, ok'⟩, hR2⟩ : ∃ R, putS (L.map prOf) (bl l) (P.map spOf) a (bl x) out = R := ⟨_, rfl⟩
  unfold putF at hR
  rw [putAll_ok hm hs hx ha, hR2] at hR
  simp only [Prod.mk.injEq] at hR
  obtain ⟨rfl, rfl, rfl, rfl⟩ := hR
  have hP := putS_ok (out := out) hm (stOkB_iff.1 hs) hx ha.1 hR2
  obtain ⟨e1, e2, e3⟩ := hP.2.2.2.2.1 rfl
  rw [bl_len, bl_len] at e1
  rw [bl_len] at e2 e3
  refine ⟨by rw [sps_of_to]; exact stOkB_iff.2 hP.2.1, by rw [prs_of_to]; exact hP.1.1, by omega, by omega, ?_⟩
  have e4 : ((mkB l').size : Int) = max (l.size : Int) (a + (x.size : Int)) := e1
  omega
end
end Go.Proofs.YtfjbjiklohjodaaGreatDoor.Q
