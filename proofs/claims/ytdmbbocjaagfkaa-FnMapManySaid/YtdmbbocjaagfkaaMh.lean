/- Plain laws of maps: looked for, or told by its place, a port stands for the same end. -/
import Derived.Test.YtdmbbocjaagfkaaMg
namespace Go.Proofs.Ytdmbbocjaagfkaa.Z
open Go.RowKit Go.Proofs.YtdmbbocjaagfkaaW.PrintWords
set_option linter.unusedVariables false

/-- MapIn. -/
noncomputable def mapInO (m : List Pr) (port : Int) : Option En := if mapOkB m then l3InO m port else none
theorem insideFrom_skip {m : List Pr} {port : Int} (h : mapOk m) : ∀ j, j ≤ m.length → (∀ i, i < j → port ≠ 10 + i) → insideFrom m port 0 = insideFrom m port j := by
  intro j
  induction j with
  | zero => intro _ _; rfl
  | succ j ih =>
    intro hj hne
    rw [ih (by omega) (fun i hi => hne i (by omega))]
    exact insideFrom_miss (by omega) ⟨rfl⟩ (by rw [(h.1 j (by omega)).1]; exact fun e => hne j (by omega) e.symm)
theorem inside_eq {m : List Pr} {port : Int} (h : mapOk m) : insideFrom m port 0 = l3InO m port := by
  unfold l3InO
  by_cases hp : 10 ≤ port ∧ port - 10 < m.length
  · rw [if_pos hp]
    obtain ⟨k, hk⟩ : ∃ k : Nat, port = 10 + k := ⟨(port - 10).toNat, by omega⟩
    subst hk
    rw [insideFrom_skip h k (by omega) (fun i hi => by omega)]
    rw [insideFrom_hit (p := m.getD k zPr) (by omega) ⟨rfl⟩ (by rw [(h.1 k (by omega)).1])]
    congr 3
    omega
  · rw [if_neg hp, insideFrom_skip h m.length (Nat.le_refl _) (fun i hi => by omega), insideFrom_end m port m.length (Nat.le_refl _)]
theorem mapIn_eq (m : List Pr) (port : Int) : (if mapOkB m then insideFrom m port 0 else none) = mapInO m port := by
  unfold mapInO
  cases h : mapOkB m
  · rfl
  · simp only [if_true]
    exact inside_eq (mapOkB_iff.1 h)
end Go.Proofs.Ytdmbbocjaagfkaa.Z
