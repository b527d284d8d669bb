/- What MapOut's answer is like, plainly. -/
import Derived.Test.YtdmbbocjaagfkaaMl
import Derived.Test.YtdmbbocjaagfkaaMh
namespace Go.Proofs.Ytdmbbocjaagfkaa.Z
open Go.RowKit Go.Proofs.YtdmbbocjaagfkaaW.PrintWords
set_option linter.unusedVariables false

theorem mapOkB_getD {m : List Pr} (h : mapOkB m = true) (k : Nat) (hk : k < m.length) : (m.getD k zPr).port = 10 + k := ((mapOkB_iff.1 h).1 k hk).1
theorem mapOutF_some {m L : List Pr} {e : En} {pt : Int} (h : mapOutF m e = (L, pt, true)) : mapOkB m = true ∧ insideB e = true ∧ outS m e = (L, pt, true) := by
  unfold mapOutF at h
  split at h
  · rename_i h2
    rw [Bool.and_eq_true] at h2
    exact ⟨h2.1, h2.2, h⟩
  · simp at h
theorem mapOutF_of {m : List Pr} {e : En} (h : mapOkB m = true) (hi : insideB e = true) : mapOutF m e = outS m e := by
  unfold mapOutF; rw [h, hi]; rfl
theorem outAt_some {m : List Pr} {e : En} {p : Pr} (h : outAt m e 0 = some p) : p.inside = e ∧ ∃ k, k < m.length ∧ m.getD k zPr = p := by
  have h1 : m.find? (fun p => decide (p.inside = e)) = some p := h
  refine ⟨by simpa using List.find?_some h1, ?_⟩
  obtain ⟨k, hk, hp⟩ := List.getElem_of_mem (List.mem_of_find?_eq_some h1)
  exact ⟨k, hk, by rw [List.getD_eq_getElem?_getD, List.getElem?_eq_getElem hk]; exact hp⟩
theorem outAt_none {m : List Pr} {e : En} (h : outAt m e 0 = none) : ∀ p ∈ m, p.inside ≠ e := by
  have h1 : m.find? (fun p => decide (p.inside = e)) = none := h
  intro p hp
  simpa using List.find?_eq_none.1 h1 p hp
theorem l3InO_at {m : List Pr} (k : Nat) (hk : k < m.length) : l3InO m (10 + k) = some (m.getD k zPr).inside := by
  unfold l3InO
  rw [if_pos (by omega)]
  rw [show ((10 : Int) + k - 10).toNat = k from by omega]
/-- The pairs with one more. -/
theorem mapOkB_snoc {m : List Pr} {e : En} (h : mapOkB m = true) (hi : insideB e = true) (hl : ¬ 7 < m.length) (hn : outAt m e 0 = none) : mapOkB (m ++ [⟨10 + m.length, e⟩]) = true := by
  obtain ⟨h1, h2⟩ := mapOkB_iff.1 h
  have hlt : ∀ i, i < m.length → (m ++ [(⟨10 + m.length, e⟩ : Pr)]).getD i zPr = m.getD i zPr := fun i hi => by
    rw [List.getD_eq_getElem?_getD, List.getElem?_append_left hi, List.getD_eq_getElem?_getD]
  have heq : (m ++ [(⟨10 + m.length, e⟩ : Pr)]).getD m.length zPr = ⟨10 + m.length, e⟩ := by
    rw [List.getD_eq_getElem?_getD, List.getElem?_append_right (Nat.le_refl _)]; simp
  refine mapOkB_iff.2 ⟨fun i hi2 => ?_, by simp; omega⟩
  rw [List.length_append, List.length_singleton] at hi2
  rcases Nat.lt_or_ge i m.length with h3 | h3
  · obtain ⟨g1, g2, g3⟩ := h1 i h3
    exact ⟨by rw [hlt i h3]; exact g1, by rw [hlt i h3]; exact g2, fun j hj => by rw [hlt i h3, hlt j (by omega)]; exact g3 j hj⟩
  · obtain rfl : i = m.length := by omega
    refine ⟨by rw [heq], by rw [heq]; exact hi, fun j hj => ?_⟩
    rw [heq, hlt j hj, List.getD_eq_getElem?_getD, List.getElem?_eq_getElem hj]
    exact outAt_none hn _ (List.getElem_mem hj)
theorem mapOut_ok {m L : List Pr} {e : En} {pt : Int} (h : mapOutF m e = (L, pt, true)) :
    mapOkB L = true ∧ mapInO L pt = some e ∧ mapOutF L e = (L, pt, true) ∧ m.length ≤ L.length ∧ L.length ≤ m.length + 1 ∧ L.take m.length = m ∧ 10 ≤ pt ∧ pt ≤ 17 := by
  obtain ⟨hk, hi, ho⟩ := mapOutF_some h
  have h8 := (mapOkB_iff.1 hk).2
  rw [outS_of] at ho
  cases hf : outAt m e 0 with
  | some p =>
    rw [hf] at ho
    simp only [Prod.mk.injEq, and_true] at ho
    obtain ⟨rfl, rfl⟩ := ho
    obtain ⟨he, k, hkl, hp⟩ := outAt_some hf
    have hpp := mapOkB_getD hk k hkl
    rw [hp] at hpp
    refine ⟨hk, ?_, by rw [mapOutF_of hk hi, outS_of, hf], Nat.le_refl _, Nat.le_succ _, List.take_length, by omega, by omega⟩
    unfold mapInO
    rw [if_pos hk, hpp, l3InO_at k hkl, hp, he]
  | none =>
    rw [hf] at ho
    simp only at ho
    split at ho
    · simp at ho
    · rename_i h7
      simp only [Prod.mk.injEq, and_true] at ho
      obtain ⟨rfl, rfl⟩ := ho
      have hk2 := mapOkB_snoc hk hi h7 hf
      have heq : (m ++ [(⟨10 + m.length, e⟩ : Pr)]).getD m.length zPr = ⟨10 + m.length, e⟩ := by
        rw [List.getD_eq_getElem?_getD, List.getElem?_append_right (Nat.le_refl _)]; simp
      refine ⟨hk2, ?_, ?_, by simp, by simp, by simp, by omega, by omega⟩
      · unfold mapInO
        rw [if_pos hk2, l3InO_at m.length (by simp), heq]
      · rw [mapOutF_of hk2 hi, outS_of]
        have : outAt (m ++ [(⟨10 + m.length, e⟩ : Pr)]) e 0 = some ⟨10 + m.length, e⟩ := by
          show (m ++ [(⟨10 + m.length, e⟩ : Pr)]).find? _ = _
          rw [List.find?_append, show m.find? (fun p => decide (p.inside = e)) = none from hf]
          simp
        rw [this]
end Go.Proofs.Ytdmbbocjaagfkaa.Z
