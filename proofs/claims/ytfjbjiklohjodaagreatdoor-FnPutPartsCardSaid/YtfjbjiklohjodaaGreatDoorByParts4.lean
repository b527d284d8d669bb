/- Streams, plainly: what a text put to a stream makes of it. -/
import Derived.Test.YtfjbjiklohjodaaGreatDoorByParts3
namespace Go.Proofs.YtfjbjiklohjodaaGreatDoor.Q
open Go.RowKit Go.Proofs.YtfjbjiklohjodaaGreatDoorW.PrintWords Go.Proofs.YtfjbjiklohjodaaGreatDoor.Z
set_option linter.unusedVariables false
set_option linter.unusedSimpArgs false
theorem made_append : ∀ {T U : List Tok} (T2 U2 : List Tok), T.length = U.length → made (T ++ T2) (U ++ U2) = made T U ++ made T2 U2
  | [], [], _, _, _ => rfl
  | t :: T, u :: U, T2, U2, h => by
    show _ :: made (T ++ T2) (U ++ U2) = _ :: (made T U ++ made T2 U2)
    rw [made_append T2 U2 (by simpa using h)]
  | [], _ :: _, _, _, h => by simp at h
  | _ :: _, [], _, _, h => by simp at h
theorem goTok_append (out : Bool) (m : List Pr) (A B : List Tok) : goTok out m (A ++ B) = ((goTok out (goTok out m A).1 B).1, (goTok out m A).2 ++ (goTok out (goTok out m A).1 B).2) := by
  unfold goTok
  cases out
  · simp
  · simp only [if_true]
    exact outToks_append A B m
theorem put_parts {m y : List Pr} {l lu : List UInt8} {ps pu : List Sp} {a : Int} {x : List UInt8} {out : Bool} {k : Nat} (hm : mapOkB m = true) (hs : stOk l ps) (hx : textOk x = true) (h0 : 0 ≤ a) (hk : k ≤ x.length) (h1 : a ≤ (l.length : Int)) (h2 : a + (x.length : Int) ≤ 40)
    {ok : Bool} (hu : putS m l ps a (x.take k) out = (y, lu, pu, ok)) : ok = true ∧ putS y lu pu (a + (k : Int)) (x.drop k) out = putS m l ps a x out := by
  have hkl : (x.take k).length = k := by rw [List.length_take]; omega
  have hdl : (x.drop k).length = x.length - k := List.length_drop
  by_cases c : a + (k : Int) ≤ (l.length : Int)
  · rw [putS_old h1 (by omega) (by omega)] at hu
    simp only [Prod.mk.injEq] at hu
    obtain ⟨rfl, rfl, rfl, rfl⟩ := hu
    refine ⟨rfl, ?_⟩
    by_cases c2 : a + (x.length : Int) ≤ (l.length : Int)
    · rw [putS_old h1 h2 c2, putS_old (by omega) (by omega) (by omega)]
    · have e : (x.drop k).drop (l.length - (a + (k : Int)).toNat) = x.drop (l.length - a.toNat) := by rw [List.drop_drop]; congr 1; omega
      obtain ⟨B, hB⟩ := toks_ext l (x.drop (l.length - a.toNat))
      rw [putS_new h1 h2 c2 hB hs.2, putS_new (by omega) (by omega) (by omega) (by rw [e]; exact hB) hs.2, e]
  · obtain ⟨B, hB⟩ := toks_ext l ((x.take k).drop (l.length - a.toNat))
    have hn := new_len (l := l) (x := x.take k) h0 h1 (by omega)
    rw [putS_new h1 (by omega) (by omega) hB hs.2] at hu
    simp only [Prod.mk.injEq] at hu
    obtain ⟨rfl, rfl, rfl, rfl⟩ := hu
    refine ⟨rfl, ?_⟩
    have hs' : fit (ps ++ made B (goTok out m B).2) (toks (body (l ++ (x.take k).drop (l.length - a.toNat)))) := by
      have := putS_ok hm hs (textOk_take hx k) h0 (putS_new (out := out) (m := m) (ps := ps) h1 (by omega) (by omega) hB hs.2)
      exact this.2.1.2
    have ea : l ++ (x.take k).drop (l.length - a.toNat) ++ x.drop k = l ++ x.drop (l.length - a.toNat) := by
      rw [List.append_assoc]
      congr 1
      have h9 : x.drop (l.length - a.toNat) = (x.take k ++ x.drop k).drop (l.length - a.toNat) := by rw [List.take_append_drop]
      rw [h9, List.drop_append_of_le_length (by omega)]
    by_cases c3 : k = x.length
    · have e0 : x.drop k = [] := by rw [c3, List.drop_length]
      rw [e0] at hdl ea ⊢
      rw [List.append_nil] at ea
      rw [putS_old (by omega) (by rw [List.length_nil]; omega) (by rw [List.length_nil]; omega)]
      rw [putS_new h1 h2 (by omega) (B := B) (by rw [← ea]; exact hB) hs.2, ← ea]
    · have e : (x.drop k).drop ((l ++ (x.take k).drop (l.length - a.toNat)).length - (a + (k : Int)).toNat) = x.drop k := by
        rw [show (l ++ (x.take k).drop (l.length - a.toNat)).length - (a + (k : Int)).toNat = 0 from by omega, List.drop_zero]
      obtain ⟨C, hC⟩ := toks_ext (l ++ (x.take k).drop (l.length - a.toNat)) (x.drop k)
      have hC2 : toks (body (l ++ x.drop (l.length - a.toNat))) = toks (body l) ++ (B ++ C) := by rw [← ea, hC, hB, List.append_assoc]
      rw [putS_new (by omega) (by omega) (by omega) (by rw [e]; exact hC) hs', e, ea, putS_new h1 h2 (by omega) hC2 hs.2, goTok_append, made_append _ _ (goTok_len out m B).symm, List.append_assoc]
end Go.Proofs.YtfjbjiklohjodaaGreatDoor.Q
