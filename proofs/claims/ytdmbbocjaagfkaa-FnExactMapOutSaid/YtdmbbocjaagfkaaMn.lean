/- Marks written through a row of pairs, and asked for again. -/
import Derived.Test.YtdmbbocjaagfkaaMf
namespace Go.Proofs.Ytdmbbocjaagfkaa.Z
open Go.RowKit Go.Proofs.YtdmbbocjaagfkaaW.PrintWords
set_option linter.unusedVariables false
set_option linter.unusedSimpArgs false
attribute [local go_sem ↓] Go.wp_at_zero Go.wp_at_succ
attribute [local go_sem high] eqEn eqPr

/-- The mark of pair number i, marks beginning with k. -/
def mkPr (k : Int) (i : Nat) : Pr := ⟨k + 3 * i, ⟨k + 3 * i + 1, k + 3 * i + 1 + 1⟩⟩
/-- The first j pairs are marked. -/
def marked (m : List Pr) (k : Int) (j : Nat) : List Pr := (List.range j).map (mkPr k) ++ m.drop j
theorem marked_len (m : List Pr) (k : Int) (j : Nat) (h : j ≤ m.length) : (marked m k j).length = m.length := by simp [marked]; omega
theorem marked_zero (m : List Pr) (k : Int) : marked m k 0 = m := by simp [marked]
theorem marked_set (m : List Pr) (k : Int) (j : Nat) (h : j < m.length) : (marked m k j).set j (mkPr k j) = marked m k (j + 1) := by
  unfold marked
  rw [List.set_append_right _ _ (by simp), List.length_map, List.length_range, Nat.sub_self, List.drop_eq_getElem_cons h, List.set_cons_zero, List.range_succ]
  simp
theorem marked_all_get (m : List Pr) (k : Int) (i : Nat) (h : i < m.length) : (marked m k m.length).getD i zPr = mkPr k i := by
  simp [marked, List.getD_eq_getElem?_getD, h]

set_option maxHeartbeats 1000000 in
theorem laws_markPairS (A : Option Addr) (n c c' : Nat) (m : List Pr) (k0 : Int) (base : Nat) (w : World) (hR : Kd.R kPr 34 w base (fun _ => True) (.slice A n c) m) (hk : 0 ≤ k0 ∧ k0 ≤ 1) (hn : n ≤ 1099511627776) :
    Calls Try.prog 28 #[.slice A n c', .int .i64 k0] w fun r w' => r = .returned (.int .i64 (k0 + 3 * n)) ∧ Kd.R kPr 34 w' base (fun _ => True) (.slice A n c) (marked m k0 n) ∧ (∀ q, (∀ ad, A = some ad → q ≠ ad.block) → w'.heap[q]? = w.heap[q]?) ∧ Below base w w' := by
  obtain rfl : n = m.length := (Kd.R_reads' hR).1
  have HR := Aside0.mk hR; clear hR
  go_enter Try.func28, Try.ntmps28
  go_wp2
  go_loopw [5, 1] (fun i x w' => ∃ k : Nat, k ≤ m.length ∧ i = .int .i64 k ∧ x = .int .i64 (k0 + 3 * k) ∧ Aside0 (Kd.R kPr 34 w' base (fun _ => True) (.slice A m.length c) (marked m k0 k)) ∧ Aside0 (∀ q, (∀ ad, A = some ad → q ≠ ad.block) → w'.heap[q]? = w.heap[q]?) ∧ Below base w w') (fun i x _ => m.length - (intOf i).toNat)
  case atStart => exact ⟨0, Nat.zero_le _, rfl, by simp, ⟨by rw [marked_zero]; exact HR.out⟩, ⟨fun _ _ => rfl⟩, Below.refl _ _⟩
  case round =>
    obtain ⟨k, hk2, rfl, rfl, HO, HF, hb⟩ := hrel
    by_cases hlt : k < m.length
    · have hl := marked_len m k0 k hk2
      obtain ⟨g, cap, hv, hg1, hg2, _⟩ := Kd.R_form HO.out (by omega)
      obtain ⟨rfl, -, rfl⟩ : A = some ⟨g, 0, none⟩ ∧ m.length = (marked m k0 k).length ∧ c = cap := by injection hv with a b c; exact ⟨a, b, c⟩
      obtain ⟨q, x0, x1, x2, f0, f1, f2, hq, HP⟩ := put_Pr HO.out k hlt (mkPr k0 k)
      rw [marked_set m k0 k hlt] at HP
      clear hl hv
      have s0 : k0 + 3 * (k : Int) + 1 ≤ 9223372036854775807 := by omega
      have s1 : k0 + 3 * (k : Int) + 1 + 1 ≤ 9223372036854775807 := by omega
      have s2 : k0 + 3 * (k : Int) + 1 + 1 + 1 ≤ 9223372036854775807 := by omega
      go_wp2
      go_roundw
      case rel =>
        refine ⟨k + 1, by omega, by go_num, by congr 1; omega, ⟨HP.out⟩, ⟨fun q hq => ?_⟩, ((hb.setCell hg1 _).setCell hg1 _).setCell hg1 _⟩
        have hne : q ≠ g := hq _ rfl
        rw [Below.heap_setCell _ _ _ q hne, Below.heap_setCell _ _ _ q hne, Below.heap_setCell _ _ _ q hne]
        exact HF.out q hq
      case measure => simp [intOf]; omega
    · obtain rfl : k = m.length := by omega
      go_wp2
      go_ret
      exact ⟨rfl, HO.out, HF.out, hb⟩

set_option maxHeartbeats 1000000 in
theorem laws_heldPairS (A : Option Addr) (n c : Nat) (m : List Pr) (k0 : Int) (w : World) (hC : Kd.C kPr w A n m) (hm : ∀ i, i < n → m.getD i zPr = mkPr k0 i) (hk : 0 ≤ k0 ∧ k0 ≤ 1) (hn : n ≤ 1099511627776) :
    Calls Try.prog 29 #[.slice A n c, .int .i64 k0] w fun r w' => r = .returned (.int .i64 (k0 + 3 * n)) ∧ w' = w := by
  have HC := Aside0.mk hC; clear hC
  have HM := Aside0.mk hm; clear hm
  go_enter Try.func29, Try.ntmps29
  go_wp2
  go_loopw [5, 1] (fun i x w' => ∃ k : Nat, k ≤ n ∧ i = .int .i64 k ∧ x = .int .i64 (k0 + 3 * k) ∧ w' = w) (fun i x _ => n - (intOf i).toNat)
  case atStart => exact ⟨0, Nat.zero_le _, rfl, by simp, rfl⟩
  case round =>
    obtain ⟨k, hk2, rfl, rfl, rfl⟩ := hrel
    by_cases hlt : k < n
    · obtain ⟨ad, p, hA, hp, dL, d0, d1, d2⟩ := at_Pr HC.out k hlt
      cases hA
      obtain rfl : p = mkPr k0 k := hp.out.symm.trans (HM.out k hlt)
      simp only [mkPr] at d0 d1 d2
      clear hp
      have s0 : k0 + 3 * (k : Int) + 1 ≤ 9223372036854775807 := by omega
      have s1 : k0 + 3 * (k : Int) + 1 + 1 ≤ 9223372036854775807 := by omega
      have s2 : k0 + 3 * (k : Int) + 1 + 1 + 1 ≤ 9223372036854775807 := by omega
      go_wp2
      go_roundw
      case rel => exact ⟨k + 1, by omega, by go_num, by congr 1; omega, trivial⟩
      case measure => simp [intOf]; omega
    · obtain rfl : k = n := by omega
      go_wp2
      go_ret
      exact ⟨rfl, rfl⟩
end Go.Proofs.Ytdmbbocjaagfkaa.Z
