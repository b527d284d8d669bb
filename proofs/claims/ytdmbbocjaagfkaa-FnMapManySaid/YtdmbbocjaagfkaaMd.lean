/- Whether pairs are a map: the reference's MapOk; for which end a port stands: MapIn, program and reference. -/
import Derived.Test.YtdmbbocjaagfkaaMc
namespace Go.Proofs.Ytdmbbocjaagfkaa.Z
open Go.RowKit Go.Proofs.YtdmbbocjaagfkaaW.PrintWords
set_option linter.unusedVariables false
set_option linter.unusedSimpArgs false
attribute [local go_sem ↓] Go.wp_at_zero Go.wp_at_succ
attribute [local go_sem high] eqEn eqPr

set_option maxHeartbeats 2000000 in
theorem spec_MapOk (A : Option Addr) (n c : Nat) (m : List Pr) (w : World) (hC : Kd.C kPr w A n m) (hn : n ≤ 1099511627776) :
    Calls Try.prog 12 #[.slice A n c] w fun r w' => r = .returned (.bool (mapOkB m)) ∧ Below w.heap.size w w' := by
  obtain rfl : m.length = n := hC.1
  have HC := Aside0.mk hC; clear hC
  go_enter Try.func12, Try.ntmps12
  go_wp2
  go_loopw [3] (fun i w' => ∃ k : Nat, k ≤ m.length ∧ i = .int .i64 k ∧ Aside0 (okUpto m k) ∧ Below w.heap.size w w') (fun i _ => m.length - (intOf i).toNat)
  case atStart => exact ⟨0, Nat.zero_le _, rfl, ⟨fun i hi => absurd hi (Nat.not_lt_zero _)⟩, Below.refl _ _⟩
  case round =>
    obtain ⟨k, hk, rfl, HP, hb⟩ := hrel
    by_cases hlt : k < m.length
    · obtain ⟨ad, p, hA, hp, dL, d0, d1, d2⟩ := at_Pr (Kd.C_below HC.out hb) k hlt
      cases hA
      by_cases h1 : p.port = 10 + k
      · have t1 : (p.port == 10 + (k : Int)) = true := beq_iff_eq.2 h1
        have t2 : (p.port != 10 + (k : Int)) = false := by rw [bne_eq_false_iff_eq]; exact h1
        cases h2 : insideB p.inside
        · have HF := Aside0.mk (mapOkB_no hlt (fun hg => by have := hg.2.1; rw [hp.out, h2] at this; cases this))
          have H2 := Aside0.mk h2
          clear h1 h2
          go_wp2_with (go_at_call 25; refine (spec_EndInside p.inside _).mono ?_; rintro e w3 ⟨rfl, hb3⟩; rw [H2.out])
          go_ret
          exact ⟨ret_bool HF.out.symm, below_step hb hb3⟩
        · have H2 := Aside0.mk h2
          have HH := Aside0.mk (show p.port = 10 + (k : Int) ∧ insideB p.inside = true from ⟨h1, h2⟩)
          clear h1 h2
          go_wp2_with (go_at_call 25; refine (spec_EndInside p.inside _).mono ?_; rintro e w3 ⟨rfl, hb3⟩; rw [H2.out])
          replace hb := below_step hb hb3
          have D0 := (hb3.cell (World.block_lt_of_cell? _ _ d0)).trans d0
          have D1 := (hb3.cell (World.block_lt_of_cell? _ _ d1)).trans d1
          have D2 := (hb3.cell (World.block_lt_of_cell? _ _ d2)).trans d2
          clear d0 d1 d2 hb3 t1 t2
          obtain ⟨wo, rfl⟩ : ∃ wo : World, wo = w3 := ⟨_, rfl⟩
          go_loopw [4] (fun i w' => ∃ j : Nat, j ≤ k ∧ i = .int .i64 j ∧ Aside0 (∀ i, i < j → (m.getD i zPr).inside ≠ p.inside) ∧ Below wo.heap.size wo w') (fun i _ => k - (intOf i).toNat)
          case atStart => exact ⟨0, Nat.zero_le _, rfl, ⟨fun i hi => absurd hi (Nat.not_lt_zero _)⟩, Below.refl _ _⟩
          case round =>
            obtain ⟨j, hj, rfl, HJ, hb2⟩ := hrel
            have E0 := (hb2.cell (World.block_lt_of_cell? _ _ D0)).trans D0
            have E1 := (hb2.cell (World.block_lt_of_cell? _ _ D1)).trans D1
            have E2 := (hb2.cell (World.block_lt_of_cell? _ _ D2)).trans D2
            by_cases hjk : j < k
            · obtain ⟨ad2, q, hA2, hq, fL, f0, f1, f2⟩ := at_Pr (Kd.C_below HC.out (below_step hb hb2)) j (by omega)
              cases hA2
              have hj0 : (0 : Int) ≤ (j : Int) := Int.natCast_nonneg _
              have hj1 : (j : Int) < (m.length : Int) := by omega
              have hk0 : (0 : Int) ≤ (k : Int) := Int.natCast_nonneg _
              have hk1 : (k : Int) < (m.length : Int) := by omega
              by_cases he : q.inside = p.inside
              · have ht := En_beq he
                have HF := Aside0.mk (mapOkB_no hlt (fun hg => by have := hg.2.2 j hjk; rw [hp.out, hq.out] at this; exact this he))
                clear he
                go_wp2
                go_quiet (fail)
                go_wp2
                go_ret
                exact ⟨ret_bool HF.out.symm, below_step hb ((by repeat (first | (with_reducible exact hb2) | (with_reducible apply below_alloc) | (with_reducible apply pw_below_drewN) | (with_reducible apply below_drew1) | with_reducible refine below_set ?_ (by first | (with_reducible exact Nat.le_refl _) | (with_reducible assumption) | (simp; done) | omega))))⟩
              · have ht := En_bne he
                have HF := Aside0.mk (show ∀ i, i < j + 1 → (m.getD i zPr).inside ≠ p.inside from fun i hi => by
                  rcases Nat.lt_succ_iff_lt_or_eq.1 hi with h | h
                  · exact HJ.out i h
                  · subst h; rw [hq.out]; exact he)
                clear he
                go_wp2
                go_quiet (fail)
                go_wp2
                go_roundw
                case rel => exact ⟨j + 1, by omega, by go_num, HF, ((by repeat (first | (with_reducible exact hb2) | (with_reducible apply below_alloc) | (with_reducible apply pw_below_drewN) | (with_reducible apply below_drew1) | with_reducible refine below_set ?_ (by first | (with_reducible exact Nat.le_refl _) | (with_reducible assumption) | (simp; done) | omega))))⟩
                case measure => simp [intOf]; omega
            · have HF := Aside0.mk (okUpto_succ HP.out (show goodAt m k from ⟨by rw [hp.out]; exact HH.out.1, by rw [hp.out]; exact HH.out.2, fun i hi => by rw [hp.out]; exact HJ.out i (by omega)⟩))
              clear E0 E1 E2 D0 D1 D2
              go_wp2
              go_roundw
              case rel => exact ⟨k + 1, by omega, by go_num, HF, below_step hb hb2⟩
              case measure => simp [intOf]; omega
      · have t1 : (p.port == 10 + (k : Int)) = false := beq_eq_false_iff_ne.2 h1
        have t2 : (p.port != 10 + (k : Int)) = true := bne_iff_ne.2 h1
        have HF := Aside0.mk (mapOkB_no hlt (fun hg => h1 (by have := hg.1; rw [hp.out] at this; exact this)))
        clear h1
        go_wp2
        go_ret
        exact ⟨ret_bool HF.out.symm, hb⟩
    · have HF := Aside0.mk (mapOkB_end hlt HP.out hk)
      go_wp2
      go_ret
      exact ⟨ret_bool HF.out.symm, hb⟩
end Go.Proofs.Ytdmbbocjaagfkaa.Z
