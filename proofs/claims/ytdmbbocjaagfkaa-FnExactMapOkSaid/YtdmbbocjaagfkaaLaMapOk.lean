/- The law FnExactMapOk: whatever pairs come in, MapOk of the program and of the reference answer alike, and the argument stays. -/
import Derived.Test.YtdmbbocjaagfkaaMg
import Derived.Test.YtdmbbocjaagfkaaOp
namespace Go.Proofs.Ytdmbbocjaagfkaa.Z
open Go.RowKit Go.Proofs.YtdmbbocjaagfkaaW.PrintWords
set_option linter.unusedVariables false
set_option linter.unusedSimpArgs false

set_option maxHeartbeats 1000000 in
theorem law_FnExactMapOk (A : Option Addr) (n c : Nat) (m : List Pr) (w : World) (hC : Kd.C kPr w A n m) (hc : n ≤ c) (hg : ∀ x ∈ m, goodPr x) :
    Calls Try.prog 3 #[.slice A n c] w fun r w' => r = .returned (.bool true) ∧ Below w.heap.size w w' := by
  have hm := max_len hC
  by_cases h : n ≤ 1048576
  · have hz : szB n 1048576 = 1048576 - (n : Int) := by unfold szB; rw [if_neg (by omega)]
    have HZ := Aside0.mk hz; clear hz
    have hbig : n ≤ 1099511627776 := by omega
    have t1 : decide ((1048576 : Int) - (n : Int) < 0) = false := decide_eq_false (by omega)
    obtain rfl : m.length = n := hC.1
    go_enter Try.func3, Try.ntmps3
    go_wp2_with fail; refine (laws_szPairS A m.length c 1048576 w hm (by omega)).mono ?_; rintro e w' ⟨rfl, rfl⟩
    rw [HZ.out]
    go_wp2_with fail; refine (laws_toPairS A m.length c m _ hC hbig).mono ?_; rintro e w1 ⟨v1, rfl, hR1, hb1⟩
    obtain ⟨A1, c1, rfl, hl1, hC1⟩ := Kd.R_reads hR1
    go_wp2_with fail; refine (spec_MapOk A1 m.length c1 m _ hC1 hbig).mono ?_; rintro e w2 ⟨rfl, hb2⟩
    have hB2 : Below w.heap.size w w2 := below_step hb1 hb2
    go_wp2_with fail; refine (laws_toPairS A m.length c m _ (Kd.C_below hC hB2) hbig).mono ?_; rintro e w3 ⟨v3, rfl, hR3, hb3⟩
    obtain ⟨A3, c3, rfl, hl3, hC3⟩ := Kd.R_reads hR3
    go_wp2_with fail; refine (impl_MapOk A3 m.length c3 m _ hC3 hbig hl3).mono ?_; rintro e w4 ⟨rfl, hb4⟩
    have hB4 : Below w.heap.size w w4 := below_step (below_step hB2 hb3) hb4
    go_wp2_with fail; refine (laws_toPairS A m.length c m _ (Kd.C_below hC hB4) hbig).mono ?_; rintro e w5 ⟨v5, rfl, hR5, hb5⟩
    obtain ⟨A5, c5, rfl, hl5, hC5⟩ := Kd.R_reads hR5
    go_wp2_with fail; refine (laws_eqPairS A3 A5 m.length m.length c3 c5 m m _ (Kd.C_below (Kd.C_below hC3 hb4) hb5) hC5).mono ?_; rintro e w6 ⟨rfl, hb6⟩
    rw [show decide (m = m) = true from decide_eq_true rfl]
    go_wp2
    go_ret
    exact ⟨rfl, below_step (below_step hB4 hb5) hb6⟩
  · have hz : szB n 1048576 = -1 := by unfold szB; rw [if_pos (by omega)]
    have HZ := Aside0.mk hz; clear hz
    go_enter Try.func3, Try.ntmps3
    go_wp2_with fail; refine (laws_szPairS A n c 1048576 w hm (by omega)).mono ?_; rintro e w' ⟨rfl, rfl⟩
    rw [HZ.out]
    go_wp2
    go_ret
    exact ⟨rfl, Below.refl _ _⟩
end Go.Proofs.Ytdmbbocjaagfkaa.Z
