/- The law FnExactMapIn: whatever pairs and port come in, MapIn of the program and of the reference answer alike, and the argument stays. -/
import Derived.Test.YtdmbbocjaagfkaaMh
import Derived.Test.YtdmbbocjaagfkaaOp
namespace Go.Proofs.Ytdmbbocjaagfkaa.Z
open Go.RowKit Go.Proofs.YtdmbbocjaagfkaaW.PrintWords
set_option linter.unusedVariables false
set_option linter.unusedSimpArgs false

set_option maxHeartbeats 1000000 in
theorem law_FnExactMapIn (A : Option Addr) (n c : Nat) (m : List Pr) (port : Int) (w : World) (hC : Kd.C kPr w A n m) (hc : n ≤ c) (hg : ∀ x ∈ m, goodPr x) (hp : i64ok port) :
    Calls Try.prog 5 #[.slice A n c, .int .i64 port] w fun r w' => r = .returned (.bool true) ∧ Below w.heap.size w w' := by
  have hm := max_len hC
  by_cases h : n ≤ 1048576
  · have hz : szB n 1048576 = 1048576 - (n : Int) := by unfold szB; rw [if_neg (by omega)]
    have HZ := Aside0.mk hz; clear hz
    have hbig : n ≤ 1099511627776 := by omega
    have t1 : decide ((1048576 : Int) - (n : Int) < 0) = false := decide_eq_false (by omega)
    obtain rfl : m.length = n := hC.1
    have HV : Aside0 ((if mapOkB m then insideFrom m port 0 else none) = mapInO m port) := ⟨mapIn_eq m port⟩
    have hpl := Aside0.mk hp.le
    go_enter Try.func5, Try.ntmps5
    go_wp2_with fail; refine (laws_szPairS A m.length c 1048576 w hm (by omega)).mono ?_; rintro e w' ⟨rfl, rfl⟩
    rw [HZ.out]
    go_wp2_with fail; refine (laws_toPairS A m.length c m _ hC hbig).mono ?_; rintro e w1 ⟨v1, rfl, hR1, hb1⟩
    obtain ⟨A1, c1, rfl, hl1, hC1⟩ := Kd.R_reads hR1
    go_wp2_with fail; refine (spec_MapIn A1 m.length c1 m port _ hC1 hbig hpl.out).mono ?_; rintro e w2 ⟨rfl, hb2⟩
    rw [show (if mapOkB m then l3InO m port else none) = mapInO m port from rfl]
    have hB2 : Below w.heap.size w w2 := below_step hb1 hb2
    generalize mapInO m port = o at HV ⊢
    have hz2 := hB2.size
    go_wp2_with fail; refine (laws_toPairS A m.length c m _ (Kd.C_below hC (by repeat (first | (with_reducible exact hB2) | (with_reducible apply below_alloc) | (with_reducible apply pw_below_drewN) | (with_reducible apply below_drew1) | with_reducible refine below_set ?_ (by first | (with_reducible exact Nat.le_refl _) | (with_reducible assumption) | (simp; done) | omega)))) hbig).mono ?_; rintro e w3 ⟨v3, rfl, hR3, hb3⟩
    obtain ⟨h3c, h3f, h3z⟩ := bcell hb3
    simp at h3z
    have hB3 : Below w.heap.size w w3 := (by refine below_step ?_ hb3; repeat (first | (with_reducible exact hB2) | (with_reducible apply below_alloc) | (with_reducible apply pw_below_drewN) | (with_reducible apply below_drew1) | with_reducible refine below_set ?_ (by first | (with_reducible exact Nat.le_refl _) | (with_reducible assumption) | (simp; done) | omega)))
    obtain ⟨A3, c3, rfl, hl3, hC3⟩ := Kd.R_reads hR3
    go_wp2_with fail; refine (impl_MapIn A3 m.length c3 m port _ hC3 hbig hl3).mono ?_; rintro e w4 ⟨rfl, hb4⟩
    rw [HV.out]
    obtain ⟨h4c, h4f, h4z⟩ := bcell hb4
    have g4 : w2.heap.size < w4.heap.size := by omega
    have g3 : w2.heap.size < w3.heap.size := by omega
    have g1 : w2.heap.size ≠ w4.heap.size := by omega
    have hB4 : Below w.heap.size w w4 := below_step hB3 hb4
    have t2 : (o.isSome != o.isSome) = false := by simp
    go_wp2_with fail; refine (laws_eqEnd (o.getD zEn) (o.getD zEn) _).mono ?_; rintro e w5 ⟨rfl, hb5⟩
    rw [show decide (o.getD zEn = o.getD zEn) = true from decide_eq_true rfl]
    have hB5 : Below w.heap.size w w5 := (by refine below_step ?_ hb5; repeat (first | (with_reducible exact hB4) | (with_reducible apply below_alloc) | (with_reducible apply pw_below_drewN) | (with_reducible apply below_drew1) | with_reducible refine below_set ?_ (by first | (with_reducible exact Nat.le_refl _) | (with_reducible assumption) | (simp; done) | omega)))
    go_wp2_with fail; refine (laws_toPairS A m.length c m _ (Kd.C_below hC hB5) hbig).mono ?_; rintro e w6 ⟨v6, rfl, hR6, hb6⟩
    obtain ⟨A6, c6, rfl, hl6, hC6⟩ := Kd.R_reads hR6
    have hb36 : Below w3.heap.size w3 w6 := below_step (by refine below_step ?_ hb5; repeat (first | (with_reducible exact hb4) | (with_reducible apply below_alloc) | (with_reducible apply pw_below_drewN) | (with_reducible apply below_drew1) | with_reducible refine below_set ?_ (by first | (with_reducible exact Nat.le_refl _) | (with_reducible assumption) | (simp; done) | omega))) hb6
    go_wp2_with fail; refine (laws_eqPairS A3 A6 m.length m.length c3 c6 m m _ (Kd.C_below hC3 hb36) hC6).mono ?_; rintro e w7 ⟨rfl, hb7⟩
    rw [show decide (m = m) = true from decide_eq_true rfl]
    go_wp2
    go_ret
    exact ⟨rfl, below_step (below_step hB5 hb6) hb7⟩
  · have hz : szB n 1048576 = -1 := by unfold szB; rw [if_pos (by omega)]
    have HZ := Aside0.mk hz; clear hz
    go_enter Try.func5, Try.ntmps5
    go_wp2_with fail; refine (laws_szPairS A n c 1048576 w hm (by omega)).mono ?_; rintro e w' ⟨rfl, rfl⟩
    rw [HZ.out]
    go_wp2
    go_ret
    exact ⟨rfl, Below.refl _ _⟩
end Go.Proofs.Ytdmbbocjaagfkaa.Z
