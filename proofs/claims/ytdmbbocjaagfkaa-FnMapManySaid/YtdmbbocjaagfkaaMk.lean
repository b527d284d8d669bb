/- MapOut of the program and of the reference. -/
import Derived.Test.YtdmbbocjaagfkaaMj
namespace Go.Proofs.Ytdmbbocjaagfkaa.Z
open Go.RowKit Go.Proofs.YtdmbbocjaagfkaaW.PrintWords
set_option linter.unusedVariables false
set_option linter.unusedSimpArgs false
attribute [local go_sem ↓] Go.wp_at_zero Go.wp_at_succ
attribute [local go_sem high] eqEn eqPr

/-- What the program's out answers. -/
def outI (m : List Pr) (e : En) : List Pr × Int × Bool :=
  if portFrom m e 0 ≠ 0 then (m, portFrom m e 0, true) else if 7 < m.length then (m, 0, false) else (m ++ [⟨10 + m.length, e⟩], 10 + m.length, true)

set_option maxHeartbeats 1000000 in
theorem impl_out (A : Option Addr) (n c : Nat) (m : List Pr) (e : En) (w : World) (hC : Kd.C kPr w A n m) (hn : n ≤ 1099511627776) :
    Calls Try.prog 42 #[.slice A n c, vEn e] w fun r w' => ∃ v, r = .returned (.tuple #[v, .int .i64 (outI m e).2.1, .bool (outI m e).2.2]) ∧ Cl kPr 34 w' w.heap.size v (outI m e).1 ∧ Below w.heap.size w w' := by
  obtain rfl : m.length = n := hC.1
  have HC := Aside0.mk hC; clear hC
  by_cases h0 : portFrom m e 0 ≠ 0
  · have HV : Aside0 (outI m e = (m, portFrom m e 0, true)) := ⟨by unfold outI; rw [if_pos h0]⟩
    obtain ⟨p, hp⟩ : ∃ p, p = portFrom m e 0 := ⟨_, rfl⟩
    rw [← hp] at h0 HV
    have t0 : (p != 0) = true := bne_iff_ne.2 h0
    have HP := Aside0.mk hp; clear hp h0
    go_enter Try.func42, Try.ntmps42
    go_wp2_with (first | (go_at_call 46; refine (impl_copied A m.length c m _ (Kd.C_below HC.out (by repeat (first | (with_reducible exact (Below.refl _ _)) | (with_reducible apply below_alloc) | (with_reducible apply pw_below_drewN) | (with_reducible apply below_drew1) | with_reducible refine below_set ?_ (by first | (with_reducible exact Nat.le_refl _) | (with_reducible assumption) | (simp; done) | omega)))) hn).mono ?_; rintro r w1 ⟨v1, rfl, hL1, hb1⟩; obtain ⟨hb1c, hb1f, hb1z⟩ := bcell hb1; (try simp at hb1z); (try have hb10 : w.heap.size < w1.heap.size := by omega); (try have hb11 : w.heap.size + 1 < w1.heap.size := by omega); (try have hb12 : w.heap.size + 2 < w1.heap.size := by omega)) | (go_at_call 32; refine (impl_port A m.length c m e _ (Kd.C_below HC.out (below_step (by repeat (first | (with_reducible exact (Below.refl _ _)) | (with_reducible apply below_alloc) | (with_reducible apply pw_below_drewN) | (with_reducible apply below_drew1) | with_reducible refine below_set ?_ (by first | (with_reducible exact Nat.le_refl _) | (with_reducible assumption) | (simp; done) | omega))) hb1))).mono ?_; rintro r w2 ⟨rfl, hb2⟩; obtain ⟨hb2c, hb2f, hb2z⟩ := bcell hb2; (try simp at hb2z); (try have hb20 : w.heap.size < w2.heap.size := by omega); (try have hb21 : w.heap.size + 1 < w2.heap.size := by omega); (try have hb22 : w.heap.size + 2 < w2.heap.size := by omega); rw [← HP.out]))
    go_ret3
    exact ⟨v1, by rw [HV.out]; rfl, by rw [HV.out]; exact (hL1.below hb2).lower (by simp), below_step (below_step (by repeat (first | (with_reducible exact (Below.refl _ _)) | (with_reducible apply below_alloc) | (with_reducible apply pw_below_drewN) | (with_reducible apply below_drew1) | with_reducible refine below_set ?_ (by first | (with_reducible exact Nat.le_refl _) | (with_reducible assumption) | (simp; done) | omega))) hb1) hb2⟩
  · have h1 : portFrom m e 0 = 0 := by omega
    by_cases h7 : 7 < m.length
    · have HV : Aside0 (outI m e = (m, 0, false)) := ⟨by unfold outI; rw [if_neg h0, if_pos h7]⟩
      have HP := Aside0.mk h1; clear h1 h0
      have hs : (10 : Int) + (m.length : Int) ≤ 9223372036854775807 := by omega
      have t1 : decide ((10 : Int) + (m.length : Int) > 17) = true := decide_eq_true (by omega)
      have t2 : decide ((17 : Int) < 10 + (m.length : Int)) = true := decide_eq_true (by omega)
      go_enter Try.func42, Try.ntmps42
      go_wp2_with (first | (go_at_call 46; refine (impl_copied A m.length c m _ (Kd.C_below HC.out (by repeat (first | (with_reducible exact (Below.refl _ _)) | (with_reducible apply below_alloc) | (with_reducible apply pw_below_drewN) | (with_reducible apply below_drew1) | with_reducible refine below_set ?_ (by first | (with_reducible exact Nat.le_refl _) | (with_reducible assumption) | (simp; done) | omega)))) hn).mono ?_; rintro r w1 ⟨v1, rfl, hL1, hb1⟩; obtain ⟨hb1c, hb1f, hb1z⟩ := bcell hb1; (try simp at hb1z); (try have hb10 : w.heap.size < w1.heap.size := by omega); (try have hb11 : w.heap.size + 1 < w1.heap.size := by omega); (try have hb12 : w.heap.size + 2 < w1.heap.size := by omega)) | (go_at_call 32; refine (impl_port A m.length c m e _ (Kd.C_below HC.out (below_step (by repeat (first | (with_reducible exact (Below.refl _ _)) | (with_reducible apply below_alloc) | (with_reducible apply pw_below_drewN) | (with_reducible apply below_drew1) | with_reducible refine below_set ?_ (by first | (with_reducible exact Nat.le_refl _) | (with_reducible assumption) | (simp; done) | omega))) hb1))).mono ?_; rintro r w2 ⟨rfl, hb2⟩; obtain ⟨hb2c, hb2f, hb2z⟩ := bcell hb2; (try simp at hb2z); (try have hb20 : w.heap.size < w2.heap.size := by omega); (try have hb21 : w.heap.size + 1 < w2.heap.size := by omega); (try have hb22 : w.heap.size + 2 < w2.heap.size := by omega); rw [HP.out]))
      go_ret3
      exact ⟨v1, by rw [HV.out]; rfl, by rw [HV.out]; exact (hL1.below hb2).lower (by simp), below_step (below_step (by repeat (first | (with_reducible exact (Below.refl _ _)) | (with_reducible apply below_alloc) | (with_reducible apply pw_below_drewN) | (with_reducible apply below_drew1) | with_reducible refine below_set ?_ (by first | (with_reducible exact Nat.le_refl _) | (with_reducible assumption) | (simp; done) | omega))) hb1) hb2⟩
    · have HV : Aside0 (outI m e = (m ++ [⟨10 + m.length, e⟩], 10 + (m.length : Int), true)) := ⟨by unfold outI; rw [if_neg h0, if_neg h7]⟩
      obtain ⟨m3, hm3⟩ : ∃ m3, m3 = m ++ [⟨10 + m.length, e⟩] := ⟨_, rfl⟩
      rw [← hm3] at HV
      have HM := Aside0.mk hm3; clear hm3
      have HP := Aside0.mk h1; clear h1 h0
      have hs : (10 : Int) + (m.length : Int) ≤ 9223372036854775807 := by omega
      have t1 : decide ((10 : Int) + (m.length : Int) > 17) = false := decide_eq_false (by omega)
      have t2 : decide ((17 : Int) < 10 + (m.length : Int)) = false := decide_eq_false (by omega)
      go_enter Try.func42, Try.ntmps42
      go_wp2_with (first | (go_at_call 46; refine (impl_copied A m.length c m _ (Kd.C_below HC.out (by repeat (first | (with_reducible exact (Below.refl _ _)) | (with_reducible apply below_alloc) | (with_reducible apply pw_below_drewN) | (with_reducible apply below_drew1) | with_reducible refine below_set ?_ (by first | (with_reducible exact Nat.le_refl _) | (with_reducible assumption) | (simp; done) | omega)))) hn).mono ?_; rintro r w1 ⟨v1, rfl, hL1, hb1⟩; obtain ⟨hb1c, hb1f, hb1z⟩ := bcell hb1; (try simp at hb1z); (try have hb10 : w.heap.size < w1.heap.size := by omega); (try have hb11 : w.heap.size + 1 < w1.heap.size := by omega); (try have hb12 : w.heap.size + 2 < w1.heap.size := by omega)) | (go_at_call 32; refine (impl_port A m.length c m e _ (Kd.C_below HC.out (below_step (by repeat (first | (with_reducible exact (Below.refl _ _)) | (with_reducible apply below_alloc) | (with_reducible apply pw_below_drewN) | (with_reducible apply below_drew1) | with_reducible refine below_set ?_ (by first | (with_reducible exact Nat.le_refl _) | (with_reducible assumption) | (simp; done) | omega))) hb1))).mono ?_; rintro r w2 ⟨rfl, hb2⟩; obtain ⟨hb2c, hb2f, hb2z⟩ := bcell hb2; (try simp at hb2z); (try have hb20 : w.heap.size < w2.heap.size := by omega); (try have hb21 : w.heap.size + 1 < w2.heap.size := by omega); (try have hb22 : w.heap.size + 2 < w2.heap.size := by omega); rw [HP.out]; obtain ⟨A1, rfl, hC1⟩ := (hL1.below hb2).reads) | (at_builtin; refine C_append_full kPr (w0 := w) w.heap.size rfl (.tmp 25) (.tmp 29) 25 34 (.agg #[(.int .i64 0), (.int .i64 0), (.int .i64 0)]) 24 rfl Try.underlying25 infoPr rfl (by decide) (by omega) A1 m.length m ⟨10 + m.length, e⟩ [.int .i64 (10 + m.length), .int .i64 e.addr, .int .i64 e.port] rfl rfl kPr_KM (kPr_mk _ _) hC1 (below_step (below_step (by repeat (first | (with_reducible exact (Below.refl _ _)) | (with_reducible apply below_alloc) | (with_reducible apply pw_below_drewN) | (with_reducible apply below_drew1) | with_reducible refine below_set ?_ (by first | (with_reducible exact Nat.le_refl _) | (with_reducible assumption) | (simp; done) | omega))) hb1) hb2) (by omega) (by omega) ?_; intro v3 w3 hR3 hb3 hg3; rw [← HM.out] at hR3; obtain ⟨A3, c3, rfl, hl3, _⟩ := Kd.R_reads hR3) | (go_at_call 47; refine (Clip_Pair A3 _ c3 _ hl3).mono ?_; rintro r w4 ⟨rfl, rfl⟩))
      go_ret3
      exact ⟨_, by rw [HV.out]; rfl, by rw [HV.out]; exact ⟨A3, c3, rfl, hR3⟩, hb3⟩

set_option maxHeartbeats 1000000 in
theorem spec_l3Out (A : Option Addr) (c : Nat) (m : List Pr) (e : En) (base : Nat) (w : World) (hR : Kd.R kPr 34 w base (fun _ => True) (.slice A m.length c) m) (hbase : base ≤ w.heap.size) (hn : m.length ≤ 1099511627776) :
    Calls Try.prog 40 #[.slice A m.length c, vEn e] w fun r w' => ∃ v, r = .returned (.tuple #[v, .int .i64 (outS m e).2.1, .bool (outS m e).2.2]) ∧ Kd.R kPr 34 w' base (fun _ => True) v (outS m e).1 ∧ Below base w w' := by
  have HR := Aside0.mk hR; clear hR
  have HC := Aside0.mk (Kd.R_reads' HR.out).2.2
  go_enter Try.func40, Try.ntmps40
  go_wp2
  go_loopw [7] (fun i w' => ∃ k : Nat, k ≤ m.length ∧ i = .int .i64 k ∧ Aside0 (outAt m e k = outAt m e 0) ∧ Aside0 (w'.heap[w.heap.size]? = some (.cells #[.int .i64 e.addr, .int .i64 e.port] 32 (0, 0))) ∧ Below w.heap.size w w') (fun i _ => m.length - (intOf i).toNat)
  case atStart => exact ⟨0, Nat.zero_le _, rfl, ⟨rfl⟩, ⟨heap_alloc_new w _⟩, (Below.refl _ _).alloc (Nat.le_refl _) _⟩
  case round =>
    obtain ⟨k, hk, rfl, HP, HX, hb⟩ := hrel
    have c0 : wr.cell? ⟨w.heap.size, 0, none⟩ = some (.int .i64 e.addr) := (blk_cell HX.out 0).trans rfl
    have c1 : wr.cell? ⟨w.heap.size, 1, none⟩ = some (.int .i64 e.port) := (blk_cell HX.out 1).trans rfl
    have z0 := blk_frozen HX.out 0
    have z1 := blk_frozen HX.out 1
    have hz := blk_lt HX.out
    by_cases hlt : k < m.length
    · obtain ⟨ad, p, hA, hp, dL, d0, d1, d2⟩ := at_Pr (Kd.C_below HC.out hb) k hlt
      cases hA
      have hk0 : (0 : Int) ≤ (k : Int) := Int.natCast_nonneg _
      have hk1 : (k : Int) < (m.length : Int) := by omega
      by_cases he : p.inside = e
      · have ht := En_beq he
        have HF := Aside0.mk ((outAt_hit hlt hp he).symm.trans HP.out)
        have HV : Aside0 (outS m e = (m, p.port, true)) := ⟨by rw [outS_of, ← HF.out]⟩
        clear he
        go_wp2
        go_quiet (fail)
        go_wp2
        go_quiet (fail)
        go_wp2
        go_ret3
        exact ⟨_, by rw [HV.out]; rfl, by rw [HV.out]; exact Kd.R_below HR.out (by repeat (first | (with_reducible exact hb) | (with_reducible apply below_alloc) | (with_reducible apply pw_below_drewN) | (with_reducible apply below_drew1) | with_reducible refine below_set ?_ (by first | (with_reducible exact Nat.le_refl _) | (with_reducible assumption) | (simp; done) | omega))), (by repeat (first | (with_reducible exact (hb.mono hbase)) | (with_reducible apply below_alloc) | (with_reducible apply pw_below_drewN) | (with_reducible apply below_drew1) | with_reducible refine below_set ?_ (by first | (with_reducible exact Nat.le_refl _) | (with_reducible assumption) | (simp; done) | omega)))⟩
      · have ht := En_bne he
        have HF := Aside0.mk ((outAt_miss hlt hp he).symm.trans HP.out)
        clear he
        go_wp2
        go_quiet (fail)
        go_wp2
        go_roundw
        case rel => exact ⟨k + 1, by omega, by go_num, HF, ⟨by simpa using HX.out⟩, (by repeat (first | (with_reducible exact hb) | (with_reducible apply below_alloc) | (with_reducible apply pw_below_drewN) | (with_reducible apply below_drew1) | with_reducible refine below_set ?_ (by first | (with_reducible exact Nat.le_refl _) | (with_reducible assumption) | (simp; done) | omega)))⟩
        case measure => simp [intOf]; omega
    · have HF := Aside0.mk ((outAt_end m e k (by omega)).symm.trans HP.out)
      by_cases h7 : 7 < m.length
      · have HV : Aside0 (outS m e = (m, 0, false)) := ⟨by rw [outS_of, ← HF.out]; simp only; rw [if_pos h7]⟩
        have t1 : decide ((m.length : Int) > 7) = true := decide_eq_true (by omega)
        have t2 : decide ((7 : Int) < (m.length : Int)) = true := decide_eq_true (by omega)
        go_wp2
        go_ret3
        exact ⟨_, by rw [HV.out]; rfl, by rw [HV.out]; exact Kd.R_below HR.out (by repeat (first | (with_reducible exact hb) | (with_reducible apply below_alloc) | (with_reducible apply pw_below_drewN) | (with_reducible apply below_drew1) | with_reducible refine below_set ?_ (by first | (with_reducible exact Nat.le_refl _) | (with_reducible assumption) | (simp; done) | omega))), (by repeat (first | (with_reducible exact (hb.mono hbase)) | (with_reducible apply below_alloc) | (with_reducible apply pw_below_drewN) | (with_reducible apply below_drew1) | with_reducible refine below_set ?_ (by first | (with_reducible exact Nat.le_refl _) | (with_reducible assumption) | (simp; done) | omega)))⟩
      · have HV : Aside0 (outS m e = (m ++ [⟨10 + m.length, e⟩], 10 + (m.length : Int), true)) := ⟨by rw [outS_of, ← HF.out]; simp only; rw [if_neg h7]⟩
        have t1 : decide ((m.length : Int) > 7) = false := decide_eq_false (by omega)
        have t2 : decide ((7 : Int) < (m.length : Int)) = false := decide_eq_false (by omega)
        have hs : (10 : Int) + (m.length : Int) ≤ 9223372036854775807 := by omega
        go_wp2_with (at_builtin; (refine Kd.R_append kPr (w0 := w) base rfl (.tmp 35) (.tmp 39) 25 34 (.agg #[(.int .i64 0), (.int .i64 0), (.int .i64 0)]) 24 rfl Try.underlying25 infoPr rfl (by decide) (by omega) (.slice A m.length c) m ⟨10 + m.length, e⟩ [.int .i64 (10 + m.length), .int .i64 e.addr, .int .i64 e.port] (fun _ => True) (fun _ => False) rfl rfl (kPr_mkM _ _ _ _) (fun _ hk => hk.elim) (fun _ _ => trivial) (Kd.R_below HR.out (by repeat (first | (with_reducible exact hb) | (with_reducible apply below_alloc) | (with_reducible apply pw_below_drewN) | (with_reducible apply below_drew1) | with_reducible refine below_set ?_ (by first | (with_reducible exact Nat.le_refl _) | (with_reducible assumption) | (simp; done) | omega)))) (by repeat (first | (with_reducible exact (hb.mono hbase)) | (with_reducible apply below_alloc) | (with_reducible apply pw_below_drewN) | (with_reducible apply below_drew1) | with_reducible refine below_set ?_ (by first | (with_reducible exact Nat.le_refl _) | (with_reducible assumption) | (simp; done) | omega))) (Nat.le_trans hbase hb.size) (by omega) ?_; intro v3 w3 hR3 hb3 hg3 hx3))
        go_ret3
        exact ⟨_, by rw [HV.out]; rfl, by rw [HV.out]; exact hR3, hb3⟩
end Go.Proofs.Ytdmbbocjaagfkaa.Z
