/- For which end a port stands: MapIn of the program and of the reference. -/
import Derived.Test.YtdmbbocjaagfkaaMd
namespace Go.Proofs.Ytdmbbocjaagfkaa.Z
open Go.RowKit Go.Proofs.YtdmbbocjaagfkaaW.PrintWords
set_option linter.unusedVariables false
set_option linter.unusedSimpArgs false
attribute [local go_sem ↓] Go.wp_at_zero Go.wp_at_succ
attribute [local go_sem high] eqEn eqPr

/-- The end of the first pair from k on with this port. -/
def insideFrom (m : List Pr) (port : Int) (k : Nat) : Option En := ((m.drop k).find? (fun p => decide (p.port = port))).map (·.inside)
theorem insideFrom_end (m : List Pr) (port : Int) (k : Nat) (h : m.length ≤ k) : insideFrom m port k = none := by
  unfold insideFrom; rw [List.drop_of_length_le h]; rfl
theorem insideFrom_hit {m : List Pr} {port : Int} {k : Nat} {p : Pr} (h : k < m.length) (hp : Aside0 (m.getD k zPr = p)) (he : p.port = port) : insideFrom m port k = some p.inside := by
  obtain rfl := hp.out
  unfold insideFrom; rw [drop_getD m zPr k h, List.find?_cons]; simp only [he, decide_true]; rfl
theorem insideFrom_miss {m : List Pr} {port : Int} {k : Nat} {p : Pr} (h : k < m.length) (hp : Aside0 (m.getD k zPr = p)) (he : p.port ≠ port) : insideFrom m port k = insideFrom m port (k + 1) := by
  obtain rfl := hp.out
  unfold insideFrom; rw [drop_getD m zPr k h, List.find?_cons]; simp only [he, decide_false]
/-- An end, or none, as two results. -/
abbrev vOpt (o : Option En) : Value := .tuple #[vEn (o.getD zEn), .bool o.isSome]

set_option maxHeartbeats 1000000 in
theorem impl_inside (A : Option Addr) (n c : Nat) (m : List Pr) (port : Int) (w : World) (hC : Kd.C kPr w A n m) :
    Calls Try.prog 39 #[.slice A n c, .int .i64 port] w fun r w' => r = .returned (vOpt (insideFrom m port 0)) ∧ Below w.heap.size w w' := by
  obtain rfl : m.length = n := hC.1
  have hm := max_len hC
  have HC := Aside0.mk hC; clear hC
  go_enter Try.func39, Try.ntmps39
  go_wp2
  go_loopw [10] (fun i w' => ∃ k : Nat, k ≤ m.length ∧ i = .int .i64 k ∧ Aside0 (insideFrom m port k = insideFrom m port 0) ∧ Aside0 (w'.heap[w.heap.size]? = some (.cells #[.int .i64 0, .int .i64 0] 32 (0, 0))) ∧ Below w.heap.size w w') (fun i _ => m.length - (intOf i).toNat)
  case atStart => exact ⟨0, Nat.zero_le _, rfl, ⟨rfl⟩, ⟨heap_alloc_new w _⟩, (Below.refl _ _).alloc (Nat.le_refl _) _⟩
  case round =>
    obtain ⟨k, hk, rfl, HP, HX, hb⟩ := hrel
    have c0 : wr.cell? ⟨w.heap.size, 0, none⟩ = some (.int .i64 0) := (blk_cell HX.out 0).trans rfl
    have c1 : wr.cell? ⟨w.heap.size, 1, none⟩ = some (.int .i64 0) := (blk_cell HX.out 1).trans rfl
    have z0 := blk_frozen HX.out 0
    have z1 := blk_frozen HX.out 1
    have hz := blk_lt HX.out
    by_cases hlt : k < m.length
    · obtain ⟨ad, p, hA, hp, dL, d0, d1, d2⟩ := at_Pr (Kd.C_below HC.out hb) k hlt
      cases hA
      by_cases he : p.port = port
      · have ht : (p.port == port) = true := beq_iff_eq.2 he
        have HF := Aside0.mk ((insideFrom_hit hlt hp he).symm.trans HP.out)
        clear he
        go_wp2
        refine bodyPost_ret (v := vOpt (some p.inside)) (by simp [results, Try.results39, go_sem, zEn, *]) rfl ⟨by rw [HF.out], (by repeat (first | (with_reducible exact hb) | (with_reducible apply below_alloc) | (with_reducible apply pw_below_drewN) | (with_reducible apply below_drew1) | with_reducible refine below_set ?_ (by first | (with_reducible exact Nat.le_refl _) | (with_reducible assumption) | (simp; done) | omega)))⟩
      · have ht : (p.port == port) = false := beq_eq_false_iff_ne.2 he
        have HF := Aside0.mk ((insideFrom_miss hlt hp he).symm.trans HP.out)
        clear he
        go_wp2
        go_roundw
        case rel => exact ⟨k + 1, by omega, by go_num, HF, ⟨blk_alloc HX.out _⟩, hb.alloc hb.size _⟩
        case measure => simp [intOf]; omega
    · have HF := Aside0.mk ((insideFrom_end m port k (by omega)).symm.trans HP.out)
      go_wp2
      refine bodyPost_ret (v := vOpt none) (by simp [results, Try.results39, go_sem, zEn, *]) rfl ⟨by rw [HF.out], (by repeat (first | (with_reducible exact hb) | (with_reducible apply below_alloc) | (with_reducible apply pw_below_drewN) | (with_reducible apply below_drew1) | with_reducible refine below_set ?_ (by first | (with_reducible exact Nat.le_refl _) | (with_reducible assumption) | (simp; done) | omega)))⟩

theorem impl_MapIn (A : Option Addr) (n c : Nat) (m : List Pr) (port : Int) (w : World) (hC : Kd.C kPr w A n m) (hn : n ≤ 1099511627776) (hc : n ≤ c) :
    Calls Try.prog 18 #[.slice A n c, .int .i64 port] w fun r w' => r = .returned (vOpt (if mapOkB m then insideFrom m port 0 else none)) ∧ Below w.heap.size w w' := by
  cases hk : mapOkB m
  · have HK := Aside0.mk hk; clear hk
    go_enter Try.func18, Try.ntmps18
    go_wp2_with (go_at_call 14; refine (impl_MapOk A n c m _ (Kd.C_below hC ((by repeat (first | (with_reducible exact (Below.refl _ _)) | (with_reducible apply below_alloc) | (with_reducible apply pw_below_drewN) | (with_reducible apply below_drew1) | with_reducible refine below_set ?_ (by first | (with_reducible exact Nat.le_refl _) | (with_reducible assumption) | (simp; done) | omega))))) hn hc).mono ?_; rintro e w1 ⟨rfl, hb⟩; rw [HK.out]; obtain ⟨hbc, hbf, hbz⟩ := bcell hb; (try simp at hbz); (try have hb0 : w.heap.size < w1.heap.size := by omega); (try have hb1 : w.heap.size + 1 < w1.heap.size := by omega); (try have hb2 : w.heap.size + 2 < w1.heap.size := by omega))
    refine bodyPost_ret (v := vOpt none) (by simp [results, Try.results18, go_sem, zEn, *]) rfl ⟨rfl, (by repeat (first | (with_reducible exact (below_step ((Below.refl _ _).alloc (Nat.le_refl _) _) hb)) | (with_reducible apply below_alloc) | (with_reducible apply pw_below_drewN) | (with_reducible apply below_drew1) | with_reducible refine below_set ?_ (by first | (with_reducible exact Nat.le_refl _) | (with_reducible assumption) | (simp; done) | omega)))⟩
  · have HK := Aside0.mk hk; clear hk
    go_enter Try.func18, Try.ntmps18
    go_wp2_with (first | (go_at_call 14; refine (impl_MapOk A n c m _ (Kd.C_below hC ((by repeat (first | (with_reducible exact (Below.refl _ _)) | (with_reducible apply below_alloc) | (with_reducible apply pw_below_drewN) | (with_reducible apply below_drew1) | with_reducible refine below_set ?_ (by first | (with_reducible exact Nat.le_refl _) | (with_reducible assumption) | (simp; done) | omega))))) hn hc).mono ?_; rintro e w1 ⟨rfl, hb⟩; rw [HK.out]; obtain ⟨hbc, hbf, hbz⟩ := bcell hb; (try simp at hbz); (try have hb0 : w.heap.size < w1.heap.size := by omega); (try have hb1 : w.heap.size + 1 < w1.heap.size := by omega); (try have hb2 : w.heap.size + 2 < w1.heap.size := by omega)) | (go_at_call 39; refine (impl_inside A n c m port _ (Kd.C_below hC (below_step ((Below.refl _ _).alloc (Nat.le_refl _) _) hb))).mono ?_; rintro e w2 ⟨rfl, hb2⟩; obtain ⟨hb2c, hb2f, hb2z⟩ := bcell hb2; (try simp at hb2z); (try have hb20 : w.heap.size < w2.heap.size := by omega); (try have hb21 : w.heap.size + 1 < w2.heap.size := by omega); (try have hb22 : w.heap.size + 2 < w2.heap.size := by omega)))
    refine bodyPost_ret (v := vOpt (insideFrom m port 0)) (by simp [results, Try.results18, go_sem, zEn, *]) rfl ⟨rfl, (by repeat (first | (with_reducible exact (below_step (below_step ((Below.refl _ _).alloc (Nat.le_refl _) _) hb) hb2)) | (with_reducible apply below_alloc) | (with_reducible apply pw_below_drewN) | (with_reducible apply below_drew1) | with_reducible refine below_set ?_ (by first | (with_reducible exact Nat.le_refl _) | (with_reducible assumption) | (simp; done) | omega)))⟩

/-- The end at the port's place. -/
def l3InO (m : List Pr) (port : Int) : Option En := if 10 ≤ port ∧ port - 10 < m.length then some (m.getD (port - 10).toNat zPr).inside else none
theorem spec_l3In (A : Option Addr) (n c : Nat) (m : List Pr) (port : Int) (w : World) (hC : Kd.C kPr w A n m) (hn : n ≤ 1099511627776) (hp : -9223372036854775808 ≤ port ∧ port ≤ 9223372036854775807) :
    Calls Try.prog 38 #[.slice A n c, .int .i64 port] w fun r w' => r = .returned (vOpt (l3InO m port)) ∧ Below w.heap.size w w' := by
  obtain rfl : m.length = n := hC.1
  obtain ⟨i, hi⟩ : ∃ i, i = wrap64 (port - 10) := ⟨_, rfl⟩
  have hi2 : (10 ≤ port ∧ i = port - 10) ∨ (port < 10 ∧ (i < 0 ∨ 1099511627776 < i)) := by unfold wrap64 at hi; omega
  by_cases h1 : 10 ≤ port ∧ port - 10 < m.length
  · have hin : inB (port - 10) 0 ((m.length : Int) - 1) = true := by unfold inB; simp; omega
    have HV := Aside0.mk (show l3InO m port = some (m.getD (port - 10).toNat zPr).inside by unfold l3InO; rw [if_pos h1])
    obtain ⟨k, hk⟩ : ∃ k : Nat, port - 10 = k := ⟨(port - 10).toNat, by omega⟩
    obtain rfl : port = (k : Int) + 10 := by omega
    have e1 : ((k : Int) + 10 - 10) = k := by omega
    rw [e1] at HV hin
    obtain ⟨ad, p, hA, hp2, dL, d0, d1, d2⟩ := at_Pr hC k (by omega)
    cases hA
    have hk0 : (0 : Int) ≤ (k : Int) := by omega
    have hk1 : (k : Int) < (m.length : Int) := by omega
    have HI := Aside0.mk hin
    clear hin hi hi2 hk h1
    go_enter Try.func38, Try.ntmps38
    go_wp2_with (go_at_call 43; (try rw [e1]); refine (spec_l6In _ _ _ _).mono ?_; rintro e w1 ⟨rfl, rfl⟩; rw [HI.out])
    refine bodyPost_ret (v := vOpt (some p.inside)) (by simp [results, Try.results38, go_sem, zEn, *]) rfl ⟨by rw [HV.out, Int.toNat_natCast, hp2.out], (by repeat (first | (with_reducible exact (Below.refl _ _)) | (with_reducible apply below_alloc) | (with_reducible apply pw_below_drewN) | (with_reducible apply below_drew1) | with_reducible refine below_set ?_ (by first | (with_reducible exact Nat.le_refl _) | (with_reducible assumption) | (simp; done) | omega)))⟩
  · have hin : inB i 0 ((m.length : Int) - 1) = false := by
      unfold inB; rw [Bool.and_eq_false_iff]; rcases hi2 with ⟨a, b⟩ | ⟨a, b | b⟩
      · right; simp; omega
      · left; simp; omega
      · right; simp; omega
    have HV := Aside0.mk (show l3InO m port = none by unfold l3InO; rw [if_neg h1])
    subst hi
    have HI := Aside0.mk hin
    clear hin hi2 h1
    by_cases hp3 : -9223372036854775808 ≤ port - 10
    · have e1 : wrap64 (port - 10) = port - 10 := by unfold wrap64; omega
      rw [e1] at HI
      clear e1
      go_enter Try.func38, Try.ntmps38
      go_wp2_with (go_at_call 43; refine (spec_l6In _ _ _ _).mono ?_; rintro e w1 ⟨rfl, rfl⟩; rw [HI.out])
      refine bodyPost_ret (v := vOpt none) (by simp [results, Try.results38, go_sem, zEn, *]) rfl ⟨by rw [HV.out], (by repeat (first | (with_reducible exact (Below.refl _ _)) | (with_reducible apply below_alloc) | (with_reducible apply pw_below_drewN) | (with_reducible apply below_drew1) | with_reducible refine below_set ?_ (by first | (with_reducible exact Nat.le_refl _) | (with_reducible assumption) | (simp; done) | omega)))⟩
    · go_enter Try.func38, Try.ntmps38
      go_wp2_with (go_at_call 43; refine (spec_l6In _ _ _ _).mono ?_; rintro e w1 ⟨rfl, rfl⟩; rw [HI.out])
      refine bodyPost_ret (v := vOpt none) (by simp [results, Try.results38, go_sem, zEn, *]) rfl ⟨by rw [HV.out], (by repeat (first | (with_reducible exact (Below.refl _ _)) | (with_reducible apply below_alloc) | (with_reducible apply pw_below_drewN) | (with_reducible apply below_drew1) | with_reducible refine below_set ?_ (by first | (with_reducible exact Nat.le_refl _) | (with_reducible assumption) | (simp; done) | omega)))⟩

theorem spec_MapIn (A : Option Addr) (n c : Nat) (m : List Pr) (port : Int) (w : World) (hC : Kd.C kPr w A n m) (hn : n ≤ 1099511627776) (hp : -9223372036854775808 ≤ port ∧ port ≤ 9223372036854775807) :
    Calls Try.prog 17 #[.slice A n c, .int .i64 port] w fun r w' => r = .returned (vOpt (if mapOkB m then l3InO m port else none)) ∧ Below w.heap.size w w' := by
  cases hk : mapOkB m
  · have HK := Aside0.mk hk; clear hk
    go_enter Try.func17, Try.ntmps17
    go_wp2_with (go_at_call 12; refine (spec_MapOk A n c m _ (Kd.C_below hC ((by repeat (first | (with_reducible exact (Below.refl _ _)) | (with_reducible apply below_alloc) | (with_reducible apply pw_below_drewN) | (with_reducible apply below_drew1) | with_reducible refine below_set ?_ (by first | (with_reducible exact Nat.le_refl _) | (with_reducible assumption) | (simp; done) | omega))))) hn).mono ?_; rintro e w1 ⟨rfl, hb⟩; rw [HK.out]; obtain ⟨hbc, hbf, hbz⟩ := bcell hb; (try simp at hbz); (try have hb0 : w.heap.size < w1.heap.size := by omega); (try have hb1 : w.heap.size + 1 < w1.heap.size := by omega); (try have hb2 : w.heap.size + 2 < w1.heap.size := by omega))
    refine bodyPost_ret (v := vOpt none) (by simp [results, Try.results17, go_sem, zEn, *]) rfl ⟨rfl, (by repeat (first | (with_reducible exact (below_step ((Below.refl _ _).alloc (Nat.le_refl _) _) hb)) | (with_reducible apply below_alloc) | (with_reducible apply pw_below_drewN) | (with_reducible apply below_drew1) | with_reducible refine below_set ?_ (by first | (with_reducible exact Nat.le_refl _) | (with_reducible assumption) | (simp; done) | omega)))⟩
  · have HK := Aside0.mk hk; clear hk
    go_enter Try.func17, Try.ntmps17
    go_wp2_with (first | (go_at_call 12; refine (spec_MapOk A n c m _ (Kd.C_below hC ((by repeat (first | (with_reducible exact (Below.refl _ _)) | (with_reducible apply below_alloc) | (with_reducible apply pw_below_drewN) | (with_reducible apply below_drew1) | with_reducible refine below_set ?_ (by first | (with_reducible exact Nat.le_refl _) | (with_reducible assumption) | (simp; done) | omega))))) hn).mono ?_; rintro e w1 ⟨rfl, hb⟩; rw [HK.out]; obtain ⟨hbc, hbf, hbz⟩ := bcell hb; (try simp at hbz); (try have hb0 : w.heap.size < w1.heap.size := by omega); (try have hb1 : w.heap.size + 1 < w1.heap.size := by omega); (try have hb2 : w.heap.size + 2 < w1.heap.size := by omega)) | (go_at_call 38; refine (spec_l3In A n c m port _ (Kd.C_below hC (below_step ((Below.refl _ _).alloc (Nat.le_refl _) _) hb)) hn hp).mono ?_; rintro e w2 ⟨rfl, hb2⟩; obtain ⟨hb2c, hb2f, hb2z⟩ := bcell hb2; (try simp at hb2z); (try have hb20 : w.heap.size < w2.heap.size := by omega); (try have hb21 : w.heap.size + 1 < w2.heap.size := by omega); (try have hb22 : w.heap.size + 2 < w2.heap.size := by omega)))
    refine bodyPost_ret (v := vOpt (l3InO m port)) (by simp [results, Try.results17, go_sem, zEn, *]) rfl ⟨rfl, (by repeat (first | (with_reducible exact (below_step (below_step ((Below.refl _ _).alloc (Nat.le_refl _) _) hb) hb2)) | (with_reducible apply below_alloc) | (with_reducible apply pw_below_drewN) | (with_reducible apply below_drew1) | with_reducible refine below_set ?_ (by first | (with_reducible exact Nat.le_refl _) | (with_reducible assumption) | (simp; done) | omega)))⟩
end Go.Proofs.Ytdmbbocjaagfkaa.Z
