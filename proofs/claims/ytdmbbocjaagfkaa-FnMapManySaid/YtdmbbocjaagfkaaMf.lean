/- The laws' own helpers on pairs: sizes, copies of arguments, comparisons. -/
import Derived.Test.YtdmbbocjaagfkaaMe
namespace Go.Proofs.Ytdmbbocjaagfkaa.Z
open Go.RowKit Go.Proofs.YtdmbbocjaagfkaaW.PrintWords
set_option linter.unusedVariables false
set_option linter.unusedSimpArgs false
attribute [local go_sem ↓] Go.wp_at_zero Go.wp_at_succ
attribute [local go_sem high] eqEn eqPr

theorem infoPr : (Try.prog.info? 34).map (fun i => (i.zero, i.size, i.bytes)) = some (some (.agg #[(.int .i64 0), (.int .i64 0), (.int .i64 0)]), 3, 24) := by kernel_rfl

def szB (n : Nat) (left : Int) : Int := if left - n < 0 then -1 else left - n
theorem laws_szPairS (A : Option Addr) (n c : Nat) (left : Int) (w : World) (hn : n ≤ 9223372036854775807) (hl : 0 ≤ left ∧ left ≤ 1048576) :
    Calls Try.prog 11 #[.slice A n c, .int .i64 left] w fun r w' => r = .returned (.int .i64 (szB n left)) ∧ w = w' := by
  by_cases h : left - n < 0
  · have h1 : decide (left - (n : Int) < 0) = true := by simpa using h
    have HV := Aside0.mk (show szB n left = -1 by unfold szB; rw [if_pos h])
    clear h
    go_enter Try.func11, Try.ntmps11
    go_wp2
    go_ret
    exact ⟨ret_int HV.out.symm, rfl⟩
  · have h1 : decide (left - (n : Int) < 0) = false := by simpa using h
    have HV := Aside0.mk (show szB n left = left - n by unfold szB; rw [if_neg h])
    clear h
    go_enter Try.func11, Try.ntmps11
    go_wp2
    go_ret
    exact ⟨ret_int HV.out.symm, rfl⟩

theorem laws_toEnd (e : En) (w : World) :
    Calls Try.prog 27 #[vEn e] w fun r w' => r = .returned (vEn e) ∧ Below w.heap.size w w' := by
  go_enter Try.func27, Try.ntmps27
  go_wp2
  refine bodyPost_ret (v := vEn e) (by simp [results, Try.results27, go_sem, zEn, *]) rfl ⟨rfl, (by repeat (first | (with_reducible exact (Below.refl _ _)) | (with_reducible apply below_alloc) | (with_reducible apply pw_below_drewN) | (with_reducible apply below_drew1) | with_reducible refine below_set ?_ (by first | (with_reducible exact Nat.le_refl _) | (with_reducible assumption) | (simp; done) | omega)))⟩
theorem laws_toPair (p : Pr) (w : World) :
    Calls Try.prog 30 #[vPr p] w fun r w' => r = .returned (vPr p) ∧ Below w.heap.size w w' := by
  go_enter Try.func30, Try.ntmps30
  go_wp2_with (go_at_call 27; refine (laws_toEnd p.inside _).mono ?_; rintro e w1 ⟨rfl, hb⟩; obtain ⟨hbc, hbf, hbz⟩ := bcell hb; (try simp at hbz); (try have hb0 : w.heap.size < w1.heap.size := by omega); (try have hb1 : w.heap.size + 1 < w1.heap.size := by omega); (try have hb2 : w.heap.size + 2 < w1.heap.size := by omega))
  have hB : Below w.heap.size w w1 := (by refine below_step ?_ hb; repeat (first | (with_reducible exact (Below.refl _ _)) | (with_reducible apply below_alloc) | (with_reducible apply pw_below_drewN) | (with_reducible apply below_drew1) | with_reducible refine below_set ?_ (by first | (with_reducible exact Nat.le_refl _) | (with_reducible assumption) | (simp; done) | omega)))
  refine bodyPost_ret (v := vPr p) (by simp [results, Try.results30, go_sem, zEn, *]) rfl ⟨rfl, (by repeat (first | (with_reducible exact hB) | (with_reducible apply below_alloc) | (with_reducible apply pw_below_drewN) | (with_reducible apply below_drew1) | with_reducible refine below_set ?_ (by first | (with_reducible exact Nat.le_refl _) | (with_reducible assumption) | (simp; done) | omega)))⟩

theorem laws_eqEnd (a b : En) (w : World) :
    Calls Try.prog 19 #[vEn a, vEn b] w fun r w' => r = .returned (.bool (decide (a = b))) ∧ Below w.heap.size w w' := by
  by_cases h1 : a.addr = b.addr
  · have t1 : (a.addr == b.addr) = true := beq_iff_eq.2 h1
    have t2 : (a.addr != b.addr) = false := by rw [bne_eq_false_iff_eq]; exact h1
    by_cases h2 : a.port = b.port
    · have HV := Aside0.mk (show decide (a = b) = true from decide_eq_true (En_ext h1 h2))
      have t3 : (a.port != b.port) = false := by rw [bne_eq_false_iff_eq]; exact h2
      clear h1 h2
      go_enter Try.func19, Try.ntmps19
      go_wp2
      go_ret
      exact ⟨ret_bool HV.out.symm, (by repeat (first | (with_reducible exact (Below.refl _ _)) | (with_reducible apply below_alloc) | (with_reducible apply pw_below_drewN) | (with_reducible apply below_drew1) | with_reducible refine below_set ?_ (by first | (with_reducible exact Nat.le_refl _) | (with_reducible assumption) | (simp; done) | omega)))⟩
    · have HV := Aside0.mk (show decide (a = b) = false from decide_eq_false (fun h => h2 (by rw [h])))
      have t3 : (a.port != b.port) = true := bne_iff_ne.2 h2
      clear h1 h2
      go_enter Try.func19, Try.ntmps19
      go_wp2
      go_ret
      exact ⟨ret_bool HV.out.symm, (by repeat (first | (with_reducible exact (Below.refl _ _)) | (with_reducible apply below_alloc) | (with_reducible apply pw_below_drewN) | (with_reducible apply below_drew1) | with_reducible refine below_set ?_ (by first | (with_reducible exact Nat.le_refl _) | (with_reducible assumption) | (simp; done) | omega)))⟩
  · have HV := Aside0.mk (show decide (a = b) = false from decide_eq_false (fun h => h1 (by rw [h])))
    have t3 : (a.addr != b.addr) = true := bne_iff_ne.2 h1
    clear h1
    go_enter Try.func19, Try.ntmps19
    go_wp2
    go_ret
    exact ⟨ret_bool HV.out.symm, (by repeat (first | (with_reducible exact (Below.refl _ _)) | (with_reducible apply below_alloc) | (with_reducible apply pw_below_drewN) | (with_reducible apply below_drew1) | with_reducible refine below_set ?_ (by first | (with_reducible exact Nat.le_refl _) | (with_reducible assumption) | (simp; done) | omega)))⟩
theorem Pr_ext {a b : Pr} (h1 : a.port = b.port) (h2 : a.inside = b.inside) : a = b := by cases a; cases b; simp_all
theorem laws_eqPair (a b : Pr) (w : World) :
    Calls Try.prog 33 #[vPr a, vPr b] w fun r w' => r = .returned (.bool (decide (a = b))) ∧ Below w.heap.size w w' := by
  by_cases h1 : a.port = b.port
  · have t2 : (a.port != b.port) = false := by rw [bne_eq_false_iff_eq]; exact h1
    cases h2 : decide (a.inside = b.inside)
    · have HV := Aside0.mk (show decide (a = b) = false from decide_eq_false (fun h => of_decide_eq_false h2 (by rw [h])))
      have H2 := Aside0.mk h2
      clear h1 h2
      go_enter Try.func33, Try.ntmps33
      go_wp2_with (go_at_call 19; refine (laws_eqEnd a.inside b.inside _).mono ?_; rintro e w1 ⟨rfl, hb⟩; rw [H2.out]; obtain ⟨hbc, hbf, hbz⟩ := bcell hb; (try simp at hbz); (try have hb0 : w.heap.size < w1.heap.size := by omega); (try have hb1 : w.heap.size + 1 < w1.heap.size := by omega); (try have hb2 : w.heap.size + 2 < w1.heap.size := by omega))
      go_ret
      exact ⟨ret_bool HV.out.symm, (by refine below_step ?_ hb; repeat (first | (with_reducible exact (Below.refl _ _)) | (with_reducible apply below_alloc) | (with_reducible apply pw_below_drewN) | (with_reducible apply below_drew1) | with_reducible refine below_set ?_ (by first | (with_reducible exact Nat.le_refl _) | (with_reducible assumption) | (simp; done) | omega)))⟩
    · have HV := Aside0.mk (show decide (a = b) = true from decide_eq_true (Pr_ext h1 (of_decide_eq_true h2)))
      have H2 := Aside0.mk h2
      clear h1 h2
      go_enter Try.func33, Try.ntmps33
      go_wp2_with (go_at_call 19; refine (laws_eqEnd a.inside b.inside _).mono ?_; rintro e w1 ⟨rfl, hb⟩; rw [H2.out]; obtain ⟨hbc, hbf, hbz⟩ := bcell hb; (try simp at hbz); (try have hb0 : w.heap.size < w1.heap.size := by omega); (try have hb1 : w.heap.size + 1 < w1.heap.size := by omega); (try have hb2 : w.heap.size + 2 < w1.heap.size := by omega))
      go_ret
      exact ⟨ret_bool HV.out.symm, (by refine below_step ?_ hb; repeat (first | (with_reducible exact (Below.refl _ _)) | (with_reducible apply below_alloc) | (with_reducible apply pw_below_drewN) | (with_reducible apply below_drew1) | with_reducible refine below_set ?_ (by first | (with_reducible exact Nat.le_refl _) | (with_reducible assumption) | (simp; done) | omega)))⟩
  · have HV := Aside0.mk (show decide (a = b) = false from decide_eq_false (fun h => h1 (by rw [h])))
    have t3 : (a.port != b.port) = true := bne_iff_ne.2 h1
    clear h1
    go_enter Try.func33, Try.ntmps33
    go_wp2
    go_ret
    exact ⟨ret_bool HV.out.symm, (by repeat (first | (with_reducible exact (Below.refl _ _)) | (with_reducible apply below_alloc) | (with_reducible apply pw_below_drewN) | (with_reducible apply below_drew1) | with_reducible refine below_set ?_ (by first | (with_reducible exact Nat.le_refl _) | (with_reducible assumption) | (simp; done) | omega)))⟩

/-- The first k elements of l, and zeros for the others: what a copy holds behind k rounds. -/
def filled {α : Type} (l : List α) (z : α) (k : Nat) : List α := l.take k ++ List.replicate (l.length - k) z
theorem filled_len {α : Type} (l : List α) (z : α) (k : Nat) (h : k ≤ l.length) : (filled l z k).length = l.length := by simp [filled]; omega
theorem filled_zero {α : Type} (l : List α) (z : α) : filled l z 0 = List.replicate l.length z := by simp [filled]
theorem filled_all {α : Type} (l : List α) (z : α) : filled l z l.length = l := by simp [filled]
theorem filled_set {α : Type} (l : List α) (z : α) (k : Nat) (h : k < l.length) : (filled l z k).set k (l.getD k z) = filled l z (k + 1) := by
  unfold filled
  rw [List.set_append_right _ _ (by simp; omega)]
  have e1 : l.length - k = (l.length - (k + 1)) + 1 := by omega
  rw [e1, List.replicate_succ, List.length_take, Nat.min_eq_left (by omega), Nat.sub_self, List.set_cons_zero, List.take_add_one, List.getD_eq_getElem?_getD, List.getElem?_eq_getElem h]
  simp only [Option.toList, Option.getD_some, List.append_assoc, List.singleton_append]

set_option maxHeartbeats 1000000 in
theorem laws_toPairS (A : Option Addr) (n c : Nat) (m : List Pr) (w : World) (hC : Kd.C kPr w A n m) (hn : n ≤ 1099511627776) :
    Calls Try.prog 13 #[.slice A n c] w fun r w' => ∃ v, r = .returned v ∧ Kd.R kPr 34 w' w.heap.size (fun _ => True) v m ∧ Below w.heap.size w w' := by
  obtain rfl : m.length = n := hC.1
  have HC := Aside0.mk hC; clear hC
  go_enter Try.func13, Try.ntmps13
  go_wp2_with (refine Kd.R_make kPr _ 34 rfl (N := 7) rfl 25 _ _ rfl (m.length : Int) rfl rfl Try.underlying25 (.agg #[(.int .i64 0), (.int .i64 0), (.int .i64 0)]) 24 infoPr rfl (by decide) (by omega) zPr (ok := fun _ => True) (okp := fun _ => True) (kPr_mkM _ _ _ zPr) (fun _ hk => hk) trivial (by omega) (by rw [Int.toNat_natCast]; omega) (Below.refl _ _) (Nat.le_refl _) ?_; intro v1 w1 ho hb hg hnew; clear hg hnew; rw [Int.toNat_natCast, ← filled_zero m zPr] at ho)
  go_loopw [4] (fun i w' => ∃ k : Nat, k ≤ m.length ∧ i = .int .i64 k ∧ Aside0 (Kd.R kPr 34 w' w.heap.size (fun _ => True) v1 (filled m zPr k)) ∧ Below w.heap.size w w') (fun i _ => m.length - (intOf i).toNat)
  case atStart => exact ⟨0, Nat.zero_le _, rfl, ⟨ho⟩, hb⟩
  case round =>
    clear ho hb
    obtain ⟨k, hk, rfl, HO, hb⟩ := hrel
    by_cases hlt : k < m.length
    · obtain ⟨ad, p, hA, hp, dL, d0, d1, d2⟩ := at_Pr (Kd.C_below HC.out hb) k hlt
      cases hA
      have hl := filled_len m zPr k hk
      obtain ⟨g, cap, rfl, hg1, hg2, _⟩ := Kd.R_form HO.out (by omega)
      rw [hl]
      have hk0 : (0 : Int) ≤ (k : Int) := Int.natCast_nonneg _
      have hk1 : (k : Int) < (m.length : Int) := by omega
      clear hl
      have HS := Aside0.mk (filled_set m zPr k hlt)
      have HL := Aside0.mk (filled_len m zPr k hk)
      have HO2 := Aside0.mk (show Kd.R kPr 34 wr w.heap.size (fun _ => True) (.slice (some ⟨g, 0, none⟩) m.length cap) (filled m zPr k) by have := HO.out; rw [HL.out] at this; exact this)
      go_wp2_with (go_at_call 30; refine (laws_toPair p _).mono ?_; rintro e w3 ⟨rfl, hb3⟩; obtain ⟨q, x0, x1, x2, f0, f1, f2, hq, HP⟩ := put_Pr (Kd.R_below HO2.out hb3) k hlt p)
      rw [← hp.out, HS.out] at HP
      go_roundw
      case rel => exact ⟨k + 1, by omega, by go_num, by rw [hp.out] at HP; exact HP, below_set (below_set (below_set (below_step hb hb3) hg1) hg1) hg1⟩
      case measure => simp [intOf]; omega
    · obtain rfl : k = m.length := by omega
      rw [filled_all] at HO
      go_wp2
      go_ret
      exact ⟨_, rfl, HO.out, hb⟩
end Go.Proofs.Ytdmbbocjaagfkaa.Z
