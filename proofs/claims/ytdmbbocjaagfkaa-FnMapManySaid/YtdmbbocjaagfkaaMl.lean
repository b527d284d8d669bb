/- MapOut of the program and of the reference. -/
import Derived.Test.YtdmbbocjaagfkaaMk
import Derived.Test.YtdmbbocjaagfkaaMe
import Derived.Test.YtdmbbocjaagfkaaRg
namespace Go.Proofs.Ytdmbbocjaagfkaa.Z
open Go.RowKit Go.Proofs.YtdmbbocjaagfkaaW.PrintWords
set_option linter.unusedVariables false
set_option linter.unusedSimpArgs false
attribute [local go_sem ↓] Go.wp_at_zero Go.wp_at_succ
attribute [local go_sem high] eqEn eqPr

/-- What MapOut answers. -/
noncomputable def mapOutF (m : List Pr) (e : En) : List Pr × Int × Bool := if mapOkB m && insideB e then outS m e else ([], 0, false)
theorem outI_eq {m : List Pr} {e : En} (h : mapOkB m = true) : outI m e = outS m e := by
  have key : portFrom m e 0 = (outAt m e 0).elim 0 (·.port) := rfl
  unfold outI
  rw [outS_of, key]
  cases ho : outAt m e 0 with
  | none => simp
  | some p =>
    have hm : p ∈ m := List.mem_of_find?_eq_some (show (m.drop 0).find? _ = some p from ho)
    obtain ⟨k, hk, rfl⟩ := List.getElem_of_mem hm
    have hg := ((mapOkB_iff.1 h).1 k hk).1
    rw [List.getD_eq_getElem?_getD, List.getElem?_eq_getElem hk] at hg
    simp only [Option.elim, Option.getD_some] at hg ⊢
    have hne : m[k].port ≠ 0 := by omega
    exact if_pos hne

set_option maxHeartbeats 1000000 in
theorem impl_MapOut (A : Option Addr) (n c : Nat) (m : List Pr) (e : En) (w : World) (hC : Kd.C kPr w A n m) (hn : n ≤ 1099511627776) (hc : n ≤ c) :
    Calls Try.prog 23 #[.slice A n c, vEn e] w fun r w' => ∃ v, r = .returned (.tuple #[v, .int .i64 (mapOutF m e).2.1, .bool (mapOutF m e).2.2]) ∧ Cl kPr 34 w' w.heap.size v (mapOutF m e).1 ∧ Below w.heap.size w w' := by
  cases hk : mapOkB m
  · have HV : Aside0 (mapOutF m e = ([], 0, false)) := ⟨by unfold mapOutF; rw [hk]; rfl⟩
    have HK := Aside0.mk hk; clear hk
    go_enter Try.func23, Try.ntmps23
    go_wp2_with (go_at_call 14; refine (impl_MapOk A n c m _ (Kd.C_below hC ((by repeat (first | (with_reducible exact (Below.refl _ _)) | (with_reducible apply below_alloc) | (with_reducible apply pw_below_drewN) | (with_reducible apply below_drew1) | with_reducible refine below_set ?_ (by first | (with_reducible exact Nat.le_refl _) | (with_reducible assumption) | (simp; done) | omega))))) hn hc).mono ?_; rintro e w1 ⟨rfl, hb⟩; rw [HK.out]; obtain ⟨hbc, hbf, hbz⟩ := bcell hb; (try simp at hbz); (try have hb0 : w.heap.size < w1.heap.size := by omega); (try have hb1 : w.heap.size + 1 < w1.heap.size := by omega); (try have hb2 : w.heap.size + 2 < w1.heap.size := by omega))
    go_ret3
    exact ⟨_, by rw [HV.out]; rfl, by rw [HV.out]; exact ⟨none, 0, rfl, Kd.R_nil _ _ _ _ _⟩, below_step (by repeat (first | (with_reducible exact (Below.refl _ _)) | (with_reducible apply below_alloc) | (with_reducible apply pw_below_drewN) | (with_reducible apply below_drew1) | with_reducible refine below_set ?_ (by first | (with_reducible exact Nat.le_refl _) | (with_reducible assumption) | (simp; done) | omega))) hb⟩
  · have HO := Aside0.mk (outI_eq (e := e) hk)
    cases hi : insideB e
    · have HV : Aside0 (mapOutF m e = ([], 0, false)) := ⟨by unfold mapOutF; rw [hk, hi]; rfl⟩
      have HK := Aside0.mk hk; clear hk
      have HI := Aside0.mk hi; clear hi
      go_enter Try.func23, Try.ntmps23
      go_wp2_with (first | (go_at_call 14; refine (impl_MapOk A n c m _ (Kd.C_below hC ((by repeat (first | (with_reducible exact (Below.refl _ _)) | (with_reducible apply below_alloc) | (with_reducible apply pw_below_drewN) | (with_reducible apply below_drew1) | with_reducible refine below_set ?_ (by first | (with_reducible exact Nat.le_refl _) | (with_reducible assumption) | (simp; done) | omega))))) hn hc).mono ?_; rintro r w1 ⟨rfl, hb⟩; rw [HK.out]; obtain ⟨hbc, hbf, hbz⟩ := bcell hb; (try simp at hbz); (try have hb0 : w.heap.size < w1.heap.size := by omega); (try have hb1 : w.heap.size + 1 < w1.heap.size := by omega); (try have hb2 : w.heap.size + 2 < w1.heap.size := by omega)) | (go_at_call 31; refine (impl_EndInside e _).mono ?_; rintro r w2 ⟨rfl, hb2⟩; rw [HI.out]; obtain ⟨hb2c, hb2f, hb2z⟩ := bcell hb2; (try simp at hb2z); (try have hb20 : w.heap.size < w2.heap.size := by omega); (try have hb21 : w.heap.size + 1 < w2.heap.size := by omega); (try have hb22 : w.heap.size + 2 < w2.heap.size := by omega)))
      go_ret3
      exact ⟨_, by rw [HV.out]; rfl, by rw [HV.out]; exact ⟨none, 0, rfl, Kd.R_nil _ _ _ _ _⟩, below_step (below_step (by repeat (first | (with_reducible exact (Below.refl _ _)) | (with_reducible apply below_alloc) | (with_reducible apply pw_below_drewN) | (with_reducible apply below_drew1) | with_reducible refine below_set ?_ (by first | (with_reducible exact Nat.le_refl _) | (with_reducible assumption) | (simp; done) | omega))) hb) hb2⟩
    · have HV : Aside0 (mapOutF m e = outI m e) := ⟨by unfold mapOutF; rw [hk, hi, HO.out]; rfl⟩
      have HK := Aside0.mk hk; clear hk
      have HI := Aside0.mk hi; clear hi
      go_enter Try.func23, Try.ntmps23
      go_wp2_with (first | (go_at_call 14; refine (impl_MapOk A n c m _ (Kd.C_below hC ((by repeat (first | (with_reducible exact (Below.refl _ _)) | (with_reducible apply below_alloc) | (with_reducible apply pw_below_drewN) | (with_reducible apply below_drew1) | with_reducible refine below_set ?_ (by first | (with_reducible exact Nat.le_refl _) | (with_reducible assumption) | (simp; done) | omega))))) hn hc).mono ?_; rintro r w1 ⟨rfl, hb⟩; rw [HK.out]; obtain ⟨hbc, hbf, hbz⟩ := bcell hb; (try simp at hbz); (try have hb0 : w.heap.size < w1.heap.size := by omega); (try have hb1 : w.heap.size + 1 < w1.heap.size := by omega); (try have hb2 : w.heap.size + 2 < w1.heap.size := by omega)) | (go_at_call 31; refine (impl_EndInside e _).mono ?_; rintro r w2 ⟨rfl, hb2⟩; rw [HI.out]; obtain ⟨hb2c, hb2f, hb2z⟩ := bcell hb2; (try simp at hb2z); (try have hb20 : w.heap.size < w2.heap.size := by omega); (try have hb21 : w.heap.size + 1 < w2.heap.size := by omega); (try have hb22 : w.heap.size + 2 < w2.heap.size := by omega)) | (go_at_call 42; refine (impl_out A n c m e _ (Kd.C_below hC (below_step (below_step (by repeat (first | (with_reducible exact (Below.refl _ _)) | (with_reducible apply below_alloc) | (with_reducible apply pw_below_drewN) | (with_reducible apply below_drew1) | with_reducible refine below_set ?_ (by first | (with_reducible exact Nat.le_refl _) | (with_reducible assumption) | (simp; done) | omega))) hb) hb2)) hn).mono ?_; rintro r w3 ⟨v3, rfl, hL3, hb3⟩; obtain ⟨hb3c, hb3f, hb3z⟩ := bcell hb3; (try simp at hb3z); (try have hb30 : w.heap.size < w3.heap.size := by omega); (try have hb31 : w.heap.size + 1 < w3.heap.size := by omega); (try have hb32 : w.heap.size + 2 < w3.heap.size := by omega)))
      go_ret3
      exact ⟨v3, by rw [HV.out]; rfl, by rw [HV.out]; exact hL3.lower (by omega), below_step (below_step (below_step (by repeat (first | (with_reducible exact (Below.refl _ _)) | (with_reducible apply below_alloc) | (with_reducible apply pw_below_drewN) | (with_reducible apply below_drew1) | with_reducible refine below_set ?_ (by first | (with_reducible exact Nat.le_refl _) | (with_reducible assumption) | (simp; done) | omega))) hb) hb2) hb3⟩

set_option maxHeartbeats 1000000 in
theorem spec_MapOut (A : Option Addr) (n c : Nat) (m : List Pr) (e : En) (w : World) (hC : Kd.C kPr w A n m) (hn : n ≤ 1099511627776) :
    Calls Try.prog 22 #[.slice A n c, vEn e] w fun r w' => ∃ v, r = .returned (.tuple #[v, .int .i64 (mapOutF m e).2.1, .bool (mapOutF m e).2.2]) ∧ Kd.R kPr 34 w' w.heap.size (fun _ => True) v (mapOutF m e).1 ∧ Below w.heap.size w w' := by
  cases hk : mapOkB m
  · have HV : Aside0 (mapOutF m e = ([], 0, false)) := ⟨by unfold mapOutF; rw [hk]; rfl⟩
    have HK := Aside0.mk hk; clear hk
    go_enter Try.func22, Try.ntmps22
    go_wp2_with (first | (go_at_call 12; refine (spec_MapOk A n c m _ (Kd.C_below hC ((by repeat (first | (with_reducible exact (Below.refl _ _)) | (with_reducible apply below_alloc) | (with_reducible apply pw_below_drewN) | (with_reducible apply below_drew1) | with_reducible refine below_set ?_ (by first | (with_reducible exact Nat.le_refl _) | (with_reducible assumption) | (simp; done) | omega))))) hn).mono ?_; rintro e w1 ⟨rfl, hb⟩; rw [HK.out]; obtain ⟨hbc, hbf, hbz⟩ := bcell hb; (try simp at hbz); (try have hb0 : w.heap.size < w1.heap.size := by omega); (try have hb1 : w.heap.size + 1 < w1.heap.size := by omega); (try have hb2 : w.heap.size + 2 < w1.heap.size := by omega)) | ((with_reducible refine gate_dst (N := 15) rfl ?_); refine Kd.R_lit kPr w.heap.size 34 ?hg (N := 15) ?hd (xs := ([] : List Pr)) (inner := []) (ok := fun _ => True) (okp := fun _ => True) ?hr ?hp (fun _ hk => hk) trivial (below_step (by repeat (first | (with_reducible exact (Below.refl _ _)) | (with_reducible apply below_alloc) | (with_reducible apply pw_below_drewN) | (with_reducible apply below_drew1) | with_reducible refine below_set ?_ (by first | (with_reducible exact Nat.le_refl _) | (with_reducible assumption) | (simp; done) | omega))) hb) (by first | exact Nat.le_refl _ | omega) (by simp) ?_; (case hd => rfl); (case hg => rfl); (case hr => first | (go_simp; done) | (go_simp; rfl)); (case hp => exact (Reps.none _ _)); intro v3 w3 ho3 hb3 _ _))
    go_ret3
    exact ⟨_, by rw [HV.out]; rfl, by rw [HV.out]; exact ho3, hb3⟩
  · cases hi : insideB e
    · have HV : Aside0 (mapOutF m e = ([], 0, false)) := ⟨by unfold mapOutF; rw [hk, hi]; rfl⟩
      have HK := Aside0.mk hk; clear hk
      have HI := Aside0.mk hi; clear hi
      go_enter Try.func22, Try.ntmps22
      go_wp2_with (first | (go_at_call 12; refine (spec_MapOk A n c m _ (Kd.C_below hC ((by repeat (first | (with_reducible exact (Below.refl _ _)) | (with_reducible apply below_alloc) | (with_reducible apply pw_below_drewN) | (with_reducible apply below_drew1) | with_reducible refine below_set ?_ (by first | (with_reducible exact Nat.le_refl _) | (with_reducible assumption) | (simp; done) | omega))))) hn).mono ?_; rintro e w1 ⟨rfl, hb⟩; rw [HK.out]; obtain ⟨hbc, hbf, hbz⟩ := bcell hb; (try simp at hbz); (try have hb0 : w.heap.size < w1.heap.size := by omega); (try have hb1 : w.heap.size + 1 < w1.heap.size := by omega); (try have hb2 : w.heap.size + 2 < w1.heap.size := by omega)) | (go_at_call 25; refine (spec_EndInside e _).mono ?_; rintro r w2 ⟨rfl, hb2⟩; rw [HI.out]; obtain ⟨hb2c, hb2f, hb2z⟩ := bcell hb2; (try simp at hb2z); (try have hb20 : w.heap.size < w2.heap.size := by omega); (try have hb21 : w.heap.size + 1 < w2.heap.size := by omega); (try have hb22 : w.heap.size + 2 < w2.heap.size := by omega)) | ((with_reducible refine gate_dst (N := 15) rfl ?_); refine Kd.R_lit kPr w.heap.size 34 ?hg (N := 15) ?hd (xs := ([] : List Pr)) (inner := []) (ok := fun _ => True) (okp := fun _ => True) ?hr ?hp (fun _ hk => hk) trivial (below_step (below_step (by repeat (first | (with_reducible exact (Below.refl _ _)) | (with_reducible apply below_alloc) | (with_reducible apply pw_below_drewN) | (with_reducible apply below_drew1) | with_reducible refine below_set ?_ (by first | (with_reducible exact Nat.le_refl _) | (with_reducible assumption) | (simp; done) | omega))) hb) hb2) (by first | exact Nat.le_refl _ | omega) (by simp) ?_; (case hd => rfl); (case hg => rfl); (case hr => first | (go_simp; done) | (go_simp; rfl)); (case hp => exact (Reps.none _ _)); intro v3 w3 ho3 hb3 _ _))
      go_ret3
      exact ⟨_, by rw [HV.out]; rfl, by rw [HV.out]; exact ho3, hb3⟩
    · have HV : Aside0 (mapOutF m e = outS m e) := ⟨by unfold mapOutF; rw [hk, hi]; rfl⟩
      have HK := Aside0.mk hk; clear hk
      have HI := Aside0.mk hi; clear hi
      go_enter Try.func22, Try.ntmps22
      go_wp2_with (first | (go_at_call 12; refine (spec_MapOk A n c m _ (Kd.C_below hC ((by repeat (first | (with_reducible exact (Below.refl _ _)) | (with_reducible apply below_alloc) | (with_reducible apply pw_below_drewN) | (with_reducible apply below_drew1) | with_reducible refine below_set ?_ (by first | (with_reducible exact Nat.le_refl _) | (with_reducible assumption) | (simp; done) | omega))))) hn).mono ?_; rintro e w1 ⟨rfl, hb⟩; rw [HK.out]; obtain ⟨hbc, hbf, hbz⟩ := bcell hb; (try simp at hbz); (try have hb0 : w.heap.size < w1.heap.size := by omega); (try have hb1 : w.heap.size + 1 < w1.heap.size := by omega); (try have hb2 : w.heap.size + 2 < w1.heap.size := by omega)) | (go_at_call 25; refine (spec_EndInside e _).mono ?_; rintro r w2 ⟨rfl, hb2⟩; rw [HI.out]; obtain ⟨hb2c, hb2f, hb2z⟩ := bcell hb2; (try simp at hb2z); (try have hb20 : w.heap.size < w2.heap.size := by omega); (try have hb21 : w.heap.size + 1 < w2.heap.size := by omega); (try have hb22 : w.heap.size + 2 < w2.heap.size := by omega)))
      refine lin_start (fun w' => w'.cell? ⟨w.heap.size, 0, none⟩ = some (.int .i64 e.addr) ∧ w'.cell? ⟨w.heap.size, 1, none⟩ = some (.int .i64 e.port)) (true, [([], []), ([0], [0]), ([], []), ([1, 2, 1], [1, 2]), ([3], [3]), ([3], [3]), ([3], [3]), ([4, 3, 0, 1, 2, 3, 4, 5, 6], [4]), ([5, 7, 0, 1, 2, 3, 4, 5, 6, 7], [5]), ([6, 8, 0, 1, 2, 3, 4, 5, 6, 7, 8], [6])]) [0, 2, 1, 3, 4, 5, 6, 7, 8, 9] (by kernel_rfl) (by kernel_rfl) (by kernel_rfl) ?_ ?_
      · simp [*]
      repeat (first | (refine lin_take rfl rfl (by kernel_rfl) (fun _ _ _ h => h) (by rfl) (v := ?_) (a' := ?_) ?_ ?_ ?_; rotate_left 2; (rintro w' ⟨s0, s1⟩; go_simp; with_reducible rfl); (simp only [List.getElem_toArray, List.getElem_cons_zero, List.getElem_cons_succ, Act.put, List.setIfInBounds_toArray, List.set_cons_zero, List.set_cons_succ]; rfl)) | (refine lin_off rfl rfl (by kernel_rfl) (fun _ _ _ h => h) (by rfl) (a' := ?_) ?_ ?_; rotate_left 1; (simp only [List.getElem_toArray, List.getElem_cons_zero, List.getElem_cons_succ, Act.put, List.setIfInBounds_toArray, List.set_cons_zero, List.set_cons_succ]; rfl)))
      refine lin_call rfl rfl rfl Try.func41 (by kernel_rfl) (by kernel_rfl) rfl (by rfl) (args := #[.slice A n c]) (by (try simp only [List.map_toArray, List.map_cons, List.map_nil]); first | done | rfl) (fun hS => ?_)
      refine (spec_l3Copy A n c m _ (Kd.C_below (w := w) hC (by repeat (first | (with_reducible exact (below_step (below_step (by repeat (first | (with_reducible exact (Below.refl _ _)) | (with_reducible apply below_alloc))) hb) hb2)) | (with_reducible apply below_alloc) | (with_reducible apply pw_below_drewN) | (with_reducible apply below_drew1) | with_reducible refine below_set ?_ (by first | (with_reducible exact Nat.le_refl _) | (with_reducible assumption) | (simp; done) | omega)))) hn).mono ?_
      rintro r w3 ⟨v3, rfl, hR3, hb3⟩
      refine ⟨_, rfl, ?_, ?_⟩
      · first | exact (hb3.cell (by first | exact hb20)).trans hS | (obtain ⟨s0, s1⟩ := hS; exact ⟨(hb3.cell (by first | exact hb20)).trans s0, (hb3.cell (by first | exact hb20)).trans s1⟩)
      refine lin_norm (a' := ?_) ?_ ?_; rotate_left 1; (simp only [List.getElem_toArray, List.getElem_cons_zero, List.getElem_cons_succ, Act.put, List.setIfInBounds_toArray, List.set_cons_zero, List.set_cons_succ]; rfl)
      repeat (first | (refine lin_take rfl rfl (by kernel_rfl) (fun _ _ _ h => h) (by rfl) (v := ?_) (a' := ?_) ?_ ?_ ?_; rotate_left 2; (rintro w' ⟨s0, s1⟩; go_simp; with_reducible rfl); (simp only [List.getElem_toArray, List.getElem_cons_zero, List.getElem_cons_succ, Act.put, List.setIfInBounds_toArray, List.set_cons_zero, List.set_cons_succ]; rfl)) | (refine lin_off rfl rfl (by kernel_rfl) (fun _ _ _ h => h) (by rfl) (a' := ?_) ?_ ?_; rotate_left 1; (simp only [List.getElem_toArray, List.getElem_cons_zero, List.getElem_cons_succ, Act.put, List.setIfInBounds_toArray, List.set_cons_zero, List.set_cons_succ]; rfl)))
      obtain ⟨A3, c3, rfl, hl3, _⟩ := Kd.R_reads hR3
      have hz3 := hb3.size
      refine lin_call rfl rfl rfl Try.func40 (by kernel_rfl) (by kernel_rfl) rfl (by rfl) (args := #[.slice A3 m.length c3, vEn e]) (by (try simp only [List.map_toArray, List.map_cons, List.map_nil]); first | done | rfl) (fun hS => ?_)
      refine (spec_l3Out A3 c3 m e w2.heap.size w3 hR3 hz3 (by rw [hC.1]; exact hn)).mono ?_
      rintro r w4 ⟨v4, rfl, hR4, hb4⟩
      refine ⟨_, rfl, ?_, ?_⟩
      · first | exact (hb4.cell (by first | exact hb20)).trans hS | (obtain ⟨s0, s1⟩ := hS; exact ⟨(hb4.cell (by first | exact hb20)).trans s0, (hb4.cell (by first | exact hb20)).trans s1⟩)
      refine lin_norm (a' := ?_) ?_ ?_; rotate_left 1; (simp only [List.getElem_toArray, List.getElem_cons_zero, List.getElem_cons_succ, Act.put, List.setIfInBounds_toArray, List.set_cons_zero, List.set_cons_succ]; rfl)
      repeat (first | (refine lin_take rfl rfl (by kernel_rfl) (fun _ _ _ h => h) (by rfl) (v := ?_) (a' := ?_) ?_ ?_ ?_; rotate_left 2; (rintro w' ⟨s0, s1⟩; go_simp; with_reducible rfl); (simp only [List.getElem_toArray, List.getElem_cons_zero, List.getElem_cons_succ, Act.put, List.setIfInBounds_toArray, List.set_cons_zero, List.set_cons_succ]; rfl)) | (refine lin_off rfl rfl (by kernel_rfl) (fun _ _ _ h => h) (by rfl) (a' := ?_) ?_ ?_; rotate_left 1; (simp only [List.getElem_toArray, List.getElem_cons_zero, List.getElem_cons_succ, Act.put, List.setIfInBounds_toArray, List.set_cons_zero, List.set_cons_succ]; rfl)))
      refine lin_done (by kernel_rfl) ?_
      go_wp2
      go_ret3
      exact ⟨v4, by rw [HV.out]; rfl, by rw [HV.out]; exact Kd.R_lower hR4 (Nat.le_of_lt hb20), (below_drew (below_step (below_step (by repeat (first | (with_reducible exact (Below.refl _ _)) | (with_reducible apply below_alloc) | (with_reducible apply pw_below_drewN) | (with_reducible apply below_drew1) | with_reducible refine below_set ?_ (by first | (with_reducible exact Nat.le_refl _) | (with_reducible assumption) | (simp; done) | omega))) hb) hb2)).trans ((hb3.trans hb4).mono (Nat.le_of_lt hb20))⟩
end Go.Proofs.Ytdmbbocjaagfkaa.Z
